/- What the statement reaches, in order. -/
import Derived.Test.YtgnablliekgbgaaDoorMNPLN
import Derived.Test.YtgnablliekgbgaaDoorMNPLL
import Derived.Test.YtgnablliekgbgaaDoorMNTI
import Derived.Test.YtgnablliekgbgaaDoorMNPLI
import Derived.Test.YtgnablliekgbgaaDoorMNPLZ
import Derived.KernelRfl
import Derived.Lib.BufferRead
import Derived.Lib.ConvBytes
import Derived.Laws.IdiomStrings
import Derived.Test.YtgnablliekgbgaaDoorMNPLH
import Derived.Recover
import Derived.WalkKit
import Derived.ProofKit
import Derived.OpenShut
import Derived.ChangeOld
import Derived.Below
import Derived.Carry
import Derived.LaidMore
import Derived.Deep.DeepHandedRow
import Derived.Deep.DeepWitnessRowRef
import Derived.Lib.LaidTab
import Derived.Stop.Joined
import Derived.Test.YtgnablliekgbgaaDoorMN4
set_option linter.unusedSimpArgs false
set_option linter.unusedVariables false
set_option maxRecDepth 100000
namespace Go.Proofs.YtgnablliekgbgaaDoor
open Go Go.PL Go.RowKit
def lsT (t : Tr) (g : UInt8) (lo hi : Nat) : List Tr := if badL g lo hi t then List.replicate lo Tr.z else t.kids
theorem lsT_bad {t : Tr} {g : UInt8} {lo hi : Nat} (h : (((rdSeq t g lo hi).2 : Nat) : Int) ≠ 0) : lsT t g lo hi = List.replicate lo Tr.z := by
  unfold rdSeq at h
  split at h
  · exact if_pos ‹_›
  · exact absurd rfl h
theorem lsT_ok {t : Tr} {g : UInt8} {lo hi : Nat} (h : (((rdSeq t g lo hi).2 : Nat) : Int) = 0) : (rdSeq t g lo hi).1 = lsT t g lo hi := by
  unfold rdSeq at h ⊢
  unfold lsT
  split at h
  · cases h
  · rw [if_neg ‹_›, if_neg ‹_›]
theorem trs_rep : ∀ n : Nat, trs (List.replicate n HT.z) = List.replicate n Tr.z
  | 0 => rfl
  | n + 1 => by rw [List.replicate_succ, List.replicate_succ, ← trs_rep n]; rfl
theorem hcs_rep : ∀ n : Nat, (List.replicate n [Value.int .u8 0, nl, nl]).flatten = hcs (List.replicate n HT.z)
  | 0 => rfl
  | n + 1 => by rw [List.replicate_succ, List.replicate_succ, List.flatten_cons, hcs_rep n]; rfl
theorem mem_reps {w0 w : World} {Ln : List Nat} {S : List Fact} : ∀ (n : Nat) {M : List Ent}, Mem w0 Ln M S w → Mem w0 Ln (entsL (List.replicate n HT.z) ++ M) S w
  | 0, M, h => h
  | n + 1, M, h => by
    have h2 := mem_reps n h
    have h3 := (h2.nilRow 61 3).nilRow 5 1
    exact h3
theorem mem_mk {w0 w : World} {Ln : List Nat} {S : List Fact} {e : Ent} {v : Value} {n : Nat} (h : Mem w0 Ln [.row v n 61 3 (hcs (List.replicate n HT.z)), e] S w) : Mem w0 Ln (e :: rowsL v (List.replicate n HT.z)) S w := by
  have h2 := (mem_reps n h).perm (List.perm_append_comm (l₁ := entsL (List.replicate n HT.z)) (l₂ := [.row v n 61 3 (hcs (List.replicate n HT.z)), e]))
  have h3 := h2.perm (List.Perm.swap _ _ _)
  rw [rowsL, List.length_replicate]
  exact h3
theorem sv_rep {x : HT} {n : Nat} (h : x ∈ List.replicate n HT.z) : x.sv := by rw [(List.mem_replicate.1 h).2]; exact ⟨SV.nil, SV.nil⟩
theorem rdrList (eb : Nat) (t : HT) (g : UInt8) (lo : Nat) (hi : Nat) (cur : Int) (w : World) (hB : Mem w (nums [.blk eb 24 [.int .i64 cur]]) [.blk eb 24 [.int .i64 cur]] [] w) (ht : HSeen (rdO (nums [.blk eb 24 [.int .i64 cur]]) w) t) (hsm : Sm t.tr) (hlo : lo ≤ 10) :
    Calls Tryd.prog 40 [.agg #[.func (.func 37) #[] #[.pointer (some ⟨eb, 0, none⟩)]], .agg t.c.toArray, .int .u8 g.toNat, .int .i64 ((lo : Nat) : Int), .int .i64 ((hi : Nat) : Int)].toArray w (GivesA w [.blk eb 24 [.int .i64 cur]] (fun y : Value × List HT => trs y.2 = lsT t.tr g lo hi ∧ SV y.1 y.2.length ∧ ∀ x ∈ y.2, x.sv) (fun y => y.1) (fun y => .blk eb 24 [.int .i64 (orE cur (((rdSeq t.tr g lo hi).2 : Nat) : Int))] :: rowsL y.1 y.2)) := by
  haveI := ht.sv.one
  refine enter (m := 30) (R := Mem w (nums [.blk eb 24 [.int .i64 cur]]) [.blk eb 24 [.int .i64 cur]] []) Tryd.func40 rfl rfl (Nat.le_of_ble_eq_true rfl) hB ?_
  refine wpc_seq <| wpc_region ?_
  refine wpl_t (t_box rfl [(.func (.func 37) #[] #[.pointer (some ⟨eb, 0, none⟩)])] rfl) rfl (fun b5 => ?_)
  refine wpl_t (t_box rfl t.c rfl) rfl (fun b6 => ?_)
  refine wpl_q (q_pure rfl) rfl <| wpl_nil <| ex_then <| wpc_seq <| wpc_region <| wpl_q (q_ldN Tryd.underlying61 rfl Tryd.ti61 rfl LenC.h) rfl <| wpl_q (q_pure rfl) rfl <| wpl_q (q_pure rfl) rfl <| wpl_q (q_pure rfl) rfl ?_
  refine wpl_tp (t_callE (fun y : Value × List HT => .blk b6 61 t.c :: .blk b5 84 [(.func (.func 37) #[] #[.pointer (some ⟨eb, 0, none⟩)])] :: .blk eb 24 [.int .i64 cur] :: .row y.1 y.2.length 61 3 (hcs y.2) :: entsL y.2) (fun y => List.perm_append_comm (l₁ := .row y.1 y.2.length 61 3 (hcs y.2) :: entsL y.2) (l₂ := [.blk b6 61 t.c, .blk b5 84 [(.func (.func 37) #[] #[.pointer (some ⟨eb, 0, none⟩)])], .blk eb 24 [.int .i64 cur]])) Tryd.hb66 rfl fun w h => octReadSeq t g lo hi w (ht.mono (rdo_old h)) hsm) rfl (fun b18 p18 => ?_)
  refine wpl_q (q_pure rfl) rfl <| wpl_q (q_pure rfl) rfl <| wpl_q (q_pure rfl) rfl <| wpl_q (q_pure rfl) rfl <| wpl_q (q_pure rfl) rfl <| wpl_nil <| ex_then <| wpc_seq <| wpc_seq <| wpc_region <| wpl_q (q_field Tryd.underlying84 rfl Tryd.ti82 rfl rfl _ rfl) rfl <| wpl_q (q_ld Tryd.underlying82 rfl rfl rfl) rfl ?_
  refine wpl_q (q_pure rfl) rfl ?_
  refine wpl_tp (t_callW (N := fun _ : Unit => [.blk eb 24 [.int .i64 (orE cur (((rdSeq t.tr g lo hi).2 : Nat) : Int))]]) [.blk eb 24 [.int .i64 cur]] (.blk b6 61 t.c :: .blk b5 84 [(.func (.func 37) #[] #[.pointer (some ⟨eb, 0, none⟩)])] :: .row b18.1 b18.2.length 61 3 (hcs b18.2) :: entsL b18.2) (.blk eb 24 [.int .i64 cur] :: .blk b6 61 t.c :: .blk b5 84 [(.func (.func 37) #[] #[.pointer (some ⟨eb, 0, none⟩)])] :: .row b18.1 b18.2.length 61 3 (hcs b18.2) :: entsL b18.2) (fun _ => .blk eb 24 [.int .i64 (orE cur (((rdSeq t.tr g lo hi).2 : Nat) : Int))] :: .blk b6 61 t.c :: .blk b5 84 [(.func (.func 37) #[] #[.pointer (some ⟨eb, 0, none⟩)])] :: .row b18.1 b18.2.length 61 3 (hcs b18.2) :: entsL b18.2) (fun _ => []) rfl (fun _ _ _ h => h) rfl Tryd.hb37 rfl fun w h h2 => failC (((rdSeq t.tr g lo hi).2 : Nat) : Int) eb cur w h2) rfl (fun b24 p24 => ?_)
  refine wpl_nil <| ex_then <| wpc_seq <| wpc_region <| wpl_q (q_pure rfl) rfl <| wpl_q (q_pure rfl) rfl <| wpl_nil <| ex_then ?_
  refine wpc_cond rfl (fun hc26 => ?_) (fun hc26 => ?_)
  ·
   have hN : (((rdSeq t.tr g lo hi).2 : Nat) : Int) ≠ 0 := by simpa using hc26
   refine wpc_seq <| wpc_region <| wpl_q (q_pure rfl) rfl ?_
   refine wpl_tp (t_mkW Tryd.underlying59 Tryd.ti61 rfl rfl zz1 zz1 zz1 (hcs (List.replicate lo HT.z)) rfl (hcs_rep lo)) rfl (fun b28 p28 => ?_)
   refine wpl_q (q_pure rfl) rfl <| wpl_nil <| ex_then <| wpc_ret ?_
   refine ex_then_ret ?_
   refine ret1 (.inl rfl) rfl rfl ?_
   exact fun w1 h => ⟨(b28, List.replicate lo HT.z), ⟨by rw [lsT_bad hN]; exact trs_rep lo, by show SV b28 (List.replicate lo HT.z).length; rw [List.length_replicate]; exact p28, fun x hx => sv_rep hx⟩, rfl, mem_mk ((show Mem w (nums [.blk eb 24 [.int .i64 cur]]) [.row b28 lo 61 3 (hcs (List.replicate lo HT.z)), .blk eb 24 [.int .i64 (orE cur (((rdSeq t.tr g lo hi).2 : Nat) : Int))]] [] w1 from h.sub SubC.h .nil))⟩
  ·
   have hZ : (((rdSeq t.tr g lo hi).2 : Nat) : Int) = 0 := by simpa using hc26
   refine wpc_skip <| ex_then <| wpc_seq <| wpc_region <| wpl_q (q_pure rfl) rfl <| wpl_q (q_pure rfl) rfl <| wpl_nil <| ex_then <| wpc_ret ?_
   refine ret1 (.inl rfl) rfl rfl ?_
   exact fun w1 h => ⟨(b18.1, b18.2), ⟨p18.1.trans (lsT_ok hZ), p18.2.1, p18.2.2⟩, rfl, h.sub (M' := .blk eb 24 [.int .i64 (orE cur (((rdSeq t.tr g lo hi).2 : Nat) : Int))] :: .row b18.1 b18.2.length 61 3 (hcs b18.2) :: entsL b18.2) SubC.h .nil⟩
end Go.Proofs.YtgnablliekgbgaaDoor
namespace Go.Proofs.YtgnablliekgbgaaDoor
open Go Go.PL Go.RowKit
def slv3 (v : Value) (l k sz : Nat) : Value := match v with
  | .slice a _ _ => sliced a l k k sz
  | _ => undef
theorem q_slWlhm {P : Program} {n : Cx} {R : World → Prop} {L : Slots} {t e : TypeId} {x l h mo : Operand} {v : Value} {m l' k' : Nat} {kl kh km : IntKind} {z : Value} {sz by_ : Nat} (hu : P.underlying t = some (.slice e)) (he : TyI P e z sz by_)
    (hx : ev L x = some v) (hl : ev L l = some (.int kl ((l' : Nat) : Int))) (hh : ev L h = some (.int kh ((k' : Nat) : Int))) (hm : ev L mo = some (.int km ((k' : Nat) : Int))) (hv : SV v m) (h1 : l' ≤ k') (h2 : k' ≤ m) :
    QOp P n R L (.slice t x (some l) (some h) (some mo)) (slv3 v l' k' sz) := by
  obtain ⟨a, cap, rfl, h3, _⟩ := hv
  intro d ty pos af g ac w hs _
  have hu' : P.underlying t = some (.slice (P.elem t)) := by rw [elem_of hu]; exact hu
  simp only [execOp, hs.eval hx, Option.map_some, Option.map_none, hs.eval hl, hs.eval hh, hs.eval hm]
  simp [run_sliceAt_slice w t _ _ _ _ hu', run_slice_lhm w t a m cap hu' kl kh km (l' : Int) (k' : Int) (k' : Int) zz12 zz12 zz12 zz12, elem_of hu, run_sz he, slv3]
theorem Seen.slv3 {r : Rd} {v : Value} {m : Nat} {bs : List UInt8} (h : Seen r v m 1 (v8s bs)) (l k : Nat) (h1 : l < k) (h2 : k ≤ m) : Seen r (Go.Proofs.YtgnablliekgbgaaDoor.slv3 v l k 1) (k - l) 1 (v8s ((bs.drop l).take (k - l))) := by
  have q := h.slv8 l k zz12 h2
  obtain ⟨_, a, cap, rfl, h3, h4, _⟩ := h
  obtain ⟨g1, a', cap', g2, g3, g4, g5⟩ := q
  refine ⟨g1, a', k - l, ?_, Nat.le_refl _, zz12, ?_⟩
  · have g2 : Value.slice (if cap = l then a else a.map (·.add (l * 1))) (k - l) (cap - l) = .slice a' (k - l) cap' := g2
    rw [if_neg zz12] at g2
    injection g2 with e1 e2 e3
    show Value.slice (if k = l then a else a.map (·.add (l * 1))) (k - l) (k - l) = _
    rw [if_neg zz12, e1]
  · rcases g5 with ⟨e1, e2⟩ | g5
    · omega
    · exact .inr g5
section
variable {P : Program} {n : Cx} {R : World → Prop} {L : Slots}
theorem q_minN {x y : Operand} {at_ : Array TypeId} {a b : Nat} (hx : ev L x = some (.int .i64 ((a : Nat) : Int))) (hy : ev L y = some (.int .i64 ((b : Nat) : Int))) :
    QOp P n R L (.call { callee := .builtin .min, args := #[x, y], argTypes := at_ }) (.int .i64 ((min a b : Nat) : Int)) := by
  intro d ty pos af g ac w hs _
  have e : (if ((b : Nat) : Int) < ((a : Nat) : Int) then ((b : Nat) : Int) else ((a : Nat) : Int)) = ((min a b : Nat) : Int) := by split <;> omega
  simp only [execOp, resolve, invoke, builtin, List.map_toArray, List.map_cons, List.map_nil, hs.eval hx, hs.eval hy]
  simp [run_min_int2]
  split <;> omega
end
def encC (v : Value) (n : Nat) (j : Nat) (_ : Unit) : Array Value := #[Go.Proofs.YtgnablliekgbgaaDoor.slv3 v (16 * j) (16 * j + min 16 (n - 16 * j)) 1]
def AtC (_ : List Nat) (_ : Nat) (_ : Unit) (_ : World) : Prop := True
def InvC (pp qq : Nat) (v : Value) (bs : List UInt8) (w : World) : Prop := CellsAt w.cell? ⟨pp, 0, none⟩ [v] ∧ CellsAt w.cell? ⟨qq, 0, none⟩ [.int .i64 ((16 : Nat) : Int)] ∧ Seen w.cell? v bs.length 1 (v8s bs)
def kC (n : Nat) : Nat := (n + 15) / 16
theorem rg_S {j k : Nat} (h : j < k) : (List.range j ++ [j]) <+: List.range k := by
  rw [← List.range_succ]
  refine ⟨(List.range (k - (j + 1))).map (j + 1 + ·), ?_⟩
  rw [← List.range_add]; congr 1; omega
theorem chunk (v : Value) (n : Nat) (w : World) (hsv : SV v n)  :
    Calls Tryd.prog 68 [v, .int .i64 ((16 : Nat) : Int)].toArray w (GivesP w (fun _ : Nat × Nat => True) (fun pp => .func (.func 89) #[] #[.pointer (some ⟨pp.1, 0, none⟩), .pointer (some ⟨pp.2, 0, none⟩)]) (fun pp => [.blk pp.2 3 [.int .i64 ((16 : Nat) : Int)], .blk pp.1 34 [v]]) (fun _ => [])) := by
  obtain ⟨a, cap, rfl, hz⟩ := hsv
  refine enter (m := 9) (R := Mem w [] [] []) Tryd.func68 rfl rfl (Nat.le_of_ble_eq_true rfl) (Mem.start w) ?_
  refine wpc_seq <| wpc_region ?_
  refine wpl_t (t_box rfl [.slice a n cap] rfl) rfl (fun b2 => ?_)
  refine wpl_t (t_box rfl [.int .i64 ((16 : Nat) : Int)] rfl) rfl (fun b3 => ?_)
  refine wpl_q (q_pure rfl) rfl <| wpl_nil <| ex_then <| wpc_seq <| wpc_seq <| wpc_region ?_
  refine wpl_q (q_ld Tryd.underlying3 rfl rfl zz23) rfl ?_
  refine wpl_q (q_pure rfl) rfl <| wpl_nil <| ex_then ?_
  refine wpc_cond rfl (fun hc6 => ?_) (fun hc6 => ?_)
  ·
   exact absurd hc6 zz19
  ·
   refine wpc_skip <| ex_then <| wpc_seq <| wpc_region ?_
   refine wpl_q (q_fn (us := []) (vs := [.pointer (some ⟨b2, 0, none⟩), .pointer (some ⟨b3, 0, none⟩)]) rfl rfl) rfl ?_
   refine wpl_q (q_pure rfl) rfl <| wpl_nil <| ex_then <| wpc_ret ?_
   refine ret1 (.inl rfl) rfl rfl ?_
   exact fun w h => ⟨(b2, b3), trivial, rfl, h.below, h.made SubC.h .nil⟩
theorem chunk1 (yl : Nat) (pp : Nat) (qq : Nat) (v : Value) (bs : List UInt8) (J : List Nat → List Nat → World → Prop) (K : World → Prop) (w : World)  (hst : StabJ J) (hinv : ∀ T pre w1, J T pre w1 → InvC pp qq v bs w1) (hsk : StabK K) (hy : YieldS Tryd.prog yl (encC v bs.length) AtC (List.range (kC bs.length)) J K) (hJ0 : J [] [] w) (hbl : bs.length ≤ 1000000) :
    Calls Tryd.prog 89 [.func (.yield yl) #[] #[], .pointer (some ⟨pp, 0, none⟩), .pointer (some ⟨qq, 0, none⟩)].toArray w (IterPost J K (List.range (kC bs.length))) := by
  have ssv := (hinv _ _ _ hJ0).2.2.sv
  have lss := ssv.le
  simp only [maxLen] at lss
  refine enter (m := 31) (R := Mem w [] [] []) Tryd.func89 rfl rfl (Nat.le_of_ble_eq_true rfl) (Mem.start w) ?_
  refine wpc_seq <| wpc_region <| wpl_q (q_pure rfl) rfl <| wpl_nil <| ex_then <| wpc_block ?_
  refine wpc_loopc (ι := { x : Nat × World × List Nat // (x.1 ≤ kC bs.length) ∧ (J x.2.2 (List.range x.1) x.2.1) }) [(0, _), (1, _), (2, _)] (fun x Lc => (4, .int .i64 (((16 * x.1.1 : Nat) : Nat) : Int)) :: Lc) (fun x => Mem x.1.2.1 x.1.2.2 [] []) (fun x => kC bs.length - x.1.1) ⟨(0, w, []), ⟨Nat.zero_le _, hJ0⟩⟩ zz9 ?_ ?_
  ·
   exact fun w h => h
  ·
   rintro ⟨⟨j, wb, T⟩, ⟨hi0, hi1⟩⟩; try dsimp only
   have hi0 : j ≤ kC bs.length := hi0; have hi1 : J T (List.range j) wb := hi1
   have hsee : ∀ {M : List Ent} {S : List Fact} {w : World}, Mem wb T M S w → InvC pp qq v bs w := fun h => hinv _ _ _ (hst _ _ _ _ _ hi1 (h.sub .nil .nil) (nums_lt h))
   unfold kC at hi0 ⊢
   refine wpc_seq <| wpc_seq <| wpc_region <| wpl_q (q_pure rfl) rfl ?_
   refine wpl_q (q_load1 Tryd.underlying34 rfl rfl (fun w h => ((hsee h).1 0 v rfl : w.cell? (Addr.add ⟨pp, 0, none⟩ 0) = some (v)))) rfl ?_
   refine wpl_q (q_lenW Tryd.underlying34 rfl zz3) rfl ?_
   refine wpl_q (q_pure rfl) rfl <| wpl_nil <| ex_then ?_
   refine wpc_cond rfl (fun hc9 => ?_) (fun hc9 => ?_)
   ·
    simp only [decide_eq_true_eq] at hc9
    have hil : 16 * j < bs.length := by omega
    have hjk : j < kC bs.length := by unfold kC; omega
    refine wpc_skip <| ex_then <| wpc_seq <| wpc_block <| wpc_seq ?_
    refine wpc_draw 7 zz7 (fun _ h => h.drew) ?_
    refine wpd_q 0 rfl zz7 trivial (q_load1 Tryd.underlying3 rfl rfl (fun w h => ((hsee h).2.1 0 (.int .i64 ((16 : Nat) : Int)) rfl : w.cell? (Addr.add ⟨qq, 0, none⟩ 0) = some (.int .i64 ((16 : Nat) : Int))))) rfl (fun _ h => h) ?_
    refine wpd_q 1 rfl zz7 trivial (q_load1 Tryd.underlying34 rfl rfl (fun w h => ((hsee h).1 0 v rfl : w.cell? (Addr.add ⟨pp, 0, none⟩ 0) = some (v)))) rfl (fun _ h => h) ?_
    refine wpd_p 2 rfl zz7 trivial (q_pure rfl) rfl sk0 ?_
    refine wpd_p 3 rfl zz7 trivial (q_slWl Tryd.underlying34 Tryd.ti5 rfl rfl zz3 zz12) rfl sk0 ?_
    refine wpd_p 4 rfl zz7 trivial (q_lenW Tryd.underlying34 rfl zz3) rfl sk0 ?_
    refine wpd_p 5 rfl zz7 trivial (q_minN rfl rfl) rfl sk0 ?_
    refine wpd_p 6 rfl zz7 trivial (q_pure rfl) rfl sk0 ?_
    refine wpd_done zz7 ?_
    refine ex_then <| wpc_seq ?_
    refine wpc_region_y ?_
    refine wil_q (q_pure rfl) rfl ?_
    refine wil_q (q_load1 Tryd.underlying34 rfl rfl (fun w h => ((hsee h).1 0 v rfl : w.cell? (Addr.add ⟨pp, 0, none⟩ 0) = some (v)))) rfl ?_
    refine wil_q (q_pure rfl) rfl ?_
    refine wil_q (q_pure rfl) rfl ?_
    refine wil_q (q_pure rfl) rfl ?_
    refine wil_q (q_addN rfl rfl zz1) rfl ?_
    refine wil_q (q_pure rfl) rfl ?_
    refine wil_q (q_pure rfl) rfl ?_
    refine wil_q (q_addN rfl rfl zz1) rfl ?_
    refine wil_q (q_slWlhm Tryd.underlying34 Tryd.ti5 rfl rfl rfl rfl ssv zz12 zz12) rfl ?_
    refine wil_yieldS (j) (()) rfl rfl hst hy hi1 (rg_S hjk) rfl (fun _ _ => trivial) rfl ?_ ?_
    ·
     intro u29 hu29
     refine wil_q (q_pure rfl) rfl ?_
     refine wil_nil ?_
     refine ex_then ?_
     refine wpc_cond_f rfl ?_
     refine wpc_skip <| ex_block <| ex_then <| wpc_region <| wpl_q (q_pure rfl) rfl ?_
     refine wpl_q (q_load1 Tryd.underlying3 rfl rfl (fun w h => ((hinv _ _ _ (hst _ _ _ _ _ hu29 (h.sub .nil .nil) (nums_lt h))).2.1 0 (.int .i64 ((16 : Nat) : Int)) rfl : w.cell? (Addr.add ⟨qq, 0, none⟩ 0) = some (.int .i64 ((16 : Nat) : Int))))) rfl ?_
     refine wpl_q (q_addN rfl rfl zz1) rfl ?_
     refine wpl_q (q_pure rfl) rfl <| wpl_nil ?_
     refine ex_again ⟨(j + 1, u29, []), ⟨by show j + 1 ≤ kC bs.length; unfold kC; omega, by show J [] (List.range (j + 1)) u29; rw [List.range_succ]; exact hu29⟩⟩ ?_ ?_ ?_
     ·
      exact zz9
     ·
      exact fun w h => h
     ·
      (show kC bs.length - (j + 1) < kC bs.length - j); omega
    ·
     intro u29 hu29
     refine wil_q (q_pure rfl) rfl ?_
     refine wil_nil ?_
     refine ex_then ?_
     refine wpc_cond_t rfl ?_
     refine wpc_ret ?_
     refine ex_block_ret ?_
     refine ex_then_ret ?_
     refine ex_then_ret ?_
     refine ex_block_ret ?_
     refine ret0 (.inl rfl) rfl ?_
     exact fun w h => iter_stop hsk hu29 h
   ·
    simp only [decide_eq_false_iff_not] at hc9
    obtain rfl : j = kC bs.length := by unfold kC; omega
    refine wpc_exit ?_
    refine ex_then_exit ?_
    refine ex_then_exit ?_
    refine ex_block_hit ?_
    refine ret0 (.inr rfl) rfl ?_
    exact fun w h => iter_done hst hi1 h
end Go.Proofs.YtgnablliekgbgaaDoor
namespace Go.Proofs.YtgnablliekgbgaaDoor
open Go Go.PL Go.RowKit
def pad16 (ys : List UInt8) : List UInt8 := ys.take 16 ++ (List.replicate 16 (0 : UInt8)).drop (min ys.length 16)
theorem pad16_length (ys : List UInt8) : (pad16 ys).length = 16 := by
  unfold pad16; rw [List.length_append, List.length_take, List.length_drop, List.length_replicate]; omega
theorem pad16_copy (ys : List UInt8) : (v8s (List.replicate 16 0)).take 0 ++ (v8s ys).take (min ys.length 16) ++ (v8s (List.replicate 16 0)).drop (0 + min ys.length 16) = v8s (pad16 ys) := by
  unfold pad16
  rw [v8s_append, List.take_zero, List.nil_append, Nat.zero_add, v8s_take, v8s_drop]
  congr 2
  by_cases h : ys.length ≤ 16
  · rw [Nat.min_eq_left h, List.take_of_length_le (Nat.le_refl _), List.take_of_length_le h]
  · rw [Nat.min_eq_right zz12]
theorem pad16_id {ys : List UInt8} (h : ys.length = 16) : pad16 ys = ys := by
  unfold pad16; rw [List.take_of_length_le zz12, h]; simp
def shK (bs : List UInt8) (k : Nat) : List (List UInt8) := (List.range k).map fun j => pad16 ((bs.drop (16 * j)).take (min 16 (bs.length - 16 * j)))
def shF (bs : List UInt8) : List (List UInt8) := shK bs (kC bs.length)
def shE (bs : List UInt8) : Int := if bs.length % 16 ≠ 0 then 12 else 0
theorem shK_len (bs : List UInt8) (k : Nat) : (shK bs k).length = k := by simp [shK]
theorem shK_S (bs : List UInt8) (k : Nat) : shK bs (k + 1) = shK bs k ++ [pad16 ((bs.drop (16 * k)).take (min 16 (bs.length - 16 * k)))] := by simp [shK, List.range_succ]
theorem shK_all {bs : List UInt8} {k : Nat} : ∀ x ∈ shK bs k, x.length = 16 := by
  intro x hx
  obtain ⟨j, _, rfl⟩ := List.mem_map.1 hx
  exact pad16_length _
theorem shK_flat {bs : List UInt8} : ∀ {k : Nat}, 16 * k ≤ bs.length → (shK bs k).flatten = bs.take (16 * k)
  | 0, _ => rfl
  | k + 1, h => by
    rw [shK_S, List.flatten_append, shK_flat zz12, show min 16 (bs.length - 16 * k) = 16 from zz12, pad16_id (by rw [List.length_take, List.length_drop]; omega)]
    simp only [List.flatten_cons, List.flatten_nil, List.append_nil]
    rw [show 16 * (k + 1) = 16 * k + 16 from zz12, List.take_add]
theorem shF_flat {bs : List UInt8} (h : shE bs = 0) : (shF bs).flatten = bs := by
  have h2 : bs.length % 16 = 0 := by unfold shE at h; split at h <;> omega
  have h3 : kC bs.length = bs.length / 16 := by unfold kC; omega
  unfold shF
  rw [h3, shK_flat zz12, show 16 * (bs.length / 16) = bs.length from zz12, List.take_length]
theorem orE_zero (a : Int) : orE a 0 = a := by unfold orE; split <;> omega
theorem rdStr_le (t : Tr) (g : UInt8) (mx : Int) : (rdStr t g mx).1.length ≤ t.bs.length := by
  unfold rdStr; split
  · exact Nat.zero_le _
  · exact Nat.le_refl _
theorem wpc_rebase {P : Program} {Q : Exit → Act → World → Prop} {n : Cx} {L : Slots} {c : Code} {w0 : World} {Ln : List Nat} {M : List Ent} {S : List Fact} (h : ∀ w, Mem w0 Ln M S w → WPC P Q n (Mem w (nums M) M []) L c) : WPC P Q n (Mem w0 Ln M S) L c := fun a w hs hm => h w hm a w hs hm.base
theorem seen_rdo {w0 w : World} {Ln : List Nat} {M : List Ent} {S : List Fact} {v : Value} {m sz : Nat} {vs : List Value} (h : Mem w0 Ln M S w) (hs : Go.PL.seen v m sz vs ∈ S) : Seen (rdO (nums M) w) v m sz vs := (h.facts _ hs : Seen (rdF w0.heap.size M w) v m sz vs).mono fun a u hu => by
  unfold rdF at hu
  split at hu
  · rename_i h1
    unfold rdO
    rw [if_neg]
    · exact hu
    · intro hm
      obtain ⟨e, he, hn⟩ := mem_nums.1 hm
      exact inM_not h1.2 e he hn
  · cases hu
theorem seen_out {w0 w : World} {Ln : List Nat} {M : List Ent} {S : List Fact} {v : Value} {m sz : Nat} {vs : List Value} (hs : Seen (rdO Ln w0) v m sz vs) (h : Mem w0 Ln M S w) : Seen (rdO (nums M) w) v m sz vs := hs.mono fun a u hu => by
  obtain ⟨h1, h2⟩ := rdO_some hu
  have h3 := h.cell_oldL h2 h1
  have hlt := World.block_lt_of_cell? w0 a h2
  unfold rdO
  rw [if_neg]
  · exact h3
  · intro hm
    obtain ⟨e, he, hn⟩ := mem_nums.1 hm
    rcases h.new e he _ hn with h4 | h4
    · omega
    · exact h1 h4
theorem pre_rg {pre : List Nat} {x k : Nat} (h : (pre ++ [x]) <+: List.range k) : pre.length = x ∧ x < k := by
  obtain ⟨t, ht⟩ := h
  have e : (List.range k)[pre.length]? = some x := by rw [← ht]; simp
  have hl : pre.length < k := by
    have := congrArg List.length ht
    simp at this; omega
  rw [List.getElem?_range hl] at e
  injection e with e
  exact ⟨e, zz12⟩
theorem rdrShorts (eb : Nat) (t : HT) (g : UInt8) (cur : Int) (w : World) (hB : Mem w (nums [.blk eb 24 [.int .i64 cur]]) [.blk eb 24 [.int .i64 cur]] [] w) (ht : HSeen (rdO (nums [.blk eb 24 [.int .i64 cur]]) w) t) (hbl : t.tr.bs.length ≤ 1000000) :
    Calls Tryd.prog 42 [.agg #[.func (.func 37) #[] #[.pointer (some ⟨eb, 0, none⟩)]], .agg t.c.toArray, .int .u8 g.toNat].toArray w (GivesA w [.blk eb 24 [.int .i64 cur]] (fun y : Value => SV y (shF (rdStr t.tr g 65536).1).length) (fun y => y) (fun y => [.blk eb 24 [.int .i64 (orE (orE cur (((rdStr t.tr g 65536).2 : Nat) : Int)) (shE (rdStr t.tr g 65536).1))], .row y (shF (rdStr t.tr g 65536).1).length 41 16 (v8s (shF (rdStr t.tr g 65536).1).flatten)])) := by
  haveI := ht.sv.one
  have hsb := rdStr_le t.tr g 65536
  have hs6 : (rdStr t.tr g 65536).1.length ≤ 1000000 := by omega
  have hsl : (rdStr t.tr g 65536).1.length ≤ maxLen := by unfold maxLen; omega
  refine enterN (m := 34) (R := Mem w (nums [.blk eb 24 [.int .i64 cur]]) [.blk eb 24 [.int .i64 cur]] []) Tryd.func42 rfl rfl (Nat.le_of_ble_eq_true rfl) hB ?_
  refine wpc_seq <| wpc_region ?_
  refine wpl_t (t_box rfl [(.func (.func 37) #[] #[.pointer (some ⟨eb, 0, none⟩)])] rfl) rfl (fun b3 => ?_)
  refine wpl_t (t_box rfl t.c rfl) rfl (fun b4 => ?_)
  refine wpl_q (q_pure rfl) rfl <| wpl_nil <| ex_then <| wpc_seq <| wpc_region <| wpl_q (q_ldN Tryd.underlying84 rfl Tryd.ti84 rfl LenC.h) rfl <| wpl_q (q_ldN Tryd.underlying61 rfl Tryd.ti61 rfl LenC.h) rfl <| wpl_q (q_pure rfl) rfl ?_
  refine wpl_tp (t_callW (N := fun _ : Unit => [.blk eb 24 [.int .i64 (orE cur (((rdStr t.tr g 65536).2 : Nat) : Int))]]) [.blk eb 24 [.int .i64 cur]] [.blk b4 61 t.c, .blk b3 84 [(.func (.func 37) #[] #[.pointer (some ⟨eb, 0, none⟩)])]] [.blk eb 24 [.int .i64 cur], .blk b4 61 t.c, .blk b3 84 [(.func (.func 37) #[] #[.pointer (some ⟨eb, 0, none⟩)])]] (fun _ => [.blk eb 24 [.int .i64 (orE cur (((rdStr t.tr g 65536).2 : Nat) : Int))], .blk b4 61 t.c, .blk b3 84 [(.func (.func 37) #[] #[.pointer (some ⟨eb, 0, none⟩)])]]) (fun _ => []) rfl (fun _ _ _ h => h) rfl Tryd.hb41 rfl fun w h h2 => rdrStr eb t g 65536 cur w h2 (ht.mono (rdo_nums h zz4))) rfl (fun b14 p14 => ?_)
  refine wpl_q (q_pure rfl) rfl <| wpl_nil <| ex_then ?_
  refine wpc_cutc ({ x : Int // (x = (orE (orE cur (((rdStr t.tr g 65536).2 : Nat) : Int)) (shE (rdStr t.tr g 65536).1))) }) [(7, str (rdStr t.tr g 65536).1)] (fun x Lc => Lc) (fun x => Mem w (nums [.blk eb 24 [.int .i64 cur]]) [.blk eb 24 [.int .i64 x.1], .blk b4 61 t.c, .blk b3 84 [(.func (.func 37) #[] #[.pointer (some ⟨eb, 0, none⟩)])]] []) ?_ ?_
  ·
   refine wpc_seq <| wpc_region <| wpl_q (q_pure rfl) rfl <| wpl_q (q_lenS Tryd.underlying9 rfl) rfl ?_
   refine wpl_q (q_remN (b := 16) rfl rfl zz24) rfl ?_
   refine wpl_q (q_pure rfl) rfl <| wpl_nil <| ex_then ?_
   refine wpc_cond rfl (fun hc18 => ?_) (fun hc18 => ?_)
   ·
    have hE : shE (rdStr t.tr g 65536).1 = 12 := if_pos (by have q := hc18; simp only [bne_iff_ne, ne_eq] at q; omega)
    refine wpc_region <| wpl_q (q_field Tryd.underlying84 rfl Tryd.ti82 rfl rfl _ rfl) rfl <| wpl_q (q_ld Tryd.underlying82 rfl rfl rfl) rfl ?_
    refine wpl_tp (t_callW (N := fun _ : Unit => [.blk eb 24 [.int .i64 (orE (orE cur (((rdStr t.tr g 65536).2 : Nat) : Int)) 12)]]) [.blk eb 24 [.int .i64 (orE cur (((rdStr t.tr g 65536).2 : Nat) : Int))]] [.blk b4 61 t.c, .blk b3 84 [(.func (.func 37) #[] #[.pointer (some ⟨eb, 0, none⟩)])]] [.blk eb 24 [.int .i64 (orE cur (((rdStr t.tr g 65536).2 : Nat) : Int))], .blk b4 61 t.c, .blk b3 84 [(.func (.func 37) #[] #[.pointer (some ⟨eb, 0, none⟩)])]] (fun _ => [.blk eb 24 [.int .i64 (orE (orE cur (((rdStr t.tr g 65536).2 : Nat) : Int)) 12)], .blk b4 61 t.c, .blk b3 84 [(.func (.func 37) #[] #[.pointer (some ⟨eb, 0, none⟩)])]]) (fun _ => []) rfl (fun _ _ _ h => h) rfl Tryd.hb37 rfl fun w h h2 => failC 12 eb (orE cur (((rdStr t.tr g 65536).2 : Nat) : Int)) w h2) rfl (fun b21 p21 => ?_)
    refine wpl_nil ?_
    refine ex_mid ⟨(orE (orE cur (((rdStr t.tr g 65536).2 : Nat) : Int)) 12), (by first | exact hE2 | rw [hE])⟩ ?_ ?_
    ·
     exact zz9
    ·
     exact fun w h => by first | exact h | exact h.sub SubC.h SubC.h | exact h.sub zz8 zz8
   ·
    have hE : shE (rdStr t.tr g 65536).1 = 0 := if_neg (by have q := hc18; simp only [bne_eq_false_iff_eq] at q; omega)
    have hE2 : orE cur (((rdStr t.tr g 65536).2 : Nat) : Int) = (orE (orE cur (((rdStr t.tr g 65536).2 : Nat) : Int)) (shE (rdStr t.tr g 65536).1)) := by rw [hE, orE_zero]
    refine wpc_skip ?_
    refine ex_mid ⟨(orE cur (((rdStr t.tr g 65536).2 : Nat) : Int)), (by first | exact hE2 | rw [hE])⟩ ?_ ?_
    ·
     exact zz9
    ·
     exact fun w h => by first | exact h | exact h.sub SubC.h SubC.h | exact h.sub zz8 zz8
  ·
   rintro ⟨e, hi0⟩; try dsimp only
   have hi0 : e = (orE (orE cur (((rdStr t.tr g 65536).2 : Nat) : Int)) (shE (rdStr t.tr g 65536).1)) := hi0
   refine wpc_seq <| wpc_region ?_
   refine wpl_t (t_alloc Tryd.ti28 [.slice none 0 0] rfl) rfl (fun b8 => ?_)
   refine wpl_nil <| ex_then <| wpc_seq <| wpc_seq <| wpc_region <| wpl_q (q_pure rfl) rfl ?_
   subst hi0
   refine wpl_tp (t_cvSB Tryd.underlying9 Tryd.underlying34 Tryd.underlying5 rfl hsl) rfl (fun b23 p23 => ?_)
   refine wpl_tp (t_callP2 Tryd.hb68 rfl fun w h => chunk b23 (rdStr t.tr g 65536).1.length w p23) rfl (fun b24 p24 => ?_)
   refine wpl_nil <| ex_then <| wpc_block ?_
   refine wpc_mono (R' := Mem w (nums [.blk eb 24 [.int .i64 cur]]) [.blk b8 28 [nl], .blk b24.2 3 [.int .i64 ((16 : Nat) : Int)], .blk b24.1 34 [b23], .blk eb 24 [.int .i64 (orE (orE cur (((rdStr t.tr g 65536).2 : Nat) : Int)) (shE (rdStr t.tr g 65536).1))], .blk b4 61 t.c, .blk b3 84 [(.func (.func 37) #[] #[.pointer (some ⟨eb, 0, none⟩)])]] [Go.PL.seen b23 (rdStr t.tr g 65536).1.length 1 (v8s (rdStr t.tr g 65536).1)]) (fun w1 h => h.sel) ?_
   refine wpc_rebase fun w9 hm9 => ?_
   have hs9 := seen_rdo hm9 (List.mem_cons_self ..)
   refine wpc_mono (R' := Mem w9 (nums [.blk b8 28 [nl], .blk b24.2 3 [.int .i64 ((16 : Nat) : Int)], .blk b24.1 34 [b23], .blk eb 24 [.int .i64 (orE (orE cur (((rdStr t.tr g 65536).2 : Nat) : Int)) (shE (rdStr t.tr g 65536).1))], .blk b4 61 t.c, .blk b3 84 [(.func (.func 37) #[] #[.pointer (some ⟨eb, 0, none⟩)])]]) ([] ++ [.blk b8 28 [nl], .row nl ([] : List (List UInt8)).length 41 16 (v8s ([] : List (List UInt8)).flatten), .blk b24.2 3 [.int .i64 ((16 : Nat) : Int)], .blk b24.1 34 [b23], .blk eb 24 [.int .i64 (orE (orE cur (((rdStr t.tr g 65536).2 : Nat) : Int)) (shE (rdStr t.tr g 65536).1))], .blk b4 61 t.c, .blk b3 84 [(.func (.func 37) #[] #[.pointer (some ⟨eb, 0, none⟩)])]]) []) (fun w1 h => (show Mem w9 (nums [.blk b8 28 [nl], .blk b24.2 3 [.int .i64 ((16 : Nat) : Int)], .blk b24.1 34 [b23], .blk eb 24 [.int .i64 (orE (orE cur (((rdStr t.tr g 65536).2 : Nat) : Int)) (shE (rdStr t.tr g 65536).1))], .blk b4 61 t.c, .blk b3 84 [(.func (.func 37) #[] #[.pointer (some ⟨eb, 0, none⟩)])]]) [.blk b8 28 [nl], .row nl 0 41 16 [], .blk b24.2 3 [.int .i64 ((16 : Nat) : Int)], .blk b24.1 34 [b23], .blk eb 24 [.int .i64 (orE (orE cur (((rdStr t.tr g 65536).2 : Nat) : Int)) (shE (rdStr t.tr g 65536).1))], .blk b4 61 t.c, .blk b3 84 [(.func (.func 37) #[] #[.pointer (some ⟨eb, 0, none⟩)])]] [] w1 from (h.nilRow 41 16).sel)) ?_
   refine wpc_rangeG (encs := (encC b23 (rdStr t.tr g 65536).1.length)) (At := AtC) (Inv := (InvC b24.1 b24.2 b23 (rdStr t.tr g 65536).1)) (xs := (List.range (kC (rdStr t.tr g 65536).1.length))) (ρ := Unit) (β := Unit) [] (fun s : Value × List (List UInt8) => [.blk b8 28 [s.1], .row s.1 s.2.length 41 16 (v8s s.2.flatten), .blk b24.2 3 [.int .i64 ((16 : Nat) : Int)], .blk b24.1 34 [b23], .blk eb 24 [.int .i64 (orE (orE cur (((rdStr t.tr g 65536).2 : Nat) : Int)) (shE (rdStr t.tr g 65536).1))], .blk b4 61 t.c, .blk b3 84 [(.func (.func 37) #[] #[.pointer (some ⟨eb, 0, none⟩)])]]) (fun pre s => s.2 = shK (rdStr t.tr g 65536).1 pre.length ∧ SV s.1 s.2.length) (.slice none 0 0, []) (fun _ => False) (fun _ => .ret) (fun _ => []) (fun _ => []) (fun _ _ _ => []) (fun x i b => [(8, .pointer (some ⟨b8, 0, none⟩)), (9, Go.Proofs.YtgnablliekgbgaaDoor.slv3 b23 (16 * x) (16 * x + min 16 ((rdStr t.tr g 65536).1.length - 16 * x)) 1)]) rfl Tryd.hb89 ⟨rfl, SV.nil⟩ (fun w h k hk => by cases hk) (fun w2 h => fun yl J K hst hinv hsk hy hJ0 => chunk1 yl b24.1 b24.2 b23 (rdStr t.tr g 65536).1 J K w2 hst hinv hsk hy hJ0 hs6) (fun _ _ _ _ h => ⟨h.cells_blk (t := 34) (List.mem_cons_of_mem _ (List.mem_cons_of_mem _ (List.mem_cons_of_mem _ (List.mem_cons_self ..)))), h.cells_blk (t := 3) (List.mem_cons_of_mem _ (List.mem_cons_of_mem _ (List.mem_cons_self ..))), hs9.mono (rdo_old h)⟩) (fun _ _ _ _ _ _ _ => trivial) (fun _ _ => rfl) zz19 ?_ ?_ ?_ ?_
   ·
    intro l x i w1 K hK
    refine wic_region ?_
    refine wil_q (q_pure rfl) rfl ?_
    refine wil_nil ?_
    exact fun a w hs h => hK () a w (hs.weaken (subs_get zz9)) h
   ·
    intro l pre x i s b w1 T hgs hpre hm hat hT
    obtain ⟨v, l⟩ := s
    obtain ⟨hg1, hg2⟩ := hgs
    have hg1 : l = shK (rdStr t.tr g 65536).1 pre.length := hg1
    have hg2 : SV v l.length := hg2
    obtain ⟨hpl, hxk⟩ := pre_rg hpre
    have lls := hg2.le
    simp only [maxLen] at lls
    have hll : l.length = x := by rw [hg1, shK_len, hpl]
    have hxn : 16 * x < (rdStr t.tr g 65536).1.length := by unfold kC at hxk; omega
    have hcl : (((rdStr t.tr g 65536).1.drop (16 * x)).take (min 16 ((rdStr t.tr g 65536).1.length - 16 * x))).length = min 16 ((rdStr t.tr g 65536).1.length - 16 * x) := by rw [List.length_take, List.length_drop]; omega
    have hsb9 := (hs9.mono (rdo_old hm))
    have hsb9 : Seen (rdO (nums [.blk b8 28 [v], .row v l.length 41 16 (v8s l.flatten), .blk b24.2 3 [.int .i64 ((16 : Nat) : Int)], .blk b24.1 34 [b23], .blk eb 24 [.int .i64 (orE (orE cur (((rdStr t.tr g 65536).2 : Nat) : Int)) (shE (rdStr t.tr g 65536).1))], .blk b4 61 t.c, .blk b3 84 [(.func (.func 37) #[] #[.pointer (some ⟨eb, 0, none⟩)])]]) w1) b23 (rdStr t.tr g 65536).1.length 1 (v8s (rdStr t.tr g 65536).1) := seen_out hs9 hm
    show WPCI _ _ _ _ (Mem w1 (nums [.blk b8 28 [v], .row v l.length 41 16 (v8s l.flatten), .blk b24.2 3 [.int .i64 ((16 : Nat) : Int)], .blk b24.1 34 [b23], .blk eb 24 [.int .i64 (orE (orE cur (((rdStr t.tr g 65536).2 : Nat) : Int)) (shE (rdStr t.tr g 65536).1))], .blk b4 61 t.c, .blk b3 84 [(.func (.func 37) #[] #[.pointer (some ⟨eb, 0, none⟩)])]]) [.blk b8 28 [v], .row v l.length 41 16 (v8s l.flatten), .blk b24.2 3 [.int .i64 ((16 : Nat) : Int)], .blk b24.1 34 [b23], .blk eb 24 [.int .i64 (orE (orE cur (((rdStr t.tr g 65536).2 : Nat) : Int)) (shE (rdStr t.tr g 65536).1))], .blk b4 61 t.c, .blk b3 84 [(.func (.func 37) #[] #[.pointer (some ⟨eb, 0, none⟩)])]] []) _ _
    refine wic_block ?_
    refine wic_seq ?_
    refine wic_region ?_
    refine wil_t (t_alloc Tryd.ti41 (v8s (List.replicate 16 0)) rfl) rfl (fun b10 => ?_)
    refine wil_nil ?_
    refine eix_then ?_
    refine wic_seq ?_
    refine wic_region ?_
    refine wil_q (q_arAll Tryd.underlying41 Tryd.ti5 rfl rfl) rfl ?_
    refine wil_q (q_pure rfl) rfl ?_
    refine wil_t (t_copy Tryd.underlying34 Tryd.ti5 rfl rfl (fun w h => (show Seen w.cell? _ (((rdStr t.tr g 65536).1.drop (16 * x)).take (min 16 ((rdStr t.tr g 65536).1.length - 16 * x))).length 1 (v8s (((rdStr t.tr g 65536).1.drop (16 * x)).take (min 16 ((rdStr t.tr g 65536).1.length - 16 * x)))) from by
      have q := Seen.slv3 (hsb9.mono (rdo_old h)) (16 * x) (16 * x + min 16 ((rdStr t.tr g 65536).1.length - 16 * x)) zz12 zz12
      rw [Nat.add_sub_cancel_left] at q
      exact q.re8)) (v8s_one _) (by rw [v8s_length]; exact Nat.le_refl _) (min (((rdStr t.tr g 65536).1.drop (16 * x)).take (min 16 ((rdStr t.tr g 65536).1.length - 16 * x))).length 16) rfl (v8s (pad16 (((rdStr t.tr g 65536).1.drop (16 * x)).take (min 16 ((rdStr t.tr g 65536).1.length - 16 * x))))) (pad16_copy _)) rfl (fun b28 => ?_)
    refine wil_nil ?_
    refine eix_then ?_
    refine wic_region ?_
    refine wil_q (q_ld Tryd.underlying28 rfl rfl rfl) rfl ?_
    refine wil_q (q_ldN Tryd.underlying41 rfl Tryd.ti41 rfl (by rw [v8s_length]; exact pad16_length _)) rfl ?_
    refine wil_tp (t_bsS [_] Tryd.underlying28 Tryd.ti41 rfl zz19 rfl zz19 zz19 rfl (all_one (pad16_length _))) rfl (fun b31 p31 => ?_)
    refine wil_tp (t_apW Tryd.underlying28 Tryd.ti41 rfl zz19 rfl rfl (fun w h => zz15) (v8s_one _) zz1 zz1 (v8s (l ++ [pad16 (((rdStr t.tr g 65536).1.drop (16 * x)).take (min 16 ((rdStr t.tr g 65536).1.length - 16 * x)))]).flatten) (by rw [List.flatten_append]; simp [v8s_append])) rfl (fun b32 p32 => ?_)
    refine wil_t0 (t_st1 Tryd.ti28 rfl rfl (SV.one zz3) zz6 [b32] rfl) (fun _ => ?_)
    refine wil_nil ?_
    refine ex_block ?_
    refine ex_roundN ?_
    exact fun w h => ⟨(b32, l ++ [pad16 (((rdStr t.tr g 65536).1.drop (16 * x)).take (min 16 ((rdStr t.tr g 65536).1.length - 16 * x)))]), ⟨by show l ++ [_] = shK _ (pre ++ [x]).length; rw [List.length_append, List.length_singleton, shK_S, ← hg1, hpl], by show SV b32 (l ++ [_]).length; rw [List.length_append, List.length_singleton]; exact p32⟩, by
      show Mem _ _ [.blk b8 28 [b32], .row b32 (l ++ [pad16 (((rdStr t.tr g 65536).1.drop (16 * x)).take (min 16 ((rdStr t.tr g 65536).1.length - 16 * x)))]).length 41 16 (v8s (l ++ [pad16 (((rdStr t.tr g 65536).1.drop (16 * x)).take (min 16 ((rdStr t.tr g 65536).1.length - 16 * x)))]).flatten), .blk b24.2 3 [.int .i64 ((16 : Nat) : Int)], .blk b24.1 34 [b23], .blk eb 24 [.int .i64 (orE (orE cur (((rdStr t.tr g 65536).2 : Nat) : Int)) (shE (rdStr t.tr g 65536).1))], .blk b4 61 t.c, .blk b3 84 [(.func (.func 37) #[] #[.pointer (some ⟨eb, 0, none⟩)])]] [] w
      rw [List.length_append, List.length_singleton]
      exact h.sel⟩
   ·
    intro D s hgs
    obtain ⟨v, l⟩ := s
    obtain ⟨hg1, hg2⟩ := hgs
    have hg1 : l = shK (rdStr t.tr g 65536).1 (List.range (kC (rdStr t.tr g 65536).1.length)).length := hg1
    have hg2 : SV v l.length := hg2
    rw [List.length_range] at hg1
    have hg1 : l = shF (rdStr t.tr g 65536).1 := hg1
    subst hg1
    refine ex_weaken (R1 := Mem w9 (nums [.blk b8 28 [nl], .blk b24.2 3 [.int .i64 ((16 : Nat) : Int)], .blk b24.1 34 [b23], .blk eb 24 [.int .i64 (orE (orE cur (((rdStr t.tr g 65536).2 : Nat) : Int)) (shE (rdStr t.tr g 65536).1))], .blk b4 61 t.c, .blk b3 84 [(.func (.func 37) #[] #[.pointer (some ⟨eb, 0, none⟩)])]]) (.obj D (.deferred (some [])) :: [.blk b8 28 [v], .row v (shF (rdStr t.tr g 65536).1).length 41 16 (v8s (shF (rdStr t.tr g 65536).1).flatten), .blk b24.2 3 [.int .i64 ((16 : Nat) : Int)], .blk b24.1 34 [b23], .blk eb 24 [.int .i64 (orE (orE cur (((rdStr t.tr g 65536).2 : Nat) : Int)) (shE (rdStr t.tr g 65536).1))], .blk b4 61 t.c, .blk b3 84 [(.func (.func 37) #[] #[.pointer (some ⟨eb, 0, none⟩)])]]) []) (L1 := [(8, .pointer (some ⟨b8, 0, none⟩))]) zz9 (fun w h => h) ?_
    refine ex_block <| ex_then <| wpc_seq <| wpc_region <| wpl_q (q_ld Tryd.underlying28 rfl rfl rfl) rfl <| wpl_q (q_pure rfl) rfl <| wpl_nil <| ex_then <| wpc_ret ?_
    refine ex_markN (.inl rfl) .here ?_
    refine ret1 (.inl rfl) rfl rfl ?_
    exact fun w1 h => ⟨v, hg2, rfl, (show Mem w (nums [.blk eb 24 [.int .i64 cur]]) (.obj D (.deferred none) :: [.blk b8 28 [v], .row v (shF (rdStr t.tr g 65536).1).length 41 16 (v8s (shF (rdStr t.tr g 65536).1).flatten), .blk b24.2 3 [.int .i64 ((16 : Nat) : Int)], .blk b24.1 34 [b23], .blk eb 24 [.int .i64 (orE (orE cur (((rdStr t.tr g 65536).2 : Nat) : Int)) (shE (rdStr t.tr g 65536).1))], .blk b4 61 t.c, .blk b3 84 [(.func (.func 37) #[] #[.pointer (some ⟨eb, 0, none⟩)])]]) [] w1 from Mem.framed (X := []) (M := [.blk b8 28 [nl], .blk b24.2 3 [.int .i64 ((16 : Nat) : Int)], .blk b24.1 34 [b23], .blk eb 24 [.int .i64 (orE (orE cur (((rdStr t.tr g 65536).2 : Nat) : Int)) (shE (rdStr t.tr g 65536).1))], .blk b4 61 t.c, .blk b3 84 [(.func (.func 37) #[] #[.pointer (some ⟨eb, 0, none⟩)])]]) hm9 h).sel⟩
   ·
    intro D r hr; exact hr.elim
end Go.Proofs.YtgnablliekgbgaaDoor
namespace Go.Proofs.YtgnablliekgbgaaDoor
open Go Go.PL Go.RowKit
theorem numOf_snoc (xs : List UInt8) (b : UInt8) : numOf (xs ++ [b]) = 256 * numOf xs + b.toNat := by rw [numOf, List.foldl_append]; rfl
theorem numOf_numB (n : Nat) : numOf (numB n) = n := by
  induction n using Nat.strongRecOn with
  | _ n ih =>
    by_cases h : n = 0
    · subst h; rfl
    · rw [numB_step h, numOf_snoc, ih _ zz12, of8_lt zz12]; omega
theorem numB_first (n : Nat) : ¬ (0 < (numB n).length ∧ (numB n).getD 0 0 = 0) := by
  induction n using Nat.strongRecOn with
  | _ n ih =>
    by_cases h : n = 0
    · subst h; rintro ⟨h, _⟩; exact absurd h zz19
    · rintro ⟨_, h2⟩
      rw [numB_step h] at h2
      cases hl : numB (n / 256) with
      | nil =>
        rw [hl] at h2
        have h3 := numOf_numB (n / 256)
        rw [hl] at h3
        have h4 : of8 ((n % 256 : Nat) : Int) = 0 := h2
        have h5 := of8_lt (n := n % 256) zz12
        rw [h4] at h5
        have h5 : 0 = n % 256 := h5
        have h3 : 0 = n / 256 := h3
        omega
      | cons b l =>
        rw [hl] at h2
        exact ih (n / 256) zz12 (by rw [hl]; exact ⟨Nat.succ_pos _, h2⟩)
theorem rdNum_num (g o : UInt8) (z mx : UInt64) : rdNum (Tr.nd g (numB z.toNat) []) o mx = if g ≠ o ∨ mx.toNat < z.toNat then (0, 12) else (z, 0) := by
  have h1 := numB_len z.toNat_lt
  have h2 := numB_first z.toNat
  by_cases hg : g = o
  · subst hg
    have hb : ¬ badN g (Tr.nd g (numB z.toNat) []) := by
      rintro (h | h | h | h)
      · exact h rfl
      · exact absurd h (by show ¬ 0 < 0; omega)
      · have h : 8 < (numB z.toNat).length := h
        omega
      · exact h2 h
    have e : numOf (Tr.nd g (numB z.toNat) []).bs = z.toNat := numOf_numB _
    rw [rdNum, if_neg hb, e]
    by_cases hm : mx.toNat < z.toNat
    · rw [if_pos hm, if_pos (.inr hm)]
    · rw [if_neg hm, if_neg (by rintro (h | h); · exact h rfl
                                · exact hm h), UInt64.ofNat_toNat]
  · rw [if_pos (.inl hg), rdNum, if_pos (.inl hg)]
theorem rdStr_str (g o : UInt8) (bs : List UInt8) (mx : Int) : rdStr (Tr.nd g bs []) o mx = if g ≠ o ∨ mx < (bs.length : Int) then ([], 12) else (bs, 0) := by
  rw [rdStr]
  by_cases h : badS o mx (Tr.nd g bs [])
  · rw [if_pos h, if_pos]
    rcases h with h | h | h
    · exact .inl h
    · exact absurd h (by show ¬ 0 < 0; omega)
    · exact .inr h
  · rw [if_neg h, if_neg (by rintro (h2 | h2); · exact h (.inl h2)
                             · exact h (.inr (.inr h2)))]
    rfl
theorem of8_id (b : UInt8) : of8 ((b.toNat : Nat) : Int) = b := UInt8.toNat_inj.1 (of8_lt b.toNat_lt)
theorem numB_numOf : ∀ (n : Nat) (xs : List UInt8), xs.length = n → ¬ (0 < xs.length ∧ xs.getD 0 0 = 0) → numB (numOf xs) = xs
  | 0, xs, h, _ => by rw [List.eq_nil_of_length_eq_zero h]; rfl
  | n + 1, xs, h, h0 => by
    obtain ⟨ys, b, rfl⟩ : ∃ ys b, xs = ys ++ [b] := ⟨xs.dropLast, xs.getLast (by intro e; subst e; cases h), (List.dropLast_concat_getLast _).symm⟩
    rw [List.length_append, List.length_singleton] at h
    have hy : ¬ (0 < ys.length ∧ ys.getD 0 0 = 0) := by
      rintro ⟨g1, g2⟩
      refine h0 ⟨by rw [List.length_append]; omega, ?_⟩
      rw [List.getD_eq_getElem?_getD] at g2 ⊢
      rwa [List.getElem?_append_left g1]
    have ih := numB_numOf n ys zz12 hy
    have hb := b.toNat_lt
    have hne : numOf (ys ++ [b]) ≠ 0 := by
      rw [numOf_snoc]
      intro e
      have e1 : numOf ys = 0 := by omega
      have e2 : b.toNat = 0 := by omega
      rw [e1] at ih
      have e3 : ys = [] := ih.symm
      subst e3
      exact h0 ⟨Nat.succ_pos _, UInt8.toNat_inj.1 e2⟩
    rw [numB_step hne, numOf_snoc, show (256 * numOf ys + b.toNat) / 256 = numOf ys from zz12, show (256 * numOf ys + b.toNat) % 256 = b.toNat from zz12, ih, of8_id]
theorem numOf_le {xs : List UInt8} (h : xs.length ≤ 8) : numOf xs < 2 ^ 64 := by
  have q := numOf_lt (bs := xs) (Nat.le_refl _)
  rw [List.take_length] at q
  exact Nat.lt_of_lt_of_le q (Nat.pow_le_pow_right zz19 h)
theorem num_ok {t : Tr} {g : UInt8} {mx : UInt64} (h : (rdNum t g mx).2 = 0) : t = .nd g (numB (rdNum t g mx).1.toNat) [] ∧ (rdNum t g mx).1.toNat ≤ mx.toNat := by
  unfold rdNum at h ⊢
  split at h
  · cases h
  · rename_i h1
    rw [if_neg h1]
    split at h
    · cases h
    · rename_i h2
      rw [if_neg h2]
      obtain ⟨tg, bs, l⟩ := t
      have h3 : tg = g := Decidable.byContradiction fun e => h1 (.inl e)
      have h4 : ¬ 0 < l.length := fun e => h1 (.inr (.inl e))
      have h5 : ¬ 8 < bs.length := fun e => h1 (.inr (.inr (.inl e)))
      have h6 : ¬ (0 < bs.length ∧ bs.getD 0 0 = 0) := fun e => h1 (.inr (.inr (.inr e)))
      have h2 : ¬ mx.toNat < numOf bs := h2
      have h7 := numOf_le (xs := bs) zz12
      subst h3
      have h8 : l = [] := List.eq_nil_of_length_eq_zero zz12
      subst h8
      have e : (UInt64.ofNat (numOf bs)).toNat = numOf bs := by rw [UInt64.toNat_ofNat']; exact Nat.mod_eq_of_lt h7
      refine ⟨?_, ?_⟩
      · show Tr.nd tg bs [] = .nd tg (numB (UInt64.ofNat (numOf bs)).toNat) []
        rw [e, numB_numOf _ bs rfl h6]
      · show (UInt64.ofNat (numOf bs)).toNat ≤ _
        rw [e]; omega
theorem str_ok {t : Tr} {g : UInt8} {mx : Int} (h : (rdStr t g mx).2 = 0) : t = .nd g (rdStr t g mx).1 [] := by
  unfold rdStr at h ⊢
  split at h
  · cases h
  · rename_i h1
    rw [if_neg h1]
    obtain ⟨tg, bs, l⟩ := t
    have h3 : tg = g := Decidable.byContradiction fun e => h1 (.inl e)
    have h4 : ¬ 0 < l.length := fun e => h1 (.inr (.inl e))
    subst h3
    rw [List.eq_nil_of_length_eq_zero (show l.length = 0 from zz12)]; rfl
theorem seq_ok {t : Tr} {g : UInt8} {lo hi : Nat} (h : (rdSeq t g lo hi).2 = 0) : t = .nd g [] (lsT t g lo hi) ∧ lo ≤ (lsT t g lo hi).length ∧ (lsT t g lo hi).length ≤ hi := by
  unfold rdSeq at h
  unfold lsT
  split at h
  · cases h
  · rename_i h1
    rw [if_neg h1]
    obtain ⟨tg, bs, l⟩ := t
    have h3 : tg = g := Decidable.byContradiction fun e => h1 (.inl e)
    have h4 : ¬ 0 < bs.length := fun e => h1 (.inr (.inl e))
    have h5 : ¬ (l.length : Int) < lo := fun e => h1 (.inr (.inr (.inl e)))
    have h6 : ¬ (hi : Int) < l.length := fun e => h1 (.inr (.inr (.inr e)))
    subst h3
    rw [List.eq_nil_of_length_eq_zero (show bs.length = 0 from zz12)]
    refine ⟨rfl, ?_, ?_⟩
    · show lo ≤ l.length; omega
    · show l.length ≤ hi; omega
theorem lsT_len {t : Tr} {g : UInt8} {n : Nat} : (lsT t g n n).length = n := by
  by_cases h : (rdSeq t g n n).2 = 0
  · have := seq_ok h; omega
  · unfold rdSeq at h
    split at h
    · rename_i h1; rw [lsT, if_pos h1, List.length_replicate]
    · exact absurd rfl h
theorem lsT_le {t : Tr} {g : UInt8} {hi : Nat} : (lsT t g 0 hi).length ≤ hi := by
  by_cases h : (rdSeq t g (0 : Nat) hi).2 = 0
  · have := seq_ok h; omega
  · unfold rdSeq at h
    split at h
    · rename_i h1; rw [lsT, if_pos h1]; exact Nat.zero_le _
    · exact absurd rfl h
theorem sm_z : Sm Tr.z := by unfold Sm; decide
theorem sm_get {t : Tr} {g : UInt8} {lo hi : Nat} (h : Sm t) (i : Nat) : Sm ((lsT t g lo hi).getD i Tr.z) := by
  unfold lsT
  split
  · by_cases hi2 : i < lo
    · rw [List.getD_eq_getElem?_getD, List.getElem?_replicate, if_pos hi2]; exact sm_z
    · rw [List.getD_eq_getElem?_getD, List.getElem?_replicate, if_neg hi2]; exact sm_z
  · obtain ⟨tg, bs, l⟩ := t
    show Sm (l.getD i Tr.z)
    by_cases hi2 : i < l.length
    · exact h.kidT (by rw [List.getD_eq_getElem?_getD, List.getElem?_eq_getElem hi2]; exact List.getElem_mem _)
    · rw [List.getD_eq_getElem?_getD, List.getElem?_eq_none zz12]; exact sm_z
theorem tr_get {ns : List HT} {T : List Tr} (h : trs ns = T) (i : Nat) : (ns.getD i HT.z).tr = T.getD i Tr.z := by
  subst h
  induction ns generalizing i with
  | nil => rfl
  | cons x l ih => cases i with
    | zero => rfl
    | succ i => exact ih i
def wT (T : Tr) : List Tr := lsT T 135 2 2
def fT (T : Tr) : List Tr := lsT ((wT T).getD 0 Tr.z) 134 5 5
def gT (T : Tr) : List Tr := lsT ((wT T).getD 1 Tr.z) 131 3 3
def lT (T : Tr) : List Tr := lsT ((fT T).getD 4 Tr.z) 129 0 500
def serS (L : List Tr) : List UInt64 := L.map fun t => (rdNum t 5 18446744073709551615).1
def accE (c : Int) (L : List Tr) : Int := L.foldl (fun c t => orE c (((rdNum t 5 18446744073709551615).2 : Nat) : Int)) c
theorem accE_0 {c : Int} {L : List Tr} : accE c L = 0 ↔ c = 0 ∧ ∀ t ∈ L, (rdNum t 5 18446744073709551615).2 = 0 := by
  induction L generalizing c with
  | nil => simp [accE]
  | cons x L ih =>
    show accE (orE c _) L = 0 ↔ _
    rw [ih, orE_0]
    simp only [List.mem_cons, forall_eq_or_imp]
    rw [and_assoc, Int.natCast_eq_zero]
theorem accE_S {c : Int} {L : List Tr} {i : Nat} (h : i < L.length) : accE c (L.take (i + 1)) = orE (accE c (L.take i)) (((rdNum (L.getD i Tr.z) 5 18446744073709551615).2 : Nat) : Int) := by
  rw [List.take_add_one, List.getElem?_eq_getElem h, accE, List.foldl_append, List.getD_eq_getElem?_getD, List.getElem?_eq_getElem h]; rfl
theorem serS_len (L : List Tr) : (serS L).length = L.length := List.length_map ..
theorem serS_S {L : List Tr} {i : Nat} (h : i < L.length) : serS (L.take (i + 1)) = serS (L.take i) ++ [(rdNum (L.getD i Tr.z) 5 18446744073709551615).1] := by
  rw [List.take_add_one, List.getElem?_eq_getElem h, serS, List.map_append, List.getD_eq_getElem?_getD, List.getElem?_eq_getElem h]; rfl
def outR (T : Tr) (sv cv pv : Value) : Rv := ⟨(rdStr ((fT T).getD 0 Tr.z) 1 40).1, (rdNum ((fT T).getD 1 Tr.z) 2 18446744073709551615).1, (((rdNum ((fT T).getD 2 Tr.z) 3 1099511627776).1.toNat : Nat) : Int), (((rdNum ((fT T).getD 3 Tr.z) 4 1099511627776).1.toNat : Nat) : Int), sv, serS (lT T), (((rdNum ((gT T).getD 0 Tr.z) 1 16).1.toNat : Nat) : Int), cv, shF (rdStr ((gT T).getD 1 Tr.z) 2 65536).1, pv, shF (rdStr ((gT T).getD 2 Tr.z) 3 65536).1⟩
def endE (e : Int) (T : Tr) : Int :=
  let e1 := orE (orE (orE e (((rdSeq T 135 (2 : Nat) (2 : Nat)).2 : Nat) : Int)) (((rdSeq ((wT T).getD 0 Tr.z) 134 (5 : Nat) (5 : Nat)).2 : Nat) : Int)) (((rdSeq ((wT T).getD 1 Tr.z) 131 (3 : Nat) (3 : Nat)).2 : Nat) : Int)
  let e2 := orE (orE (orE (orE e1 (((rdStr ((fT T).getD 0 Tr.z) 1 40).2 : Nat) : Int)) (((rdNum ((fT T).getD 1 Tr.z) 2 18446744073709551615).2 : Nat) : Int)) (((rdNum ((fT T).getD 2 Tr.z) 3 1099511627776).2 : Nat) : Int)) (((rdNum ((fT T).getD 3 Tr.z) 4 1099511627776).2 : Nat) : Int)
  let e3 := orE (accE (orE e2 (((rdSeq ((fT T).getD 4 Tr.z) 129 (0 : Nat) (500 : Nat)).2 : Nat) : Int)) (lT T)) (((rdNum ((gT T).getD 0 Tr.z) 1 16).2 : Nat) : Int)
  let e4 := orE (orE e3 (((rdStr ((gT T).getD 1 Tr.z) 2 65536).2 : Nat) : Int)) (shE (rdStr ((gT T).getD 1 Tr.z) 2 65536).1)
  orE (orE e4 (((rdStr ((gT T).getD 2 Tr.z) 3 65536).2 : Nat) : Int)) (shE (rdStr ((gT T).getD 2 Tr.z) 3 65536).1)
structure OkT (T : Tr) : Prop where
  w : (rdSeq T 135 (2 : Nat) (2 : Nat)).2 = 0
  f : (rdSeq ((wT T).getD 0 Tr.z) 134 (5 : Nat) (5 : Nat)).2 = 0
  g : (rdSeq ((wT T).getD 1 Tr.z) 131 (3 : Nat) (3 : Nat)).2 = 0
  f0 : (rdStr ((fT T).getD 0 Tr.z) 1 40).2 = 0
  f1 : (rdNum ((fT T).getD 1 Tr.z) 2 18446744073709551615).2 = 0
  f2 : (rdNum ((fT T).getD 2 Tr.z) 3 1099511627776).2 = 0
  f3 : (rdNum ((fT T).getD 3 Tr.z) 4 1099511627776).2 = 0
  f4 : (rdSeq ((fT T).getD 4 Tr.z) 129 (0 : Nat) (500 : Nat)).2 = 0
  l : ∀ t ∈ lT T, (rdNum t 5 18446744073709551615).2 = 0
  g0 : (rdNum ((gT T).getD 0 Tr.z) 1 16).2 = 0
  g1 : (rdStr ((gT T).getD 1 Tr.z) 2 65536).2 = 0
  g2 : (rdStr ((gT T).getD 2 Tr.z) 3 65536).2 = 0
  s1 : shE (rdStr ((gT T).getD 1 Tr.z) 2 65536).1 = 0
  s2 : shE (rdStr ((gT T).getD 2 Tr.z) 3 65536).1 = 0
theorem endE_0 {e : Int} {T : Tr} : endE e T = 0 ↔ e = 0 ∧ OkT T := by
  unfold endE
  simp only [orE_0, accE_0, Int.natCast_eq_zero]
  constructor
  · rintro ⟨⟨⟨⟨⟨⟨⟨⟨⟨⟨⟨⟨⟨⟨h0, h1⟩, h2⟩, h3⟩, h4⟩, h5⟩, h6⟩, h7⟩, h8⟩, h9⟩, h10⟩, h11⟩, h12⟩, h13⟩, h14⟩
    exact ⟨h0, ⟨h1, h2, h3, h4, h5, h6, h7, h8, h9, h10, h11, h13, h12, h14⟩⟩
  · rintro ⟨h0, ⟨h1, h2, h3, h4, h5, h6, h7, h8, h9, h10, h11, h13, h12, h14⟩⟩
    exact ⟨⟨⟨⟨⟨⟨⟨⟨⟨⟨⟨⟨⟨⟨h0, h1⟩, h2⟩, h3⟩, h4⟩, h5⟩, h6⟩, h7⟩, h8⟩, h9⟩, h10⟩, h11⟩, h12⟩, h13⟩, h14⟩
theorem of64_nat {n : Nat} (h : n < 2 ^ 64) : (of64 ((n : Nat) : Int)).toNat = n := by
  unfold of64
  rw [UInt64.toNat_ofNat']
  have : (((n : Nat) : Int) % 18446744073709551616).toNat = n := by omega
  rw [this]; exact Nat.mod_eq_of_lt h
theorem list2 {l : List Tr} (h : l.length = 2) : l = [l.getD 0 Tr.z, l.getD 1 Tr.z] := by
  match l, h with
  | [a, b], _ => rfl
theorem list3 {l : List Tr} (h : l.length = 3) : l = [l.getD 0 Tr.z, l.getD 1 Tr.z, l.getD 2 Tr.z] := by
  match l, h with
  | [a, b, c], _ => rfl
theorem list5 {l : List Tr} (h : l.length = 5) : l = [l.getD 0 Tr.z, l.getD 1 Tr.z, l.getD 2 Tr.z, l.getD 3 Tr.z, l.getD 4 Tr.z] := by
  match l, h with
  | [a, b, c, d, e], _ => rfl
theorem sers_ok {L : List Tr} (h : ∀ t ∈ L, (rdNum t 5 18446744073709551615).2 = 0) : sersT (serS L) = L := by
  induction L with
  | nil => rfl
  | cons x L ih =>
    show serT (rdNum x 5 18446744073709551615).1 :: sersT (serS L) = _
    rw [ih fun t ht => h t (List.mem_cons_of_mem _ ht), serT, ← (num_ok (h x (List.mem_cons_self ..))).1]
theorem whole_of {T : Tr} (h : OkT T) (sv cv pv : Value) : wholeT (outR T sv cv pv) = T := by
  have q2 := (num_ok h.f2).2
  have q3 := (num_ok h.f3).2
  have q4 := (num_ok h.g0).2
  have b2 := of64_nat (n := (rdNum ((fT T).getD 2 Tr.z) 3 1099511627776).1.toNat) (UInt64.toNat_lt _)
  have b3 := of64_nat (n := (rdNum ((fT T).getD 3 Tr.z) 4 1099511627776).1.toNat) (UInt64.toNat_lt _)
  have b4 := of64_nat (n := (rdNum ((gT T).getD 0 Tr.z) 1 16).1.toNat) (UInt64.toNat_lt _)
  have eF : bodyT (outR T sv cv pv) = (wT T).getD 0 Tr.z := by
    have e1 := (seq_ok h.f).1
    have e2 := list5 (l := fT T) lsT_len
    have e3 : (fT T).getD 4 Tr.z = .nd 129 [] (lT T) := (seq_ok h.f4).1
    show Tr.nd 134 [] [.nd 1 (rdStr ((fT T).getD 0 Tr.z) 1 40).1 [], .nd 2 (numB (rdNum ((fT T).getD 1 Tr.z) 2 18446744073709551615).1.toNat) [], .nd 3 (numB (of64 (((rdNum ((fT T).getD 2 Tr.z) 3 1099511627776).1.toNat : Nat) : Int)).toNat) [], .nd 4 (numB (of64 (((rdNum ((fT T).getD 3 Tr.z) 4 1099511627776).1.toNat : Nat) : Int)).toNat) [], .nd 129 [] (sersT (serS (lT T)))] = _
    rw [b2, b3, sers_ok h.l, ← e3, ← (num_ok h.f1).1, ← (num_ok h.f2).1, ← (num_ok h.f3).1, ← str_ok h.f0, ← e2]
    exact e1.symm
  have eG : sigT (outR T sv cv pv) = (wT T).getD 1 Tr.z := by
    have e1 := (seq_ok h.g).1
    have e2 := list3 (l := gT T) lsT_len
    show Tr.nd 131 [] [.nd 1 (numB (of64 (((rdNum ((gT T).getD 0 Tr.z) 1 16).1.toNat : Nat) : Int)).toNat) [], .nd 2 (shF (rdStr ((gT T).getD 1 Tr.z) 2 65536).1).flatten [], .nd 3 (shF (rdStr ((gT T).getD 2 Tr.z) 3 65536).1).flatten []] = _
    rw [b4, shF_flat h.s1, shF_flat h.s2, ← (num_ok h.g0).1, ← str_ok h.g1, ← str_ok h.g2, ← e2]
    exact e1.symm
  have e1 := (seq_ok h.w).1
  have e2 := list2 (l := wT T) lsT_len
  show Tr.nd 135 [] [bodyT (outR T sv cv pv), sigT (outR T sv cv pv)] = _
  rw [eF, eG, ← e2]
  exact e1.symm
end Go.Proofs.YtgnablliekgbgaaDoor
namespace Go.Proofs.YtgnablliekgbgaaDoor
open Go Go.PL Go.RowKit
def okL (l : Rv) : Prop := chkR l = 0 ∧ (∀ x ∈ l.chs, x.length = 16) ∧ (∀ x ∈ l.ps, x.length = 16)
structure ChkI (l : Rv) : Prop where
  nm : l.nm.length ≤ 40
  fr0 : 0 ≤ l.fr
  fr1 : l.fr ≤ 1099511627776
  tt0 : 0 ≤ l.tt
  tt1 : l.tt ≤ 1099511627776
  ss : l.ss.length ≤ 500
  ix0 : 0 ≤ l.ix
  ix1 : l.ix ≤ 16
  c : l.chs.length ≤ 35
  p : l.ps.length ≤ 4
theorem sg_inv {ix : Int} {nc np : Nat} (h : gsigB ix nc np = true) : 0 ≤ ix ∧ ix ≤ 16 ∧ nc ≤ 35 ∧ np ≤ 4 := by
  unfold gsigB at h
  rw [Bool.or_eq_true, decide_eq_true_eq] at h
  rcases h with h | h
  · unfold sigB at h
    simp only [Bool.not_eq_true', Bool.or_eq_false_iff, decide_eq_false_iff_not] at h
    omega
  · unfold sgChk at h
    split at h
    · rename_i h1
      split at h
      · rename_i h2
        rw [Int.toNat_natCast] at h2
        have := pow_le16 (m := np) zz12
        omega
      · cases h
    · cases h
theorem chk_all {l : Rv} (h : chkR l = 0) : ChkI l := by
  unfold chkR at h
  split at h
  · cases h
  · rename_i h1
    split at h
    · rename_i h2
      unfold okR okA at h2
      simp only [Bool.and_eq_true, decide_eq_true_eq] at h2
      obtain ⟨⟨⟨a1, a2⟩, a3⟩, _⟩ := h2
      have a4 := sg_inv a3
      unfold nameF at a1
      unfold winF timeF at a2
      simp only [Bool.and_eq_true, decide_eq_true_eq] at a1 a2
      exact ⟨a1.1.2, a2.1.1.1, a2.1.1.2, a2.1.2.1, a2.1.2.2, zz12, a4.1, a4.2.1, a4.2.2.1, a4.2.2.2⟩
    · cases h
theorem chk_lim {l : Rv} (h : chkR l = 0) : RLim l := by
  have q := chk_all h
  exact ⟨by have := q.nm; omega, by have := q.ss; omega, by have := q.c; omega, by have := q.p; omega⟩
theorem seq_mk {g : UInt8} {ks : List Tr} {lo hi : Nat} (h1 : lo ≤ ks.length) (h2 : ks.length ≤ hi) : (rdSeq (.nd g [] ks) g lo hi).2 = 0 ∧ lsT (.nd g [] ks) g lo hi = ks := by
  have hb : ¬ badL g lo hi (.nd g [] ks) := by
    rintro (h | h | h | h)
    · exact h rfl
    · exact absurd h (by show ¬ 0 < 0; omega)
    · have h : (ks.length : Int) < lo := h
      omega
    · have h : (hi : Int) < ks.length := h
      omega
  exact ⟨by rw [rdSeq, if_neg hb], by rw [lsT, if_neg hb]; rfl⟩
theorem num_mk {g : UInt8} {z mx : UInt64} (h : z.toNat ≤ mx.toNat) : rdNum (.nd g (numB z.toNat) []) g mx = (z, 0) := by
  rw [rdNum_num, if_neg]
  rintro (h | h)
  · exact h rfl
  · omega
theorem str_mk {g : UInt8} {bs : List UInt8} {mx : Int} (h : (bs.length : Int) ≤ mx) : rdStr (.nd g bs []) g mx = (bs, 0) := by
  rw [rdStr_str, if_neg]
  rintro (h | h)
  · exact h rfl
  · omega
theorem flat_inj : ∀ {a b : List (List UInt8)}, (∀ x ∈ a, x.length = 16) → (∀ x ∈ b, x.length = 16) → a.flatten = b.flatten → a = b
  | [], [], _, _, _ => rfl
  | [], y :: b, _, hb, h => by
    have := congrArg List.length h
    rw [List.flatten_cons, List.length_append, hb y (List.mem_cons_self ..)] at this
    first | (simp at this; done) | (simp at this; omega)
  | x :: a, [], ha, _, h => by
    have := congrArg List.length h
    rw [List.flatten_cons, List.length_append, ha x (List.mem_cons_self ..)] at this
    first | (simp at this; done) | (simp at this; omega)
  | x :: a, y :: b, ha, hb, h => by
    rw [List.flatten_cons, List.flatten_cons] at h
    obtain ⟨h1, h2⟩ := List.append_inj h (by rw [ha x (List.mem_cons_self ..), hb y (List.mem_cons_self ..)])
    rw [h1, flat_inj (fun z hz => ha z (List.mem_cons_of_mem _ hz)) (fun z hz => hb z (List.mem_cons_of_mem _ hz)) h2]
theorem shF_of {l : List (List UInt8)} (h : ∀ x ∈ l, x.length = 16) : shE l.flatten = 0 ∧ shF l.flatten = l := by
  have h1 := flat_len l h
  have h2 : shE l.flatten = 0 := by unfold shE; rw [if_neg zz12]
  exact ⟨h2, flat_inj shK_all h (shF_flat h2)⟩
theorem of64_int {i : Int} (h0 : 0 ≤ i) (h1 : i ≤ 1099511627776) : (((of64 i).toNat : Nat) : Int) = i := by
  obtain ⟨n, rfl⟩ : ∃ n : Nat, i = n := ⟨i.toNat, zz12⟩
  rw [of64_nat zz12]
theorem sers_mk (ss : List UInt64) : serS (sersT ss) = ss ∧ ∀ t ∈ sersT ss, (rdNum t 5 18446744073709551615).2 = 0 := by
  induction ss with
  | nil => exact ⟨rfl, fun t ht => by cases ht⟩
  | cons s ss ih =>
    have e : rdNum (serT s) 5 18446744073709551615 = (s, 0) := num_mk (by have := s.toNat_lt; show s.toNat ≤ 18446744073709551615; omega)
    refine ⟨?_, fun t ht => ?_⟩
    · show (rdNum (serT s) 5 18446744073709551615).1 :: serS (sersT ss) = _
      rw [e, ih.1]
    · rcases List.mem_cons.1 ht with rfl | ht
      · rw [e]
      · exact ih.2 t ht
theorem of_whole {l : Rv} (h : okL l) (sv cv pv : Value) : OkT (wholeT l) ∧ (outR (wholeT l) sv cv pv).eqv l := by
  have q := chk_all h.1
  obtain ⟨q1, q2, q3, q4, q5, q6, q7, q8, q9, q10⟩ := q
  have c1 := flat_len l.chs h.2.1
  have c2 := flat_len l.ps h.2.2
  obtain ⟨w1, w2⟩ := seq_mk (g := 135) (ks := [bodyT l, sigT l]) (lo := 2) (hi := 2) (Nat.le_refl _) (Nat.le_refl _)
  have eW : wT (wholeT l) = [bodyT l, sigT l] := w2
  obtain ⟨f1, f2⟩ := seq_mk (g := 134) (ks := (bodyT l).kids) (lo := 5) (hi := 5) (Nat.le_refl _) (Nat.le_refl _)
  obtain ⟨g1, g2⟩ := seq_mk (g := 131) (ks := (sigT l).kids) (lo := 3) (hi := 3) (Nat.le_refl _) (Nat.le_refl _)
  have eF : fT (wholeT l) = (bodyT l).kids := by unfold fT; rw [eW]; exact f2
  have eG : gT (wholeT l) = (sigT l).kids := by unfold gT; rw [eW]; exact g2
  obtain ⟨l1, l2⟩ := seq_mk (g := 129) (ks := sersT l.ss) (lo := 0) (hi := 500) (Nat.zero_le _) (by rw [sersT_len]; exact q6)
  have eL : lT (wholeT l) = sersT l.ss := by unfold lT; rw [eF]; exact l2
  have n0 : rdStr ((bodyT l).kids.getD 0 Tr.z) 1 40 = (l.nm, 0) := str_mk zz12
  have n1 : rdNum ((bodyT l).kids.getD 1 Tr.z) 2 18446744073709551615 = (l.no, 0) := num_mk (by have := l.no.toNat_lt; show l.no.toNat ≤ 18446744073709551615; omega)
  have i2 := of64_int q2 q3
  have i3 := of64_int q4 q5
  have i4 := of64_int q7 zz12
  have n2 : rdNum ((bodyT l).kids.getD 2 Tr.z) 3 1099511627776 = (of64 l.fr, 0) := num_mk (by show (of64 l.fr).toNat ≤ 1099511627776; omega)
  have n3 : rdNum ((bodyT l).kids.getD 3 Tr.z) 4 1099511627776 = (of64 l.tt, 0) := num_mk (by show (of64 l.tt).toNat ≤ 1099511627776; omega)
  have n4 : rdNum ((sigT l).kids.getD 0 Tr.z) 1 16 = (of64 l.ix, 0) := num_mk (by show (of64 l.ix).toNat ≤ 16; omega)
  have n5 : rdStr ((sigT l).kids.getD 1 Tr.z) 2 65536 = (l.chs.flatten, 0) := str_mk zz12
  have n6 : rdStr ((sigT l).kids.getD 2 Tr.z) 3 65536 = (l.ps.flatten, 0) := str_mk zz12
  have s1 := shF_of h.2.1
  have s2 := shF_of h.2.2
  refine ⟨⟨w1, by rw [eW]; exact f1, by rw [eW]; exact g1, by rw [eF, n0], by rw [eF, n1], by rw [eF, n2], by rw [eF, n3], by rw [eF]; exact l1, by rw [eL]; exact (sers_mk l.ss).2, by rw [eG, n4], by rw [eG, n5], by rw [eG, n6], by rw [eG, n5]; exact s1.1, by rw [eG, n6]; exact s2.1⟩, ?_⟩
  refine ⟨?_, ?_, ⟨?_, ?_⟩, ?_, ?_, ?_, ?_⟩
  · show (rdStr ((fT (wholeT l)).getD 0 Tr.z) 1 40).1 = l.nm
    rw [eF, n0]
  · show (rdNum ((fT (wholeT l)).getD 1 Tr.z) 2 18446744073709551615).1 = l.no
    rw [eF, n1]
  · show (((rdNum ((fT (wholeT l)).getD 2 Tr.z) 3 1099511627776).1.toNat : Nat) : Int) = l.fr
    rw [eF, n2]; exact i2
  · show (((rdNum ((fT (wholeT l)).getD 3 Tr.z) 4 1099511627776).1.toNat : Nat) : Int) = l.tt
    rw [eF, n3]; exact i3
  · show serS (lT (wholeT l)) = l.ss
    rw [eL]; exact (sers_mk l.ss).1
  · show (((rdNum ((gT (wholeT l)).getD 0 Tr.z) 1 16).1.toNat : Nat) : Int) = l.ix
    rw [eG, n4]; exact i4
  · show shF (rdStr ((gT (wholeT l)).getD 1 Tr.z) 2 65536).1 = l.chs
    rw [eG, n5]; exact s1.2
  · show shF (rdStr ((gT (wholeT l)).getD 2 Tr.z) 3 65536).1 = l.ps
    rw [eG, n6]; exact s2.2
theorem eqv_chk {a b : Rv} (h : a.eqv b) : chkR a = chkR b := by
  obtain ⟨nm, no, fr, tt, sv, ss, ix, cv, chs, pv, ps⟩ := a
  obtain ⟨nm2, no2, fr2, tt2, sv2, ss2, ix2, cv2, chs2, pv2, ps2⟩ := b
  obtain ⟨e1, e2, ⟨e3, e4⟩, e5, e6, e7, e8⟩ := h
  dsimp only at e1 e2 e3 e4 e5 e6 e7 e8
  subst e1 e2 e3 e4 e5 e6 e7 e8
  rfl
theorem eqv_refl (a : Rv) : a.eqv a := ⟨rfl, rfl, ⟨rfl, rfl⟩, rfl, rfl, rfl, rfl⟩
theorem enc_dec {l : Rv} (h : okL l) : decF (enc (wholeT l)) = (wholeT l, 0) := dec_enc (sm_whole (chk_lim h.1) h.2.1 h.2.2) (chk_whole h.1 (chk_lim h.1) h.2.1 h.2.2)
def DecP (xs : List UInt8) (y : Rv) (e : Int) : Prop := (e = 0 ∧ okL y ∧ enc (wholeT y) = xs) ∨ (e = 12 ∧ y.eqv Rv.z ∧ ∀ l, okL l → enc (wholeT l) ≠ xs)
theorem dec_yes {xs : List UInt8} {sv cv pv : Value} (h : endE (decF xs).2 (decF xs).1 = 0) (hc : chkR (outR (decF xs).1 sv cv pv) = 0) : DecP xs (outR (decF xs).1 sv cv pv) 0 := by
  obtain ⟨h0, h1⟩ := endE_0.1 h
  exact .inl ⟨rfl, ⟨hc, shK_all, shK_all⟩, by rw [whole_of h1]; exact (dec_inv h0).2⟩
theorem dec_no1 {xs : List UInt8} (h : endE (decF xs).2 (decF xs).1 ≠ 0) : DecP xs Rv.z 12 := .inr ⟨rfl, eqv_refl _, fun l hl e => by
  subst e
  rw [enc_dec hl] at h
  exact h (endE_0.2 ⟨rfl, (of_whole hl nl nl nl).1⟩)⟩
theorem dec_no2 {xs : List UInt8} {sv cv pv : Value} (hc : chkR (outR (decF xs).1 sv cv pv) ≠ 0) : DecP xs Rv.z 12 := .inr ⟨rfl, eqv_refl _, fun l hl e => by
  subst e
  rw [enc_dec hl] at hc
  exact hc ((eqv_chk (of_whole hl sv cv pv).2).trans hl.1)⟩
end Go.Proofs.YtgnablliekgbgaaDoor
namespace Go.Proofs.YtgnablliekgbgaaDoor
open Go Go.PL Go.RowKit
theorem eqv_symm {a b : Rv} (h : a.eqv b) : b.eqv a := ⟨h.1.symm, h.2.1.symm, ⟨h.2.2.1.1.symm, h.2.2.1.2.symm⟩, h.2.2.2.1.symm, h.2.2.2.2.1.symm, h.2.2.2.2.2.1.symm, h.2.2.2.2.2.2.symm⟩
theorem eqv_trans {a b c : Rv} (h : a.eqv b) (k : b.eqv c) : a.eqv c := ⟨h.1.trans k.1, h.2.1.trans k.2.1, ⟨h.2.2.1.1.trans k.2.2.1.1, h.2.2.1.2.trans k.2.2.1.2⟩, h.2.2.2.1.trans k.2.2.2.1, h.2.2.2.2.1.trans k.2.2.2.2.1, h.2.2.2.2.2.1.trans k.2.2.2.2.2.1, h.2.2.2.2.2.2.trans k.2.2.2.2.2.2⟩
theorem dec_inj {a b : Rv} (ha : okL a) (hb : okL b) (h : enc (wholeT a) = enc (wholeT b)) : a.eqv b := by
  have e : wholeT b = wholeT a := by
    have h1 := enc_dec ha
    rw [h, enc_dec hb] at h1
    exact congrArg Prod.fst h1
  have qa := (of_whole ha nl nl nl).2
  rw [← e] at qa
  exact eqv_trans (eqv_symm qa) (of_whole hb nl nl nl).2
theorem DecP.uniq {xs : List UInt8} {y z : Rv} {e f : Int} (h : DecP xs y e) (k : DecP xs z f) : y.eqv z ∧ e = f := by
  rcases h with ⟨he, ho, hx⟩ | ⟨he, hz, hn⟩ <;> rcases k with ⟨ke, ko, kx⟩ | ⟨ke, kz, kn⟩
  · exact ⟨dec_inj ho ko (hx.trans kx.symm), he.trans ke.symm⟩
  · exact absurd hx (kn _ ho)
  · exact absurd kx (hn _ ko)
  · exact ⟨eqv_trans hz (eqv_symm kz), he.trans ke.symm⟩
end Go.Proofs.YtgnablliekgbgaaDoor
namespace Go.Proofs.YtgnablliekgbgaaDoor
open Go Go.PL Go.RowKit
def lsH (y : Value × List HT) : HT := .nd 0 nl [] y.1 y.2
theorem lsH_frz {w0 w : World} {M : List Ent} {S : List Fact} (y : Value × List HT) (h : Mem w0 [] (rowsL y.1 y.2 ++ M) S w) : Mem w0 [] M (Go.Proofs.YtgnablliekgbgaaDoor.hseen (lsH y) :: S) w := Mem.freezeT (t := lsH y) (M := M) (h.nilRow 5 1)
theorem hseen_rdo {w0 w : World} {Ln : List Nat} {M M1 : List Ent} {S : List Fact} {t : HT} (h : Mem w0 Ln M S w) (hs : Go.Proofs.YtgnablliekgbgaaDoor.hseen t ∈ S) (hM : ∀ e ∈ M1, e ∈ M) : HSeen (rdO (nums M1) w) t := (h.facts _ hs : HSeen (rdF w0.heap.size M w) t).mono fun a u hu => by
  unfold rdF at hu
  split at hu
  · rename_i h1
    unfold rdO
    rw [if_neg]
    · exact hu
    · intro hm
      obtain ⟨e, he, hn⟩ := mem_nums.1 hm
      exact inM_not h1.2 e (hM e he) hn
  · cases hu
theorem HSeen.lsK {r : Rd} {y : Value × List HT} (h : HSeen r (lsH y)) {i : Nat} (hi : i < y.2.length) : HSeen r (y.2.getD i HT.z) := HSeen.kid h hi
theorem HSeen.lsS {r : Rd} {y : Value × List HT} (h : HSeen r (lsH y)) : Seen r y.1 y.2.length 3 (hcs y.2) := h.2.1
section
variable {P : Program} {n : Cx} {L : Slots} {Q : Exit → Act → World → Prop} {w0 : World} {M : List Ent} {S : List Fact}
theorem selC_rem {α : Type} {m l : List α} {x : α} (h : Rem m x l) : SelC (x :: l) m := ⟨.cons h (Sel.sub (Sub.refl l))⟩
theorem t_callLS {f : Operand} {k : FuncId} {first cap : Array Value} {args : Array Operand} {at_ : Array TypeId} {vs : List Value} {p : Value × List HT → Prop} (e e' : Ent) {X : List Ent} [hr : RemC M e X]
    (hf : ev L f = some (.func (.func k) first cap)) (hb : HasBody P k) (hv : evs L args.toList = some vs)
    (hc : ∀ w, Mem w0 [] M S w → Mem w (nums [e]) [e] [] w → Calls P k (first ++ vs.toArray ++ cap) w (GivesA w [e] p (fun y => y.1) (fun y => e' :: rowsL y.1 y.2))) :
    TOpP P Q n (Mem w0 [] M S) L (.call { callee := .value f, args := args, argTypes := at_ }) (Value × List HT) p (fun y => y.1) (fun y => Mem w0 [] (e' :: X) (Go.Proofs.YtgnablliekgbgaaDoor.hseen (lsH y) :: S)) :=
  haveI : SelC (e :: X) M := selC_rem hr.h
  t_callW (N := fun y : Value × List HT => e' :: rowsL y.1 y.2) [e] X (e :: X) (fun _ => e' :: X) (fun y => Go.Proofs.YtgnablliekgbgaaDoor.hseen (lsH y) :: S) rfl (fun y _ _ h => lsH_frz y (h.perm List.perm_middle.symm)) hf hb hv hc
theorem t_callU {f : Operand} {k : FuncId} {first cap : Array Value} {args : Array Operand} {at_ : Array TypeId} {vs : List Value} {V : Unit → Value} (e e' : Ent) {X : List Ent} [hr : RemC M e X]
    (hf : ev L f = some (.func (.func k) first cap)) (hb : HasBody P k) (hv : evs L args.toList = some vs)
    (hc : ∀ w, Mem w0 [] M S w → Mem w (nums [e]) [e] [] w → Calls P k (first ++ vs.toArray ++ cap) w (GivesA w [e] (fun _ : Unit => True) V (fun _ => [e']))) :
    TOpP P Q n (Mem w0 [] M S) L (.call { callee := .value f, args := args, argTypes := at_ }) Unit (fun _ => True) V (fun _ => Mem w0 [] (e' :: X) S) :=
  haveI : SelC (e :: X) M := selC_rem hr.h
  t_callW (N := fun _ : Unit => [e']) [e] X (e :: X) (fun _ => e' :: X) (fun _ => S) rfl (fun _ _ _ h => h) hf hb hv hc
theorem t_callUR {f : Operand} {k : FuncId} {first cap : Array Value} {args : Array Operand} {at_ : Array TypeId} {vs : List Value} {p : Value → Prop} {r : Value → Ent} (e e' : Ent) {X : List Ent} [hr : RemC M e X]
    (hf : ev L f = some (.func (.func k) first cap)) (hb : HasBody P k) (hv : evs L args.toList = some vs)
    (hc : ∀ w, Mem w0 [] M S w → Mem w (nums [e]) [e] [] w → Calls P k (first ++ vs.toArray ++ cap) w (GivesA w [e] p (fun y => y) (fun y => [e', r y]))) :
    TOpP P Q n (Mem w0 [] M S) L (.call { callee := .value f, args := args, argTypes := at_ }) Value p (fun y => y) (fun y => Mem w0 [] (e' :: r y :: X) S) :=
  haveI : SelC (e :: X) M := selC_rem hr.h
  t_callW (N := fun y : Value => [e', r y]) [e] X (e :: X) (fun y => e' :: r y :: X) (fun _ => S) rfl (fun _ _ _ h => h) hf hb hv hc
end
theorem rdrListF (eb : Nat) (t : HT) (T : Tr) (g : UInt8) (lo hi : Nat) (cur : Int) (w : World) (hB : Mem w (nums [.blk eb 24 [.int .i64 cur]]) [.blk eb 24 [.int .i64 cur]] [] w) (ht : HSeen (rdO (nums [.blk eb 24 [.int .i64 cur]]) w) t) (hT : t.tr = T) (hsm : Sm T) (hlo : lo ≤ 10) : Calls Tryd.prog 40 [.agg #[(.func (.func 37) #[] #[.pointer (some ⟨eb, 0, none⟩)])], .agg t.c.toArray, .int .u8 (g.toNat : Int), .int .i64 ((lo : Nat) : Int), .int .i64 ((hi : Nat) : Int)].toArray w (GivesA w [.blk eb 24 [.int .i64 cur]] (fun y : Value × List HT => trs y.2 = lsT T g lo hi ∧ SV y.1 y.2.length ∧ ∀ x ∈ y.2, x.sv) (fun y => y.1) (fun y => .blk eb 24 [.int .i64 (orE cur (((rdSeq T g lo hi).2 : Nat) : Int))] :: rowsL y.1 y.2)) := by
  subst hT
  exact rdrList eb t g lo hi cur w hB ht hsm hlo
theorem rdrNumF (eb : Nat) (t : HT) (T : Tr) (g : UInt8) (mx : UInt64) (cur : Int) (w : World) (hB : Mem w (nums [.blk eb 24 [.int .i64 cur]]) [.blk eb 24 [.int .i64 cur]] [] w) (ht : HSeen (rdO (nums [.blk eb 24 [.int .i64 cur]]) w) t) (hT : t.tr = T) : Calls Tryd.prog 39 [.agg #[(.func (.func 37) #[] #[.pointer (some ⟨eb, 0, none⟩)])], .agg t.c.toArray, .int .u8 (g.toNat : Int), .int .u64 (mx.toNat : Int)].toArray w (GivesA w [.blk eb 24 [.int .i64 cur]] (fun _ : Unit => True) (fun _ => .int .u64 ((rdNum T g mx).1.toNat : Int)) (fun _ => [.blk eb 24 [.int .i64 (orE cur (((rdNum T g mx).2 : Nat) : Int))]])) := by
  subst hT
  exact rdrNum eb t g mx cur w hB ht
theorem rdrStrF (eb : Nat) (t : HT) (T : Tr) (g : UInt8) (mx : Int) (cur : Int) (w : World) (hB : Mem w (nums [.blk eb 24 [.int .i64 cur]]) [.blk eb 24 [.int .i64 cur]] [] w) (ht : HSeen (rdO (nums [.blk eb 24 [.int .i64 cur]]) w) t) (hT : t.tr = T) : Calls Tryd.prog 41 [.agg #[(.func (.func 37) #[] #[.pointer (some ⟨eb, 0, none⟩)])], .agg t.c.toArray, .int .u8 (g.toNat : Int), .int .i64 mx].toArray w (GivesA w [.blk eb 24 [.int .i64 cur]] (fun _ : Unit => True) (fun _ => str (rdStr T g mx).1) (fun _ => [.blk eb 24 [.int .i64 (orE cur (((rdStr T g mx).2 : Nat) : Int))]])) := by
  subst hT
  exact rdrStr eb t g mx cur w hB ht
theorem rdrShF (eb : Nat) (t : HT) (T : Tr) (g : UInt8) (cur : Int) (w : World) (hB : Mem w (nums [.blk eb 24 [.int .i64 cur]]) [.blk eb 24 [.int .i64 cur]] [] w) (ht : HSeen (rdO (nums [.blk eb 24 [.int .i64 cur]]) w) t) (hT : t.tr = T) (hbl : T.bs.length ≤ 1000000) : Calls Tryd.prog 42 [.agg #[(.func (.func 37) #[] #[.pointer (some ⟨eb, 0, none⟩)])], .agg t.c.toArray, .int .u8 (g.toNat : Int)].toArray w (GivesA w [.blk eb 24 [.int .i64 cur]] (fun y : Value => SV y (shF (rdStr T g 65536).1).length) (fun y => y) (fun y => [.blk eb 24 [.int .i64 (orE (orE cur (((rdStr T g 65536).2 : Nat) : Int)) (shE (rdStr T g 65536).1))], .row y (shF (rdStr T g 65536).1).length 41 16 (v8s (shF (rdStr T g 65536).1).flatten)])) := by
  subst hT
  exact rdrShorts eb t g cur w hB ht hbl
end Go.Proofs.YtgnablliekgbgaaDoor
namespace Go.Proofs.YtgnablliekgbgaaDoor
open Go Go.PL Go.RowKit
set_option maxHeartbeats 2000000
instance oneC_func {f : Fn} {p : Value} : OneC [Value.func f #[] #[p]] := OneC.cons rfl oneC_nil
theorem accE_nil {c : Int} : accE c [] = c := rfl
theorem built_sg {x : Int} {u v : Value} {n m : Nat} (hu : SV u n) (hv : SV v m) : Tryd.prog.built 30 [(0, .int .i64 x), (1, u), (2, v)] = some [.int .i64 x, u, v].toArray := by
  obtain ⟨a, cap, rfl, _⟩ := hu
  obtain ⟨a2, cap2, rfl, _⟩ := hv
  kernel_rfl
theorem built_rz : Tryd.prog.built 32 [] = some Rv.z.c.toArray := by kernel_rfl
theorem bne_f {a b : Int} (h : (a != b) = false) : a = b := by simpa using h
theorem len_trs {l : List HT} {L : List Tr} (h : trs l = L) : l.length = L.length := by rw [← h, trs_length]
theorem wT_len (T : Tr) : (wT T).length = 2 := lsT_len
theorem fT_len (T : Tr) : (fT T).length = 5 := lsT_len
theorem gT_len (T : Tr) : (gT T).length = 3 := lsT_len
theorem lT_le (T : Tr) : (lT T).length ≤ 500 := lsT_le
def rvE (y : Rv) : List Ent := [.row y.sv y.ss.length 23 1 (v64s y.ss), .row y.cv y.chs.length 41 16 (v8s y.chs.flatten), .row y.pv y.ps.length 41 16 (v8s y.ps.flatten)]
theorem rvE_z {w0 w : World} {M : List Ent} {S : List Fact} (h : Mem w0 [] M S w) : New w0.heap.size (rvE Rv.z) [] w := (show New w0.heap.size [Ent.row nl 0 23 1 [], Ent.row nl 0 41 16 [], Ent.row nl 0 41 16 []] [] w from (((h.nilRow 41 16).nilRow 41 16).nilRow 23 1).made SubC.h .nil)
theorem rdNum_le (t : Tr) (g : UInt8) (mx : UInt64) : (rdNum t g mx).1.toNat ≤ mx.toNat := by
  unfold rdNum
  split
  · exact Nat.zero_le _
  · split
    · exact Nat.zero_le _
    · show (UInt64.ofNat (numOf t.bs)).toNat ≤ _
      rw [UInt64.toNat_ofNat']
      exact Nat.le_trans (Nat.mod_le _ _) zz12
theorem hcs_part {l : List HT} {i : Nat} (h : i < l.length) : ((hcs l).drop (i * 3)).take 3 = (l.getD i HT.z).c := cat_part HT.c_length HT.z h
theorem bs_le {t : Tr} (h : Sm t) : t.bs.length ≤ 1000000 := by
  obtain ⟨tg, bs, l⟩ := t
  have h : bs.length + bytL l + 5 * (1 + cntL l) ≤ 1000000 := h
  show bs.length ≤ _
  omega
theorem Rv.z_svs : Rv.z.svs := ⟨SV.nil, SV.nil, SV.nil⟩
instance oneC_rvz : OneC Rv.z.c := Rv.z_svs.one
abbrev zd1 (x : Int) (t : Tr) : Int := orE x (((rdSeq t 135 (2 : Nat) (2 : Nat)).2 : Nat) : Int)
abbrev zd2 (x : Int) (t : Tr) : Int := orE (zd1 x t) (((rdSeq ((wT t).getD 0 Tr.z) 134 (5 : Nat) (5 : Nat)).2 : Nat) : Int)
abbrev zd3 (x : Int) (t : Tr) : Int := orE (zd2 x t) (((rdSeq ((wT t).getD 1 Tr.z) 131 (3 : Nat) (3 : Nat)).2 : Nat) : Int)
abbrev zd4 (x : Int) (t : Tr) : Int := orE (zd3 x t) (((rdStr ((fT t).getD 0 Tr.z) 1 40).2 : Nat) : Int)
abbrev zd5 (x : Int) (t : Tr) : Int := orE (zd4 x t) (((rdNum ((fT t).getD 1 Tr.z) 2 18446744073709551615).2 : Nat) : Int)
abbrev zd6 (x : Int) (t : Tr) : Int := orE (zd5 x t) (((rdNum ((fT t).getD 2 Tr.z) 3 1099511627776).2 : Nat) : Int)
abbrev zd7 (x : Int) (t : Tr) : Int := orE (zd6 x t) (((rdNum ((fT t).getD 3 Tr.z) 4 1099511627776).2 : Nat) : Int)
abbrev zd8 (x : Int) (t : Tr) : Int := orE (zd7 x t) (((rdSeq ((fT t).getD 4 Tr.z) 129 (0 : Nat) (500 : Nat)).2 : Nat) : Int)
abbrev zd9 (x : Int) (t : Tr) : Int := orE (accE (zd8 x t) (lT t)) (((rdNum ((gT t).getD 0 Tr.z) 1 16).2 : Nat) : Int)
abbrev zd10 (x : Int) (t : Tr) : Int := orE (orE (zd9 x t) (((rdStr ((gT t).getD 1 Tr.z) 2 65536).2 : Nat) : Int)) (shE (rdStr ((gT t).getD 1 Tr.z) 2 65536).1)
abbrev zd11 (x : Int) (t : Tr) : Int := orE (orE (zd10 x t) (((rdStr ((gT t).getD 2 Tr.z) 3 65536).2 : Nat) : Int)) (shE (rdStr ((gT t).getD 2 Tr.z) 3 65536).1)
theorem decodeR (av : Value) (xs : List UInt8) (w : World) (hav : Seen w.cell? av xs.length 1 (v8s xs))  :
    Calls Tryd.prog 14 [av].toArray w (GivesP w (fun y : Rv × Int => DecP xs y.1 y.2 ∧ y.1.svs) (fun y => .tuple #[.agg y.1.c.toArray, .int .i64 y.2]) (fun y => rvE y.1) (fun _ => [])) := by
  have sav := hav.sv
  have lav := sav.le
  simp only [maxLen] at lav
  have sav := hav.sv
  refine enter (m := 109) (R := Mem w [] [] []) Tryd.func14 rfl rfl (Nat.le_of_ble_eq_true rfl) (Mem.start w) ?_
  refine wpc_seq <| wpc_region ?_
  refine wpl_t (t_alloc Tryd.ti32 Rv.z.c rfl) rfl (fun b2 => ?_)
  refine wpl_q (q_pure rfl) rfl <| wpl_nil <| ex_then <| wpc_seq <| wpc_region <| wpl_q (q_pure rfl) rfl ?_
  refine wpl_tp (t_callPT Tryd.hb36 rfl fun w h => frz (decode av xs w (h.seen_old hav))) rfl (fun b17 p17 => ?_)
  haveI := p17.2.one
  have hsmT : Sm b17.tr := by rw [p17.1]; exact (decF_sm xs).1
  refine wpl_q (q_pure rfl) rfl <| wpl_q (q_pure rfl) rfl <| wpl_q (q_pure rfl) rfl ?_
  refine wpl_t (t_alloc Tryd.ti61 HT.z.c rfl) rfl (fun b4 => ?_)
  refine wpl_t (t_alloc Tryd.ti24 [.int .i64 0] rfl) rfl (fun b5 => ?_)
  refine wpl_t0 (t_stA Tryd.ti61 rfl rfl LenC.h OneC.h LenC.h) (fun _ => ?_)
  refine wpl_t0 (t_st1 Tryd.ti24 rfl rfl rfl zz6 [.int .i64 (decF xs).2] rfl) (fun _ => ?_)
  refine wpl_nil <| ex_then <| wpc_seq <| wpc_region ?_
  refine wpl_q (q_fn (us := []) (vs := [.pointer (some ⟨b5, 0, none⟩)]) rfl rfl) rfl ?_
  refine wpl_q (q_build (cs := [(.func (.func 37) #[] #[.pointer (some ⟨b5, 0, none⟩)])]) rfl zz7) rfl ?_
  refine wpl_t (t_alloc Tryd.ti84 [.nilFunc] rfl) rfl (fun b6 => ?_)
  refine wpl_t0 (t_stA Tryd.ti84 rfl rfl LenC.h OneC.h LenC.h) (fun _ => ?_)
  refine wpl_nil <| ex_then <| wpc_seq ?_
  refine wpc_draw 6 zz7 (fun _ h => h.drew) ?_
  refine wpd_q 0 rfl zz7 trivial (q_ldN Tryd.underlying84 rfl Tryd.ti84 rfl LenC.h) rfl (fun _ h => h) ?_
  refine wpd_p 1 rfl zz7 trivial (q_fn (us := [.agg #[(.func (.func 37) #[] #[.pointer (some ⟨b5, 0, none⟩)])]]) (vs := []) rfl rfl) rfl sk0 ?_
  refine wpd_q 2 rfl zz7 trivial (q_ldN Tryd.underlying84 rfl Tryd.ti84 rfl LenC.h) rfl (fun _ h => h) ?_
  refine wpd_p 3 rfl zz7 trivial (q_fn (us := [.agg #[(.func (.func 37) #[] #[.pointer (some ⟨b5, 0, none⟩)])]]) (vs := []) rfl rfl) rfl sk0 ?_
  refine wpd_p 4 rfl zz7 trivial (q_pure rfl) rfl sk0 ?_
  refine wpd_p 5 rfl zz7 trivial (q_pure rfl) rfl sk0 ?_
  refine wpd_done zz7 ?_
  refine ex_then <| wpc_seq <| wpc_region <| wpl_q (q_pure rfl) rfl <| wpl_q (q_ldN Tryd.underlying61 rfl Tryd.ti61 rfl LenC.h) rfl ?_
  refine wpl_tp (t_callLS (.blk b5 24 [.int .i64 (decF xs).2]) (.blk b5 24 [.int .i64 (zd1 (decF xs).2 b17.tr)]) rfl Tryd.hb40 rfl fun w h h2 => rdrListF b5 b17 b17.tr 135 2 2 (decF xs).2 w h2 (hseen_rdo h zz4 zz20) rfl hsmT zz19) rfl (fun b28 p28 => ?_)
  have svl28 := p28.2.1
  have hl28 : b28.2.length = 2 := (len_trs p28.1).trans (wT_len _)
  haveI := (p28.2.2 (b28.2.getD 0 HT.z) (getD_memH zz12)).one
  haveI := (p28.2.2 (b28.2.getD 1 HT.z) (getD_memH zz12)).one
  refine wpl_q (q_pure rfl) rfl <| wpl_nil <| ex_then <| wpc_seq ?_
  refine wpc_drawM [] 99 zz7 zz8 ?_
  refine wpd_p 0 rfl zz7 trivial (q_pure rfl) rfl (fun w h => .inr (h.sub SubC.h SubC.h)) ?_
  refine wpd_p 1 rfl zz7 trivial (q_pure rfl) rfl (fun w h => .inr (h.sub SubC.h SubC.h)) ?_
  refine wpd_p 2 rfl zz7 trivial (q_idxW (j := 0) Tryd.underlying59 Tryd.ti61 rfl rfl zz3 zz1) rfl (fun w h => .inr (h.sub SubC.h SubC.h)) ?_
  refine wpd_q 3 rfl zz7 trivial (q_ldWN Tryd.underlying61 rfl Tryd.ti61 rfl (fun w h => HSeen.lsS (y := b28) (Mem.hseenF h zz4)) (b28.2.getD 0 HT.z).c (hcs_part zz12) LenC.h) rfl (fun w h => h.sub SubC.h SubC.h) ?_
  refine wpd_p 5 rfl zz7 trivial (q_pure rfl) rfl (fun w h => .inr (h.sub SubC.h SubC.h)) ?_
  refine wpd_p 6 rfl zz7 trivial (q_pure rfl) rfl (fun w h => .inr (h.sub SubC.h SubC.h)) ?_
  refine wpd_p 7 rfl zz7 trivial (q_idxW (j := 1) Tryd.underlying59 Tryd.ti61 rfl rfl zz3 zz1) rfl (fun w h => .inr (h.sub SubC.h SubC.h)) ?_
  refine wpd_q 8 rfl zz7 trivial (q_ldWN Tryd.underlying61 rfl Tryd.ti61 rfl (fun w h => HSeen.lsS (y := b28) (Mem.hseenF h zz4)) (b28.2.getD 1 HT.z).c (hcs_part zz12) LenC.h) rfl (fun w h => h.sub SubC.h SubC.h) ?_
  refine wpd_tp 4 rfl zz7 trivial (t_callLS (.blk b5 24 [.int .i64 (zd1 (decF xs).2 b17.tr)]) (.blk b5 24 [.int .i64 (zd2 (decF xs).2 b17.tr)]) rfl Tryd.hb40 rfl fun w h h2 => rdrListF b5 (b28.2.getD 0 HT.z) ((wT b17.tr).getD 0 Tr.z) 134 5 5 (zd1 (decF xs).2 b17.tr) w h2 (HSeen.lsK (y := b28) (hseen_rdo h zz4 zz20) zz12) (tr_get (show trs b28.2 = wT b17.tr from p28.1) 0) (sm_get hsmT 0) zz19) rfl (fun _ => (fun w h => .inr (h.sub SubC.h SubC.h))) (fun b33 p33 => ?_)
  have hl33 : b33.2.length = 5 := (len_trs p33.1).trans (fT_len _)
  have svl33 := p33.2.1
  haveI := (p33.2.2 (b33.2.getD 0 HT.z) (getD_memH zz12)).one
  haveI := (p33.2.2 (b33.2.getD 1 HT.z) (getD_memH zz12)).one
  haveI := (p33.2.2 (b33.2.getD 2 HT.z) (getD_memH zz12)).one
  haveI := (p33.2.2 (b33.2.getD 3 HT.z) (getD_memH zz12)).one
  haveI := (p33.2.2 (b33.2.getD 4 HT.z) (getD_memH zz12)).one
  refine wpd_tp 9 rfl zz7 trivial (t_callLS (.blk b5 24 [.int .i64 (zd2 (decF xs).2 b17.tr)]) (.blk b5 24 [.int .i64 (zd3 (decF xs).2 b17.tr)]) rfl Tryd.hb40 rfl fun w h h2 => rdrListF b5 (b28.2.getD 1 HT.z) ((wT b17.tr).getD 1 Tr.z) 131 3 3 (zd2 (decF xs).2 b17.tr) w h2 (HSeen.lsK (y := b28) (hseen_rdo h zz4 zz20) zz12) (tr_get (show trs b28.2 = wT b17.tr from p28.1) 1) (sm_get hsmT 1) zz19) rfl (fun _ => (fun w h => .inr (h.sub SubC.h SubC.h))) (fun b38 p38 => ?_)
  have hl38 : b38.2.length = 3 := (len_trs p38.1).trans (gT_len _)
  have svl38 := p38.2.1
  haveI := (p38.2.2 (b38.2.getD 0 HT.z) (getD_memH zz12)).one
  haveI := (p38.2.2 (b38.2.getD 1 HT.z) (getD_memH zz12)).one
  haveI := (p38.2.2 (b38.2.getD 2 HT.z) (getD_memH zz12)).one
  refine wpd_p 10 rfl zz7 trivial (q_pure rfl) rfl (fun w h => .inr (h.sub SubC.h SubC.h)) ?_
  refine wpd_p 11 rfl zz7 trivial (q_pure rfl) rfl (fun w h => .inr (h.sub SubC.h SubC.h)) ?_
  refine wpd_done zz7 ?_
  refine ex_then ?_
  refine wpc_cutc ({ x : Nat // True }) [(2, .pointer (some ⟨b2, 0, none⟩)), (5, .pointer (some ⟨b5, 0, none⟩)), (6, .pointer (some ⟨b6, 0, none⟩)), (7, .func (.func 39) #[.agg #[(.func (.func 37) #[] #[.pointer (some ⟨b5, 0, none⟩)])]] #[]), (8, .func (.func 40) #[.agg #[(.func (.func 37) #[] #[.pointer (some ⟨b5, 0, none⟩)])]] #[]), (10, b33.1), (11, b38.1)] (fun x Lc => (12, .pointer (some ⟨x.1, 0, none⟩)) :: Lc) (fun x => Mem w [] [.blk x.1 32 [str (rdStr ((fT b17.tr).getD 0 Tr.z) 1 40).1, .int .u64 ((rdNum ((fT b17.tr).getD 1 Tr.z) 2 18446744073709551615).1.toNat : Int), .int .i64 ((rdNum ((fT b17.tr).getD 2 Tr.z) 3 1099511627776).1.toNat : Int), .int .i64 ((rdNum ((fT b17.tr).getD 3 Tr.z) 4 1099511627776).1.toNat : Int), nl, .int .i64 0, nl, nl], .blk b5 24 [.int .i64 (zd7 (decF xs).2 b17.tr)], .blk b6 84 [(.func (.func 37) #[] #[.pointer (some ⟨b5, 0, none⟩)])], .blk b4 61 b17.c, .blk b2 32 Rv.z.c] [Go.Proofs.YtgnablliekgbgaaDoor.hseen (lsH b38), Go.Proofs.YtgnablliekgbgaaDoor.hseen (lsH b33), Go.Proofs.YtgnablliekgbgaaDoor.hseen (lsH b28), Go.Proofs.YtgnablliekgbgaaDoor.hseen b17]) ?_ ?_
  ·
   refine wpc_drawM [.blk b6 84 [(.func (.func 37) #[] #[.pointer (some ⟨b5, 0, none⟩)])]] 99 zz7 zz8 ?_
   refine wpd_q 0 rfl zz7 trivial (q_ldN Tryd.underlying84 rfl Tryd.ti84 rfl LenC.h) rfl (fun w h => h.sub SubC.h SubC.h) ?_
   refine wpd_p 1 rfl zz7 trivial (q_pure rfl) rfl (fun w h => .inr (h.sub SubC.h SubC.h)) ?_
   refine wpd_p 2 rfl zz7 trivial (q_idxW (j := 0) Tryd.underlying59 Tryd.ti61 rfl rfl zz3 zz1) rfl (fun w h => .inr (h.sub SubC.h SubC.h)) ?_
   refine wpd_q 3 rfl zz7 trivial (q_ldWN Tryd.underlying61 rfl Tryd.ti61 rfl (fun w h => HSeen.lsS (y := b33) (Mem.hseenF h zz4)) (b33.2.getD 0 HT.z).c (hcs_part zz12) LenC.h) rfl (fun w h => h.sub SubC.h SubC.h) ?_
   refine wpd_p 5 rfl zz7 trivial (q_pure rfl) rfl (fun w h => .inr (h.sub SubC.h SubC.h)) ?_
   refine wpd_p 6 rfl zz7 trivial (q_pure rfl) rfl (fun w h => .inr (h.sub SubC.h SubC.h)) ?_
   refine wpd_p 7 rfl zz7 trivial (q_idxW (j := 1) Tryd.underlying59 Tryd.ti61 rfl rfl zz3 zz1) rfl (fun w h => .inr (h.sub SubC.h SubC.h)) ?_
   refine wpd_q 8 rfl zz7 trivial (q_ldWN Tryd.underlying61 rfl Tryd.ti61 rfl (fun w h => HSeen.lsS (y := b33) (Mem.hseenF h zz4)) (b33.2.getD 1 HT.z).c (hcs_part zz12) LenC.h) rfl (fun w h => h.sub SubC.h SubC.h) ?_
   refine wpd_p 10 rfl zz7 trivial (q_pure rfl) rfl (fun w h => .inr (h.sub SubC.h SubC.h)) ?_
   refine wpd_p 11 rfl zz7 trivial (q_pure rfl) rfl (fun w h => .inr (h.sub SubC.h SubC.h)) ?_
   refine wpd_p 12 rfl zz7 trivial (q_idxW (j := 2) Tryd.underlying59 Tryd.ti61 rfl rfl zz3 zz1) rfl (fun w h => .inr (h.sub SubC.h SubC.h)) ?_
   refine wpd_q 13 rfl zz7 trivial (q_ldWN Tryd.underlying61 rfl Tryd.ti61 rfl (fun w h => HSeen.lsS (y := b33) (Mem.hseenF h zz4)) (b33.2.getD 2 HT.z).c (hcs_part zz12) LenC.h) rfl (fun w h => h.sub SubC.h SubC.h) ?_
   refine wpd_p 16 rfl zz7 trivial (q_pure rfl) rfl (fun w h => .inr (h.sub SubC.h SubC.h)) ?_
   refine wpd_p 17 rfl zz7 trivial (q_pure rfl) rfl (fun w h => .inr (h.sub SubC.h SubC.h)) ?_
   refine wpd_p 18 rfl zz7 trivial (q_idxW (j := 3) Tryd.underlying59 Tryd.ti61 rfl rfl zz3 zz1) rfl (fun w h => .inr (h.sub SubC.h SubC.h)) ?_
   refine wpd_q 19 rfl zz7 trivial (q_ldWN Tryd.underlying61 rfl Tryd.ti61 rfl (fun w h => HSeen.lsS (y := b33) (Mem.hseenF h zz4)) (b33.2.getD 3 HT.z).c (hcs_part zz12) LenC.h) rfl (fun w h => h.sub SubC.h SubC.h) ?_
   refine wpd_two 4 24 zz7 ?_ ?_
   ·
    refine wpa_tp 4 rfl trivial (t_callU (.blk b5 24 [.int .i64 (zd3 (decF xs).2 b17.tr)]) (.blk b5 24 [.int .i64 (zd4 (decF xs).2 b17.tr)]) rfl Tryd.hb41 rfl fun w h h2 => rdrStrF b5 (b33.2.getD 0 HT.z) ((fT b17.tr).getD 0 Tr.z) 1 40 (zd3 (decF xs).2 b17.tr) w h2 (HSeen.lsK (y := b33) (hseen_rdo h zz4 zz20) zz12) (tr_get (show trs b33.2 = fT b17.tr from p33.1) 0)) rfl (fun _ => (fun w h => .inr (h.sub SubC.h SubC.h))) (fun b43 p43 => ?_)
    refine wpd_two 9 24 zz7 ?_ ?_
    ·
     refine wpa_tp 9 rfl trivial (t_callU (.blk b5 24 [.int .i64 (zd4 (decF xs).2 b17.tr)]) (.blk b5 24 [.int .i64 (zd5 (decF xs).2 b17.tr)]) rfl Tryd.hb39 rfl fun w h h2 => rdrNumF b5 (b33.2.getD 1 HT.z) ((fT b17.tr).getD 1 Tr.z) 2 18446744073709551615 (zd4 (decF xs).2 b17.tr) w h2 (HSeen.lsK (y := b33) (hseen_rdo h zz4 zz20) zz12) (tr_get (show trs b33.2 = fT b17.tr from p33.1) 1)) rfl (fun _ => (fun w h => .inr (h.sub SubC.h SubC.h))) (fun b48 p48 => ?_)
     refine wpd_two 14 24 zz7 ?_ ?_
     ·
      refine wpa_tp 14 rfl trivial (t_callU (.blk b5 24 [.int .i64 (zd5 (decF xs).2 b17.tr)]) (.blk b5 24 [.int .i64 (zd6 (decF xs).2 b17.tr)]) rfl Tryd.hb39 rfl fun w h h2 => rdrNumF b5 (b33.2.getD 2 HT.z) ((fT b17.tr).getD 2 Tr.z) 3 1099511627776 (zd5 (decF xs).2 b17.tr) w h2 (HSeen.lsK (y := b33) (hseen_rdo h zz4 zz20) zz12) (tr_get (show trs b33.2 = fT b17.tr from p33.1) 2)) rfl (fun _ => (fun w h => .inr (h.sub SubC.h SubC.h))) (fun b53 p53 => ?_)
      refine wpd_p 15 rfl zz7 trivial (q64_intN Tryd.underlying23 Tryd.underlying2 rfl zz37) rfl (fun w h => .inr (h.sub SubC.h SubC.h)) ?_
      refine wpd_two 20 24 zz7 ?_ ?_
      ·
       refine wpa_tp 20 rfl trivial (t_callU (.blk b5 24 [.int .i64 (zd6 (decF xs).2 b17.tr)]) (.blk b5 24 [.int .i64 (zd7 (decF xs).2 b17.tr)]) rfl Tryd.hb39 rfl fun w h h2 => rdrNumF b5 (b33.2.getD 3 HT.z) ((fT b17.tr).getD 3 Tr.z) 4 1099511627776 (zd6 (decF xs).2 b17.tr) w h2 (HSeen.lsK (y := b33) (hseen_rdo h zz4 zz20) zz12) (tr_get (show trs b33.2 = fT b17.tr from p33.1) 3)) rfl (fun _ => (fun w h => .inr (h.sub SubC.h SubC.h))) (fun b59 p59 => ?_)
       refine wpd_p 21 rfl zz7 trivial (q64_intN Tryd.underlying23 Tryd.underlying2 rfl zz31) rfl (fun w h => .inr (h.sub SubC.h SubC.h)) ?_
       refine wpd_p 22 rfl zz7 trivial (q_build (cs := [.int .i64 ((rdNum ((fT b17.tr).getD 2 Tr.z) 3 1099511627776).1.toNat : Int), .int .i64 ((rdNum ((fT b17.tr).getD 3 Tr.z) 4 1099511627776).1.toNat : Int)]) rfl zz7) rfl (fun w h => .inr (h.sub SubC.h SubC.h)) ?_
       refine wpd_p 23 rfl zz7 trivial (q_build (cs := [str (rdStr ((fT b17.tr).getD 0 Tr.z) 1 40).1, .int .u64 ((rdNum ((fT b17.tr).getD 1 Tr.z) 2 18446744073709551615).1.toNat : Int), .int .i64 ((rdNum ((fT b17.tr).getD 2 Tr.z) 3 1099511627776).1.toNat : Int), .int .i64 ((rdNum ((fT b17.tr).getD 3 Tr.z) 4 1099511627776).1.toNat : Int), nl, .int .i64 0, nl, nl]) rfl zz7) rfl (fun w h => .inr (h.sub SubC.h SubC.h)) ?_
       refine wpd_t 24 rfl zz7 trivial (t_alloc Tryd.ti32 Rv.z.c rfl) rfl (fun _ => (fun w h => .inr (h.sub SubC.h SubC.h))) (fun b12 => ?_)
       refine wpd_t0 25 rfl zz7 trivial (t_stA Tryd.ti32 rfl rfl LenC.h (OneC.cons rfl (OneC.cons rfl (OneC.cons rfl (OneC.cons rfl (OneC.cons rfl (OneC.cons rfl (OneC.cons rfl (OneC.cons rfl oneC_nil)))))))).h LenC.h) (fun _ => (fun w h => .inr (h.sub SubC.h SubC.h))) (fun _ => ?_)
       refine wpd_done zz7 ?_
       refine ex_mid ⟨b12, trivial⟩ ?_ ?_
       ·
        exact zz9
       ·
        exact fun w h => h.sel
      ·
       refine wpa_t 24 rfl trivial (t_alloc Tryd.ti32 Rv.z.c rfl) rfl (fun _ => (fun w h => .inr (h.sub SubC.h SubC.h))) (fun b12 => ?_)
       refine wpd_tp 20 rfl zz7 trivial (t_callU (.blk b5 24 [.int .i64 (zd6 (decF xs).2 b17.tr)]) (.blk b5 24 [.int .i64 (zd7 (decF xs).2 b17.tr)]) rfl Tryd.hb39 rfl fun w h h2 => rdrNumF b5 (b33.2.getD 3 HT.z) ((fT b17.tr).getD 3 Tr.z) 4 1099511627776 (zd6 (decF xs).2 b17.tr) w h2 (HSeen.lsK (y := b33) (hseen_rdo h zz4 zz20) zz12) (tr_get (show trs b33.2 = fT b17.tr from p33.1) 3)) rfl (fun _ => (fun w h => .inr (h.sub SubC.h SubC.h))) (fun b59 p59 => ?_)
       refine wpd_p 21 rfl zz7 trivial (q64_intN Tryd.underlying23 Tryd.underlying2 rfl zz31) rfl (fun w h => .inr (h.sub SubC.h SubC.h)) ?_
       refine wpd_p 22 rfl zz7 trivial (q_build (cs := [.int .i64 ((rdNum ((fT b17.tr).getD 2 Tr.z) 3 1099511627776).1.toNat : Int), .int .i64 ((rdNum ((fT b17.tr).getD 3 Tr.z) 4 1099511627776).1.toNat : Int)]) rfl zz7) rfl (fun w h => .inr (h.sub SubC.h SubC.h)) ?_
       refine wpd_p 23 rfl zz7 trivial (q_build (cs := [str (rdStr ((fT b17.tr).getD 0 Tr.z) 1 40).1, .int .u64 ((rdNum ((fT b17.tr).getD 1 Tr.z) 2 18446744073709551615).1.toNat : Int), .int .i64 ((rdNum ((fT b17.tr).getD 2 Tr.z) 3 1099511627776).1.toNat : Int), .int .i64 ((rdNum ((fT b17.tr).getD 3 Tr.z) 4 1099511627776).1.toNat : Int), nl, .int .i64 0, nl, nl]) rfl zz7) rfl (fun w h => .inr (h.sub SubC.h SubC.h)) ?_
       refine wpd_t0 25 rfl zz7 trivial (t_stA Tryd.ti32 rfl rfl LenC.h (OneC.cons rfl (OneC.cons rfl (OneC.cons rfl (OneC.cons rfl (OneC.cons rfl (OneC.cons rfl (OneC.cons rfl (OneC.cons rfl oneC_nil)))))))).h LenC.h) (fun _ => (fun w h => .inr (h.sub SubC.h SubC.h))) (fun _ => ?_)
       refine wpd_done zz7 ?_
       refine ex_mid ⟨b12, trivial⟩ ?_ ?_
       ·
        exact zz9
       ·
        exact fun w h => h.sel
     ·
      refine wpa_t 24 rfl trivial (t_alloc Tryd.ti32 Rv.z.c rfl) rfl (fun _ => (fun w h => .inr (h.sub SubC.h SubC.h))) (fun b12 => ?_)
      refine wpd_tp 14 rfl zz7 trivial (t_callU (.blk b5 24 [.int .i64 (zd5 (decF xs).2 b17.tr)]) (.blk b5 24 [.int .i64 (zd6 (decF xs).2 b17.tr)]) rfl Tryd.hb39 rfl fun w h h2 => rdrNumF b5 (b33.2.getD 2 HT.z) ((fT b17.tr).getD 2 Tr.z) 3 1099511627776 (zd5 (decF xs).2 b17.tr) w h2 (HSeen.lsK (y := b33) (hseen_rdo h zz4 zz20) zz12) (tr_get (show trs b33.2 = fT b17.tr from p33.1) 2)) rfl (fun _ => (fun w h => .inr (h.sub SubC.h SubC.h))) (fun b53 p53 => ?_)
      refine wpd_p 15 rfl zz7 trivial (q64_intN Tryd.underlying23 Tryd.underlying2 rfl zz37) rfl (fun w h => .inr (h.sub SubC.h SubC.h)) ?_
      refine wpd_tp 20 rfl zz7 trivial (t_callU (.blk b5 24 [.int .i64 (zd6 (decF xs).2 b17.tr)]) (.blk b5 24 [.int .i64 (zd7 (decF xs).2 b17.tr)]) rfl Tryd.hb39 rfl fun w h h2 => rdrNumF b5 (b33.2.getD 3 HT.z) ((fT b17.tr).getD 3 Tr.z) 4 1099511627776 (zd6 (decF xs).2 b17.tr) w h2 (HSeen.lsK (y := b33) (hseen_rdo h zz4 zz20) zz12) (tr_get (show trs b33.2 = fT b17.tr from p33.1) 3)) rfl (fun _ => (fun w h => .inr (h.sub SubC.h SubC.h))) (fun b59 p59 => ?_)
      refine wpd_p 21 rfl zz7 trivial (q64_intN Tryd.underlying23 Tryd.underlying2 rfl zz31) rfl (fun w h => .inr (h.sub SubC.h SubC.h)) ?_
      refine wpd_p 22 rfl zz7 trivial (q_build (cs := [.int .i64 ((rdNum ((fT b17.tr).getD 2 Tr.z) 3 1099511627776).1.toNat : Int), .int .i64 ((rdNum ((fT b17.tr).getD 3 Tr.z) 4 1099511627776).1.toNat : Int)]) rfl zz7) rfl (fun w h => .inr (h.sub SubC.h SubC.h)) ?_
      refine wpd_p 23 rfl zz7 trivial (q_build (cs := [str (rdStr ((fT b17.tr).getD 0 Tr.z) 1 40).1, .int .u64 ((rdNum ((fT b17.tr).getD 1 Tr.z) 2 18446744073709551615).1.toNat : Int), .int .i64 ((rdNum ((fT b17.tr).getD 2 Tr.z) 3 1099511627776).1.toNat : Int), .int .i64 ((rdNum ((fT b17.tr).getD 3 Tr.z) 4 1099511627776).1.toNat : Int), nl, .int .i64 0, nl, nl]) rfl zz7) rfl (fun w h => .inr (h.sub SubC.h SubC.h)) ?_
      refine wpd_t0 25 rfl zz7 trivial (t_stA Tryd.ti32 rfl rfl LenC.h (OneC.cons rfl (OneC.cons rfl (OneC.cons rfl (OneC.cons rfl (OneC.cons rfl (OneC.cons rfl (OneC.cons rfl (OneC.cons rfl oneC_nil)))))))).h LenC.h) (fun _ => (fun w h => .inr (h.sub SubC.h SubC.h))) (fun _ => ?_)
      refine wpd_done zz7 ?_
      refine ex_mid ⟨b12, trivial⟩ ?_ ?_
      ·
       exact zz9
      ·
       exact fun w h => h.sel
    ·
     refine wpa_t 24 rfl trivial (t_alloc Tryd.ti32 Rv.z.c rfl) rfl (fun _ => (fun w h => .inr (h.sub SubC.h SubC.h))) (fun b12 => ?_)
     refine wpd_tp 9 rfl zz7 trivial (t_callU (.blk b5 24 [.int .i64 (zd4 (decF xs).2 b17.tr)]) (.blk b5 24 [.int .i64 (zd5 (decF xs).2 b17.tr)]) rfl Tryd.hb39 rfl fun w h h2 => rdrNumF b5 (b33.2.getD 1 HT.z) ((fT b17.tr).getD 1 Tr.z) 2 18446744073709551615 (zd4 (decF xs).2 b17.tr) w h2 (HSeen.lsK (y := b33) (hseen_rdo h zz4 zz20) zz12) (tr_get (show trs b33.2 = fT b17.tr from p33.1) 1)) rfl (fun _ => (fun w h => .inr (h.sub SubC.h SubC.h))) (fun b48 p48 => ?_)
     refine wpd_tp 14 rfl zz7 trivial (t_callU (.blk b5 24 [.int .i64 (zd5 (decF xs).2 b17.tr)]) (.blk b5 24 [.int .i64 (zd6 (decF xs).2 b17.tr)]) rfl Tryd.hb39 rfl fun w h h2 => rdrNumF b5 (b33.2.getD 2 HT.z) ((fT b17.tr).getD 2 Tr.z) 3 1099511627776 (zd5 (decF xs).2 b17.tr) w h2 (HSeen.lsK (y := b33) (hseen_rdo h zz4 zz20) zz12) (tr_get (show trs b33.2 = fT b17.tr from p33.1) 2)) rfl (fun _ => (fun w h => .inr (h.sub SubC.h SubC.h))) (fun b53 p53 => ?_)
     refine wpd_p 15 rfl zz7 trivial (q64_intN Tryd.underlying23 Tryd.underlying2 rfl zz37) rfl (fun w h => .inr (h.sub SubC.h SubC.h)) ?_
     refine wpd_tp 20 rfl zz7 trivial (t_callU (.blk b5 24 [.int .i64 (zd6 (decF xs).2 b17.tr)]) (.blk b5 24 [.int .i64 (zd7 (decF xs).2 b17.tr)]) rfl Tryd.hb39 rfl fun w h h2 => rdrNumF b5 (b33.2.getD 3 HT.z) ((fT b17.tr).getD 3 Tr.z) 4 1099511627776 (zd6 (decF xs).2 b17.tr) w h2 (HSeen.lsK (y := b33) (hseen_rdo h zz4 zz20) zz12) (tr_get (show trs b33.2 = fT b17.tr from p33.1) 3)) rfl (fun _ => (fun w h => .inr (h.sub SubC.h SubC.h))) (fun b59 p59 => ?_)
     refine wpd_p 21 rfl zz7 trivial (q64_intN Tryd.underlying23 Tryd.underlying2 rfl zz31) rfl (fun w h => .inr (h.sub SubC.h SubC.h)) ?_
     refine wpd_p 22 rfl zz7 trivial (q_build (cs := [.int .i64 ((rdNum ((fT b17.tr).getD 2 Tr.z) 3 1099511627776).1.toNat : Int), .int .i64 ((rdNum ((fT b17.tr).getD 3 Tr.z) 4 1099511627776).1.toNat : Int)]) rfl zz7) rfl (fun w h => .inr (h.sub SubC.h SubC.h)) ?_
     refine wpd_p 23 rfl zz7 trivial (q_build (cs := [str (rdStr ((fT b17.tr).getD 0 Tr.z) 1 40).1, .int .u64 ((rdNum ((fT b17.tr).getD 1 Tr.z) 2 18446744073709551615).1.toNat : Int), .int .i64 ((rdNum ((fT b17.tr).getD 2 Tr.z) 3 1099511627776).1.toNat : Int), .int .i64 ((rdNum ((fT b17.tr).getD 3 Tr.z) 4 1099511627776).1.toNat : Int), nl, .int .i64 0, nl, nl]) rfl zz7) rfl (fun w h => .inr (h.sub SubC.h SubC.h)) ?_
     refine wpd_t0 25 rfl zz7 trivial (t_stA Tryd.ti32 rfl rfl LenC.h (OneC.cons rfl (OneC.cons rfl (OneC.cons rfl (OneC.cons rfl (OneC.cons rfl (OneC.cons rfl (OneC.cons rfl (OneC.cons rfl oneC_nil)))))))).h LenC.h) (fun _ => (fun w h => .inr (h.sub SubC.h SubC.h))) (fun _ => ?_)
     refine wpd_done zz7 ?_
     refine ex_mid ⟨b12, trivial⟩ ?_ ?_
     ·
      exact zz9
     ·
      exact fun w h => h.sel
   ·
    refine wpa_t 24 rfl trivial (t_alloc Tryd.ti32 Rv.z.c rfl) rfl (fun _ => (fun w h => .inr (h.sub SubC.h SubC.h))) (fun b12 => ?_)
    refine wpd_tp 4 rfl zz7 trivial (t_callU (.blk b5 24 [.int .i64 (zd3 (decF xs).2 b17.tr)]) (.blk b5 24 [.int .i64 (zd4 (decF xs).2 b17.tr)]) rfl Tryd.hb41 rfl fun w h h2 => rdrStrF b5 (b33.2.getD 0 HT.z) ((fT b17.tr).getD 0 Tr.z) 1 40 (zd3 (decF xs).2 b17.tr) w h2 (HSeen.lsK (y := b33) (hseen_rdo h zz4 zz20) zz12) (tr_get (show trs b33.2 = fT b17.tr from p33.1) 0)) rfl (fun _ => (fun w h => .inr (h.sub SubC.h SubC.h))) (fun b43 p43 => ?_)
    refine wpd_tp 9 rfl zz7 trivial (t_callU (.blk b5 24 [.int .i64 (zd4 (decF xs).2 b17.tr)]) (.blk b5 24 [.int .i64 (zd5 (decF xs).2 b17.tr)]) rfl Tryd.hb39 rfl fun w h h2 => rdrNumF b5 (b33.2.getD 1 HT.z) ((fT b17.tr).getD 1 Tr.z) 2 18446744073709551615 (zd4 (decF xs).2 b17.tr) w h2 (HSeen.lsK (y := b33) (hseen_rdo h zz4 zz20) zz12) (tr_get (show trs b33.2 = fT b17.tr from p33.1) 1)) rfl (fun _ => (fun w h => .inr (h.sub SubC.h SubC.h))) (fun b48 p48 => ?_)
    refine wpd_tp 14 rfl zz7 trivial (t_callU (.blk b5 24 [.int .i64 (zd5 (decF xs).2 b17.tr)]) (.blk b5 24 [.int .i64 (zd6 (decF xs).2 b17.tr)]) rfl Tryd.hb39 rfl fun w h h2 => rdrNumF b5 (b33.2.getD 2 HT.z) ((fT b17.tr).getD 2 Tr.z) 3 1099511627776 (zd5 (decF xs).2 b17.tr) w h2 (HSeen.lsK (y := b33) (hseen_rdo h zz4 zz20) zz12) (tr_get (show trs b33.2 = fT b17.tr from p33.1) 2)) rfl (fun _ => (fun w h => .inr (h.sub SubC.h SubC.h))) (fun b53 p53 => ?_)
    refine wpd_p 15 rfl zz7 trivial (q64_intN Tryd.underlying23 Tryd.underlying2 rfl zz37) rfl (fun w h => .inr (h.sub SubC.h SubC.h)) ?_
    refine wpd_tp 20 rfl zz7 trivial (t_callU (.blk b5 24 [.int .i64 (zd6 (decF xs).2 b17.tr)]) (.blk b5 24 [.int .i64 (zd7 (decF xs).2 b17.tr)]) rfl Tryd.hb39 rfl fun w h h2 => rdrNumF b5 (b33.2.getD 3 HT.z) ((fT b17.tr).getD 3 Tr.z) 4 1099511627776 (zd6 (decF xs).2 b17.tr) w h2 (HSeen.lsK (y := b33) (hseen_rdo h zz4 zz20) zz12) (tr_get (show trs b33.2 = fT b17.tr from p33.1) 3)) rfl (fun _ => (fun w h => .inr (h.sub SubC.h SubC.h))) (fun b59 p59 => ?_)
    refine wpd_p 21 rfl zz7 trivial (q64_intN Tryd.underlying23 Tryd.underlying2 rfl zz31) rfl (fun w h => .inr (h.sub SubC.h SubC.h)) ?_
    refine wpd_p 22 rfl zz7 trivial (q_build (cs := [.int .i64 ((rdNum ((fT b17.tr).getD 2 Tr.z) 3 1099511627776).1.toNat : Int), .int .i64 ((rdNum ((fT b17.tr).getD 3 Tr.z) 4 1099511627776).1.toNat : Int)]) rfl zz7) rfl (fun w h => .inr (h.sub SubC.h SubC.h)) ?_
    refine wpd_p 23 rfl zz7 trivial (q_build (cs := [str (rdStr ((fT b17.tr).getD 0 Tr.z) 1 40).1, .int .u64 ((rdNum ((fT b17.tr).getD 1 Tr.z) 2 18446744073709551615).1.toNat : Int), .int .i64 ((rdNum ((fT b17.tr).getD 2 Tr.z) 3 1099511627776).1.toNat : Int), .int .i64 ((rdNum ((fT b17.tr).getD 3 Tr.z) 4 1099511627776).1.toNat : Int), nl, .int .i64 0, nl, nl]) rfl zz7) rfl (fun w h => .inr (h.sub SubC.h SubC.h)) ?_
    refine wpd_t0 25 rfl zz7 trivial (t_stA Tryd.ti32 rfl rfl LenC.h (OneC.cons rfl (OneC.cons rfl (OneC.cons rfl (OneC.cons rfl (OneC.cons rfl (OneC.cons rfl (OneC.cons rfl (OneC.cons rfl oneC_nil)))))))).h LenC.h) (fun _ => (fun w h => .inr (h.sub SubC.h SubC.h))) (fun _ => ?_)
    refine wpd_done zz7 ?_
    refine ex_mid ⟨b12, trivial⟩ ?_ ?_
    ·
     exact zz9
    ·
     exact fun w h => h.sel
  ·
   rintro ⟨b12, _⟩; try dsimp only
   refine wpc_seq <| wpc_seq <| wpc_region <| wpl_q (q_pure rfl) rfl <| wpl_q (q_pure rfl) rfl ?_
   refine wpl_q (q_idxW (j := 4) Tryd.underlying59 Tryd.ti61 rfl rfl zz3 zz1) rfl ?_
   refine wpl_q (q_ldWN Tryd.underlying61 rfl Tryd.ti61 rfl (fun w h => HSeen.lsS (y := b33) (Mem.hseenF h zz4)) (b33.2.getD 4 HT.z).c (hcs_part zz12) LenC.h) rfl ?_
   refine wpl_tp (t_callLS (.blk b5 24 [.int .i64 (zd7 (decF xs).2 b17.tr)]) (.blk b5 24 [.int .i64 (zd8 (decF xs).2 b17.tr)]) rfl Tryd.hb40 rfl fun w h h2 => rdrListF b5 (b33.2.getD 4 HT.z) ((fT b17.tr).getD 4 Tr.z) 129 0 500 (zd7 (decF xs).2 b17.tr) w h2 (HSeen.lsK (y := b33) (hseen_rdo h zz4 zz20) zz12) (tr_get (show trs b33.2 = fT b17.tr from p33.1) 4) (sm_get (lo := 5) (hi := 5) (sm_get hsmT 0) 4) zz19) rfl (fun b67 p67 => ?_)
   have hl67 : b67.2.length = (lT b17.tr).length := len_trs p67.1
   have hl500 := lT_le b17.tr
   have svl67 := p67.2.1
   refine wpl_q (q_lenW Tryd.underlying59 rfl zz3) rfl ?_
   refine wpl_q (q_pure rfl) rfl <| wpl_nil <| ex_then <| wpc_block ?_
   refine wpc_loopc (ι := { x : Nat × Value // (x.1 ≤ b67.2.length) ∧ (SV x.2 x.1) }) [(2, _), (5, _), (6, _), (7, _), (11, _), (12, _), (67, _), (68, _)] (fun x Lc => (69, .int .i64 ((x.1.1 : Nat) : Int)) :: Lc) (fun x => Mem w [] [.blk b12 32 [str (rdStr ((fT b17.tr).getD 0 Tr.z) 1 40).1, .int .u64 ((rdNum ((fT b17.tr).getD 1 Tr.z) 2 18446744073709551615).1.toNat : Int), .int .i64 ((rdNum ((fT b17.tr).getD 2 Tr.z) 3 1099511627776).1.toNat : Int), .int .i64 ((rdNum ((fT b17.tr).getD 3 Tr.z) 4 1099511627776).1.toNat : Int), x.1.2, .int .i64 0, nl, nl], .row x.1.2 x.1.1 23 1 (v64s (serS ((lT b17.tr).take x.1.1))), .blk b5 24 [.int .i64 (accE (zd8 (decF xs).2 b17.tr) ((lT b17.tr).take x.1.1))], .blk b6 84 [(.func (.func 37) #[] #[.pointer (some ⟨b5, 0, none⟩)])], .blk b4 61 b17.c, .blk b2 32 Rv.z.c] [Go.Proofs.YtgnablliekgbgaaDoor.hseen (lsH b67), Go.Proofs.YtgnablliekgbgaaDoor.hseen (lsH b38), Go.Proofs.YtgnablliekgbgaaDoor.hseen (lsH b33), Go.Proofs.YtgnablliekgbgaaDoor.hseen (lsH b28), Go.Proofs.YtgnablliekgbgaaDoor.hseen b17]) (fun x => b67.2.length - x.1.1) ⟨(0, nl), ⟨Nat.zero_le _, SV.nil⟩⟩ zz9 ?_ ?_
   ·
    exact fun w h => by
      dsimp only
      rw [List.take_zero, accE_nil, show v64s (serS []) = [] from rfl]
      exact (h.nilRow 23 1).sel
   ·
    rintro ⟨⟨i, sv⟩, ⟨hi0, hi1⟩⟩; try dsimp only
    have hi0 : i ≤ b67.2.length := hi0; have hi1 : SV sv i := hi1
    refine wpc_seq <| wpc_region <| wpl_q (q_pure rfl) rfl <| wpl_nil <| ex_then <| wpc_seq ?_
    refine wpc_cond rfl (fun hc70 => ?_) (fun hc70 => ?_)
    ·
     simp only [decide_eq_true_eq] at hc70
     have hil : i < b67.2.length := by omega
     haveI := (p67.2.2 (b67.2.getD i HT.z) (getD_memH hil)).one
     have hi1 := hi1
     refine wpc_skip <| ex_then <| wpc_seq <| wpc_block <| wpc_seq <| wpc_region ?_
     refine wpl_q (q_idxW Tryd.underlying59 Tryd.ti61 rfl rfl zz3 zz1) rfl ?_
     refine wpl_q (q_ldWN Tryd.underlying61 rfl Tryd.ti61 rfl (fun w h => HSeen.lsS (y := b67) (Mem.hseenF h zz4)) (b67.2.getD i HT.z).c (hcs_part hil) LenC.h) rfl ?_
     refine wpl_t (t_alloc Tryd.ti61 HT.z.c rfl) rfl (fun b14 => ?_)
     refine wpl_t0 (t_stA Tryd.ti61 rfl rfl LenC.h OneC.h LenC.h) (fun _ => ?_)
     refine wpl_nil <| ex_then ?_
     refine wpc_drawM [.blk b14 61 (b67.2.getD i HT.z).c, .blk b12 32 [str (rdStr ((fT b17.tr).getD 0 Tr.z) 1 40).1, .int .u64 ((rdNum ((fT b17.tr).getD 1 Tr.z) 2 18446744073709551615).1.toNat : Int), .int .i64 ((rdNum ((fT b17.tr).getD 2 Tr.z) 3 1099511627776).1.toNat : Int), .int .i64 ((rdNum ((fT b17.tr).getD 3 Tr.z) 4 1099511627776).1.toNat : Int), sv, .int .i64 0, nl, nl]] 6 zz7 zz8 ?_
     refine wpd_p 0 rfl zz7 trivial (q_field Tryd.underlying32 rfl Tryd.ti22 rfl rfl _ rfl) rfl (fun w h => .inr (h.sub SubC.h SubC.h)) ?_
     refine wpd_q 1 rfl zz7 trivial (q_ld Tryd.underlying22 rfl rfl rfl) rfl (fun w h => h.sub SubC.h SubC.h) ?_
     refine wpd_p 2 rfl zz7 trivial (q_pure rfl) rfl (fun w h => .inr (h.sub SubC.h SubC.h)) ?_
     refine wpd_qB 3 [4, 5, 6] rfl zz7 trivial (q_ldN Tryd.underlying61 rfl Tryd.ti61 rfl LenC.h) rfl (fun w h => h.sub SubC.h SubC.h) ?_
     refine wpd_tp 4 rfl zz7 trivial (t_callU (.blk b5 24 [.int .i64 (accE (zd8 (decF xs).2 b17.tr) ((lT b17.tr).take i))]) (.blk b5 24 [.int .i64 (orE (accE (zd8 (decF xs).2 b17.tr) ((lT b17.tr).take i)) ((((rdNum ((lT b17.tr).getD i Tr.z) 5 18446744073709551615).2 : Nat)) : Int))]) rfl Tryd.hb39 rfl fun w h h2 => rdrNumF b5 (b67.2.getD i HT.z) ((lT b17.tr).getD i Tr.z) 5 18446744073709551615 (accE (zd8 (decF xs).2 b17.tr) ((lT b17.tr).take i)) w h2 (HSeen.lsK (y := b67) (hseen_rdo h zz4 zz20) hil) (tr_get (show trs b67.2 = lT b17.tr from p67.1) i)) rfl (fun _ => (fun w h => .inr (h.sub SubC.h SubC.h))) (fun b77 p77 => ?_)
     refine wpd_tp 5 rfl zz7 trivial (t_bsG [.int .u64 ((rdNum ((lT b17.tr).getD i Tr.z) 5 18446744073709551615).1.toNat : Int)] (v64s [(rdNum ((lT b17.tr).getD i Tr.z) 5 18446744073709551615).1]) Tryd.underlying22 Tryd.ti23 rfl zz19 rfl zz19 zz19 rfl (by intro v hv; rw [List.mem_singleton] at hv; subst hv; rfl) rfl) rfl (fun _ => (fun w h => .inr (h.sub SubC.h SubC.h))) (fun b78 p78 => ?_)
     refine wpd_tp 6 rfl zz7 trivial (t_apW Tryd.underlying22 Tryd.ti23 rfl zz19 rfl rfl (fun w h => zz15) (v64s_one _) zz1 zz1 (v64s (serS ((lT b17.tr).take (i + 1)))) (by rw [serS_S (by omega : i < (lT b17.tr).length)]; simp [v64s])) rfl (fun _ => skk rfl) (fun b79 p79 => ?_)
     refine wpd_p 7 rfl zz7 trivial (q_field Tryd.underlying32 rfl Tryd.ti22 rfl rfl _ rfl) rfl (skk rfl) ?_
     refine wpd_t0 8 rfl zz7 trivial (t_st1 Tryd.ti22 rfl rfl (SV.one zz3) zz6 [str (rdStr ((fT b17.tr).getD 0 Tr.z) 1 40).1, .int .u64 ((rdNum ((fT b17.tr).getD 1 Tr.z) 2 18446744073709551615).1.toNat : Int), .int .i64 ((rdNum ((fT b17.tr).getD 2 Tr.z) 3 1099511627776).1.toNat : Int), .int .i64 ((rdNum ((fT b17.tr).getD 3 Tr.z) 4 1099511627776).1.toNat : Int), b79, .int .i64 0, nl, nl] rfl) (fun _ => skk rfl) (fun _ => ?_)
     refine wpd_done zz7 ?_
     refine ex_block <| ex_then <| wpc_region ?_
     refine wpl_q (q_addN (b := 1) rfl rfl zz1) rfl ?_
     refine wpl_q (q_pure rfl) rfl <| wpl_nil ?_
     refine ex_again ⟨(i + 1, b79), ⟨by show i + 1 ≤ b67.2.length; omega, p79⟩⟩ ?_ ?_ ?_
     ·
      exact zz9
     ·
      exact fun w h => (by
        dsimp only
        rw [accE_S (by omega : i < (lT b17.tr).length)]
        exact h.sel)
     ·
      (show b67.2.length - (i + 1) < b67.2.length - i); omega
    ·
     simp only [decide_eq_false_iff_not] at hc70
     obtain rfl : i = (lT b17.tr).length := by omega
     rw [List.take_length]
     have hi1 : SV sv (lT b17.tr).length := hi1
     refine wpc_exit ?_
     refine ex_then_exit ?_
     refine ex_then_exit ?_
     refine ex_block_hit ?_
     refine ex_then <| wpc_seq ?_
     refine wpc_drawM [.blk b6 84 [(.func (.func 37) #[] #[.pointer (some ⟨b5, 0, none⟩)])]] 99 zz7 zz8 ?_
     refine wpd_p 0 rfl zz7 trivial (q_pure rfl) rfl (fun w h => .inr (h.sub SubC.h SubC.h)) ?_
     refine wpd_p 1 rfl zz7 trivial (q_pure rfl) rfl (fun w h => .inr (h.sub SubC.h SubC.h)) ?_
     refine wpd_p 2 rfl zz7 trivial (q_idxW (j := 0) Tryd.underlying59 Tryd.ti61 rfl rfl zz3 zz1) rfl (fun w h => .inr (h.sub SubC.h SubC.h)) ?_
     refine wpd_q 3 rfl zz7 trivial (q_ldWN Tryd.underlying61 rfl Tryd.ti61 rfl (fun w h => HSeen.lsS (y := b38) (Mem.hseenF h zz4)) (b38.2.getD 0 HT.z).c (hcs_part zz12) LenC.h) rfl (fun w h => h.sub SubC.h SubC.h) ?_
     refine wpd_q 6 rfl zz7 trivial (q_ldN Tryd.underlying84 rfl Tryd.ti84 rfl LenC.h) rfl (fun w h => h.sub SubC.h SubC.h) ?_
     refine wpd_p 7 rfl zz7 trivial (q_pure rfl) rfl (fun w h => .inr (h.sub SubC.h SubC.h)) ?_
     refine wpd_p 8 rfl zz7 trivial (q_idxW (j := 1) Tryd.underlying59 Tryd.ti61 rfl rfl zz3 zz1) rfl (fun w h => .inr (h.sub SubC.h SubC.h)) ?_
     refine wpd_q 9 rfl zz7 trivial (q_ldWN Tryd.underlying61 rfl Tryd.ti61 rfl (fun w h => HSeen.lsS (y := b38) (Mem.hseenF h zz4)) (b38.2.getD 1 HT.z).c (hcs_part zz12) LenC.h) rfl (fun w h => h.sub SubC.h SubC.h) ?_
     refine wpd_q 11 rfl zz7 trivial (q_ldN Tryd.underlying84 rfl Tryd.ti84 rfl LenC.h) rfl (fun w h => h.sub SubC.h SubC.h) ?_
     refine wpd_p 12 rfl zz7 trivial (q_pure rfl) rfl (fun w h => .inr (h.sub SubC.h SubC.h)) ?_
     refine wpd_p 13 rfl zz7 trivial (q_idxW (j := 2) Tryd.underlying59 Tryd.ti61 rfl rfl zz3 zz1) rfl (fun w h => .inr (h.sub SubC.h SubC.h)) ?_
     refine wpd_q 14 rfl zz7 trivial (q_ldWN Tryd.underlying61 rfl Tryd.ti61 rfl (fun w h => HSeen.lsS (y := b38) (Mem.hseenF h zz4)) (b38.2.getD 2 HT.z).c (hcs_part zz12) LenC.h) rfl (fun w h => h.sub SubC.h SubC.h) ?_
     refine wpd_tp 4 rfl zz7 trivial (t_callU (.blk b5 24 [.int .i64 (accE (zd8 (decF xs).2 b17.tr) (lT b17.tr))]) (.blk b5 24 [.int .i64 (zd9 (decF xs).2 b17.tr)]) rfl Tryd.hb39 rfl fun w h h2 => rdrNumF b5 (b38.2.getD 0 HT.z) ((gT b17.tr).getD 0 Tr.z) 1 16 (accE (zd8 (decF xs).2 b17.tr) (lT b17.tr)) w h2 (HSeen.lsK (y := b38) (hseen_rdo h zz4 zz20) zz12) (tr_get (show trs b38.2 = gT b17.tr from p38.1) 0)) rfl (fun _ => (fun w h => .inr (h.sub SubC.h SubC.h))) (fun b86 p86 => ?_)
     refine wpd_p 5 rfl zz7 trivial (q64_intN Tryd.underlying23 Tryd.underlying3 rfl (by have := rdNum_le ((gT b17.tr).getD 0 Tr.z) 1 16; have e : (16 : UInt64).toNat = 16 := rfl; omega)) rfl (fun w h => .inr (h.sub SubC.h SubC.h)) ?_
     refine wpd_tp 10 rfl zz7 trivial (t_callUR (.blk b5 24 [.int .i64 (zd9 (decF xs).2 b17.tr)]) (.blk b5 24 [.int .i64 (zd10 (decF xs).2 b17.tr)]) rfl Tryd.hb42 rfl fun w h h2 => rdrShF b5 (b38.2.getD 1 HT.z) ((gT b17.tr).getD 1 Tr.z) 2 (zd9 (decF xs).2 b17.tr) w h2 (HSeen.lsK (y := b38) (hseen_rdo h zz4 zz20) zz12) (tr_get (show trs b38.2 = gT b17.tr from p38.1) 1) (bs_le (sm_get (lo := 3) (hi := 3) (sm_get hsmT 1) 1))) rfl (fun _ => (fun w h => .inr (h.sub SubC.h SubC.h))) (fun b92 p92 => ?_)
     refine wpd_tp 15 rfl zz7 trivial (t_callUR (.blk b5 24 [.int .i64 (zd10 (decF xs).2 b17.tr)]) (.blk b5 24 [.int .i64 (zd11 (decF xs).2 b17.tr)]) rfl Tryd.hb42 rfl fun w h h2 => rdrShF b5 (b38.2.getD 2 HT.z) ((gT b17.tr).getD 2 Tr.z) 3 (zd10 (decF xs).2 b17.tr) w h2 (HSeen.lsK (y := b38) (hseen_rdo h zz4 zz20) zz12) (tr_get (show trs b38.2 = gT b17.tr from p38.1) 2) (bs_le (sm_get (lo := 3) (hi := 3) (sm_get hsmT 1) 2))) rfl (fun _ => (fun w h => .inr (h.sub SubC.h SubC.h))) (fun b97 p97 => ?_)
     refine wpd_p 16 rfl zz7 trivial (q_build (cs := [.int .i64 (((rdNum ((gT b17.tr).getD 0 Tr.z) 1 16).1.toNat : Nat) : Int), b92, b97]) rfl (built_sg p92 p97)) rfl (fun w h => .inr (h.sub SubC.h SubC.h)) ?_
     have hnmO : (rdStr ((fT b17.tr).getD 0 Tr.z) 1 40).1.length ≤ maxLen := by
       have q1 := rdStr_le ((fT b17.tr).getD 0 Tr.z) 1 40
       have q2 : (((fT b17.tr).getD 0 Tr.z)).bs.length ≤ 1000000 := bs_le (sm_get (lo := 5) (hi := 5) (sm_get hsmT 0) 0)
       unfold maxLen; omega
     haveI : OneC (outR b17.tr sv b92 b97).c := Rv.svs.one (l := (outR b17.tr sv b92 b97)) ⟨by show SV sv (serS (lT b17.tr)).length; rw [serS_len]; exact hi1, p92, p97⟩
     refine wpd_p 17 rfl zz7 trivial (q_field Tryd.underlying32 rfl Tryd.ti30 rfl rfl _ rfl) rfl (fun w h => .inr (h.sub SubC.h SubC.h)) ?_
     refine wpd_t0 18 rfl zz7 trivial (t_stP Tryd.ti30 rfl rfl zz2 (OneC.cons rfl (OneC.cons (SV.one p92) (OneC.cons (SV.one p97) oneC_nil))).h zz6 (outR b17.tr sv b92 b97).c rfl) (fun _ => (fun w h => .inr (h.sub SubC.h SubC.h))) (fun _ => ?_)
     refine wpd_done zz7 ?_
     refine ex_then <| wpc_seq <| wpc_seq <| wpc_region ?_
     refine wpl_q (q_ld Tryd.underlying24 rfl rfl zz23) rfl ?_
     refine wpl_q (q_pure rfl) rfl <| wpl_q (q_pure rfl) rfl ?_
     refine wpl_bool2 102 101 rfl rfl (fun hb102 => ?_) (fun hb102 => ?_)
     ·
      try simp only [decide_eq_true_eq, decide_eq_false_iff_not, Bool.and_eq_true, Bool.or_eq_true, beq_iff_eq, bne_iff_ne, ne_eq, Bool.not_eq_true', Bool.not_eq_false', Decidable.not_not] at hb102
      refine wpl_off rfl rfl rfl rfl <| wpl_off rfl rfl rfl rfl <| wpl_off rfl rfl rfl rfl <| wpl_q (q_pure rfl) rfl <| wpl_nil <| ex_then ?_
      refine wpc_cond_t rfl ?_
      refine wpc_seq <| wpc_region ?_
      refine wpl_q (q_build (cs := Rv.z.c) rfl built_rz) rfl ?_
      refine wpl_t0 (t_stA Tryd.ti32 rfl rfl LenC.h OneC.h LenC.h) (fun _ => ?_)
      refine wpl_q (q_pure rfl) rfl <| wpl_nil <| ex_then <| wpc_ret ?_
      refine ex_then_ret ?_
      refine retv2 (.inl rfl) rfl (rv_agg Tryd.underlying32 rfl Tryd.ti32 rfl (fun w h => h.atB) zz2) (rv_tmp rfl) ?_
      exact fun w1 h => ⟨(Rv.z, 12), ⟨zz47, Rv.z_svs⟩, rfl, h.below, rvE_z h⟩
     ·
      try simp only [decide_eq_true_eq, decide_eq_false_iff_not, Bool.and_eq_true, Bool.or_eq_true, beq_iff_eq, bne_iff_ne, ne_eq, Bool.not_eq_true', Bool.not_eq_false', Decidable.not_not] at hb102
      refine wpl_on rfl rfl <| wpl_q (q_ldN Tryd.underlying32 rfl Tryd.ti32 rfl LenC.h) rfl <| wpl_on rfl rfl ?_
      refine wpl_t (t_pur Tryd.hb10 rfl fun w h => rvCheck (outR b17.tr sv b92 b97) w ⟨(by rw [show ((outR b17.tr sv b92 b97)).ss.length = (lT b17.tr).length from serS_len _]; exact h.seen_row zz4), h.seen_row zz4, shK_all, h.seen_row zz4, shK_all⟩ hnmO) rfl (fun b104 => ?_)
      refine wpl_on rfl rfl <| wpl_q (q_pure rfl) rfl <| wpl_q (q_pure rfl) rfl <| wpl_nil <| ex_then ?_
      refine wpc_cond rfl (fun hc106 => ?_) (fun hc106 => ?_)
      ·
       try simp only [decide_eq_true_eq, decide_eq_false_iff_not, Bool.and_eq_true, Bool.or_eq_true, beq_iff_eq, bne_iff_ne, ne_eq, Bool.not_eq_true', Bool.not_eq_false', Decidable.not_not] at hc106
       refine wpc_seq <| wpc_region ?_
       refine wpl_q (q_build (cs := Rv.z.c) rfl built_rz) rfl ?_
       refine wpl_t0 (t_stA Tryd.ti32 rfl rfl LenC.h OneC.h LenC.h) (fun _ => ?_)
       refine wpl_q (q_pure rfl) rfl <| wpl_nil <| ex_then <| wpc_ret ?_
       refine ex_then_ret ?_
       refine retv2 (.inl rfl) rfl (rv_agg Tryd.underlying32 rfl Tryd.ti32 rfl (fun w h => h.atB) zz2) (rv_tmp rfl) ?_
       exact fun w1 h => ⟨(Rv.z, 12), ⟨zz47, Rv.z_svs⟩, rfl, h.below, rvE_z h⟩
      ·
       try simp only [decide_eq_true_eq, decide_eq_false_iff_not, Bool.and_eq_true, Bool.or_eq_true, beq_iff_eq, bne_iff_ne, ne_eq, Bool.not_eq_true', Bool.not_eq_false', Decidable.not_not] at hc106
       refine wpc_skip <| ex_then <| wpc_seq <| wpc_region <| wpl_q (q_ldN Tryd.underlying32 rfl Tryd.ti32 rfl LenC.h) rfl ?_
       refine wpl_t0 (t_stA Tryd.ti32 rfl rfl LenC.h OneC.h LenC.h) (fun _ => ?_)
       refine wpl_q (q_pure rfl) rfl <| wpl_nil <| ex_then <| wpc_ret ?_
       refine retv2 (.inl rfl) rfl (rv_agg Tryd.underlying32 rfl Tryd.ti32 rfl (fun w h => h.atB) zz2) (rv_tmp rfl) ?_
       exact fun w1 h => ⟨((outR b17.tr sv b92 b97), 0), ⟨by have q := dec_yes (xs := xs) (sv := sv) (cv := b92) (pv := b97) (by rw [← p17.1]; exact bne_f hb102) (by rw [← p17.1]; first | exact hc106 | exact bne_f hc106); rwa [← p17.1] at q, ⟨by show SV sv (serS (lT b17.tr)).length; rw [serS_len]; exact hi1, p92, p97⟩⟩, rfl, h.below, by
         show New _ [Ent.row sv (serS (lT b17.tr)).length 23 1 (v64s (serS (lT b17.tr))), .row b92 (shF (rdStr ((gT b17.tr).getD 1 Tr.z) 2 65536).1).length 41 16 (v8s (shF (rdStr ((gT b17.tr).getD 1 Tr.z) 2 65536).1).flatten), .row b97 (shF (rdStr ((gT b17.tr).getD 2 Tr.z) 3 65536).1).length 41 16 (v8s (shF (rdStr ((gT b17.tr).getD 2 Tr.z) 3 65536).1).flatten)] [] w1
         rw [serS_len]
         exact (h.sel (M' := [Ent.row sv (lT b17.tr).length 23 1 (v64s (serS (lT b17.tr))), .row b92 (shF (rdStr ((gT b17.tr).getD 1 Tr.z) 2 65536).1).length 41 16 (v8s (shF (rdStr ((gT b17.tr).getD 1 Tr.z) 2 65536).1).flatten), .row b97 (shF (rdStr ((gT b17.tr).getD 2 Tr.z) 3 65536).1).length 41 16 (v8s (shF (rdStr ((gT b17.tr).getD 2 Tr.z) 3 65536).1).flatten)])).made (Sub.refl _) .nil⟩
end Go.Proofs.YtgnablliekgbgaaDoor
namespace Go.Proofs.YtgnablliekgbgaaDoor
open Go Go.PL Go.RowKit
def rvseen (y : Rv) : Fact := ⟨fun r => y.seen r, fun _ _ hr h => h.mono hr⟩
theorem Mem.rvF {w0 w : World} {Ln : List Nat} {M : List Ent} {S : List Fact} (h : Mem w0 Ln M S w) {y : Rv} (hy : Go.Proofs.YtgnablliekgbgaaDoor.rvseen y ∈ S) : y.seen w.cell? := h.fact hy
theorem DecP.len {xs : List UInt8} {y : Rv} {e : Int} (h : DecP xs y e) : (∀ x ∈ y.chs, x.length = 16) ∧ (∀ x ∈ y.ps, x.length = 16) := by
  rcases h with ⟨_, h, _⟩ | ⟨_, h, _⟩
  · exact h.2
  · have h1 : y.chs = [] := h.2.2.2.2.2.1
    have h2 : y.ps = [] := h.2.2.2.2.2.2
    rw [h1, h2]
    constructor <;> (intro x hx; cases hx)
theorem rv_freeze {w0 w : World} {M : List Ent} {S : List Fact} {y : Rv} (hc : ∀ x ∈ y.chs, x.length = 16) (hp : ∀ x ∈ y.ps, x.length = 16) (h : Mem w0 [] (rvE y ++ M) S w) : Mem w0 [] M (Go.Proofs.YtgnablliekgbgaaDoor.rvseen y :: S) w := by
  have h2 := ((h.freezeRow .here).freezeRow .here).freezeRow .here
  exact h2.imp fun r hr f hf => by
    rcases List.mem_cons.1 hf with rfl | hf
    · exact ⟨hr (Go.PL.seen y.sv y.ss.length 1 (v64s y.ss)) zz40, hr (Go.PL.seen y.cv y.chs.length 16 (v8s y.chs.flatten)) zz40, hc, hr (Go.PL.seen y.pv y.ps.length 16 (v8s y.ps.flatten)) zz40, hp⟩
    · exact hr f (by simp [hf])
theorem frzD {P : Program} {k : FuncId} {vs : Array Value} {w : World} {xs : List UInt8} {V : Rv × Int → Value} (h : Calls P k vs w (GivesP w (fun y : Rv × Int => DecP xs y.1 y.2 ∧ y.1.svs) V (fun y => rvE y.1) (fun _ => []))) : Calls P k vs w (GivesP w (fun y : Rv × Int => DecP xs y.1 y.2 ∧ y.1.svs) V (fun _ => []) (fun y => [Go.Proofs.YtgnablliekgbgaaDoor.rvseen y.1])) := by
  refine h.mono ?_
  rintro e w' ⟨y, hp, rfl, hb, hn⟩
  have hm := (Mem.start w).call hb hn
  rw [List.append_nil, List.append_nil] at hm
  exact ⟨y, hp, rfl, hb, (rv_freeze (M := []) hp.1.len.1 hp.1.len.2 (by rw [List.append_nil]; exact hm)).made .nil (Sub.refl _)⟩
end Go.Proofs.YtgnablliekgbgaaDoor
namespace Go.Proofs.YtgnablliekgbgaaDoor
open Go Go.PL Go.RowKit
def exR (sv : Value) : Rv := ⟨[97], 2, 0, 9, sv, [5, 7], 0, nl, [], nl, []⟩
theorem ex_eqv (a b : Value) : (exR a).eqv (exR b) := ⟨rfl, rfl, ⟨rfl, rfl⟩, rfl, rfl, rfl, rfl⟩
theorem eqv_bdy {a b : Rv} (h : a.eqv b) : bdyB a = bdyB b := by
  obtain ⟨nm, no, fr, tt, sv, ss, ix, cv, chs, pv, ps⟩ := a
  obtain ⟨nm2, no2, fr2, tt2, sv2, ss2, ix2, cv2, chs2, pv2, ps2⟩ := b
  obtain ⟨e1, e2, ⟨e3, e4⟩, e5, e6, e7, e8⟩ := h
  dsimp only at e1 e2 e3 e4 e5 e6 e7 e8
  subst e1 e2 e3 e4 e5 e6 e7 e8
  rfl
theorem ex_chk (sv : Value) : chkR (exR sv) = 0 := (eqv_chk (ex_eqv sv nl)).trans zz19
theorem ex_lim (sv : Value) : RLim (exR sv) := ⟨by show 1 ≤ 500; omega, by show 2 ≤ 520; omega, by show 0 ≤ 60; omega, by show 0 ≤ 60; omega⟩
theorem ex_ok (sv : Value) : okL (exR sv) := ⟨ex_chk sv, fun x hx => (by cases hx), fun x hx => (by cases hx)⟩
theorem ex_body (sv : Value) : bdyB (exR sv) = [134, 19, 1, 1, 97, 2, 1, 2, 3, 0, 4, 1, 9, 129, 6, 5, 1, 5, 5, 1, 7] := (eqv_bdy (ex_eqv sv nl)).trans zz49
theorem ex_enc (sv : Value) : encB (exR sv) = enc (wholeT (exR sv)) := enc_ok (ex_chk sv)
theorem ex_dec {y : Rv} {e : Int} {sv sv2 : Value} (h : DecP (encB (exR sv)) y e) : e = 0 ∧ y.eqv (exR sv2) := by
  have k : DecP (encB (exR sv)) (exR sv) 0 := .inl ⟨rfl, ex_ok sv, (ex_enc sv).symm⟩
  obtain ⟨h1, h2⟩ := h.uniq k
  exact ⟨h2, eqv_trans h1 (ex_eqv _ _)⟩
theorem ex_seen {r : Rd} {sv : Value} (h : Seen r sv 2 1 (v64s [5, 7])) : (exR sv).seen r := ⟨h, seen_nil _ 0 _, fun x hx => (by cases hx), seen_nil _ 0 _, fun x hx => (by cases hx)⟩
theorem ex_nm (sv : Value) : (exR sv).nm.length ≤ maxLen := by show 1 ≤ maxLen; unfold maxLen; omega
theorem ex_rev5 (sv : Value) : revV (exR sv) 5 = true := by
  unfold revV; rw [ex_chk]; rfl
theorem ex_rev6 (sv : Value) : revV (exR sv) 6 = false := by
  unfold revV; rw [ex_chk]; rfl
theorem ex_svs {sv : Value} (h : SV sv 2) : (exR sv).svs := ⟨h, SV.nil, SV.nil⟩
theorem built_ex {sv : Value} {n : Nat} (h : SV sv n) : Tryd.prog.built 32 [(0, .string ⟨#[97]⟩), (1, .int .u64 2), (2, .agg #[.int .i64 0, .int .i64 9]), (3, sv)] = some (exR sv).c.toArray := by
  obtain ⟨a, cap, rfl, _⟩ := h
  kernel_rfl
theorem exampleR  (w : World)   :
    Calls Tryd.prog 7 [].toArray w (GivesP w (fun sv : Value => SV sv 2) (fun sv => .agg (exR sv).c.toArray) (fun sv => [.row sv 2 23 1 (v64s [5, 7])]) (fun _ => [])) := by
  refine enter (m := 4) (R := Mem w [] [] []) Tryd.func7 rfl rfl (Nat.le_of_ble_eq_true rfl) (Mem.start w) ?_
  refine wpc_seq <| wpc_region ?_
  refine wpl_t (t_alloc Tryd.ti32 Rv.z.c rfl) rfl (fun b0 => ?_)
  refine wpl_nil <| ex_then <| wpc_seq <| wpc_region ?_
  refine wpl_q (q_build (cs := [.int .i64 0, .int .i64 9]) rfl zz7) rfl ?_
  refine wpl_tp (t_bsV (v64s [5, 7]) Tryd.underlying22 Tryd.ti23 rfl rfl zz19 zz19 rfl (v64s_one _)) rfl (fun b2 p2 => ?_)
  haveI : OneC (exR b2).c := (ex_svs p2).one
  refine wpl_q (q_build (cs := (exR b2).c) rfl (built_ex p2)) rfl ?_
  refine wpl_t0 (t_stA Tryd.ti32 rfl rfl LenC.h OneC.h LenC.h) (fun _ => ?_)
  refine wpl_nil <| ex_then <| wpc_ret ?_
  refine retv1 (.inl rfl) rfl (rv_agg Tryd.underlying32 rfl Tryd.ti32 rfl (fun w h => h.atB) LenC.h) ?_
  exact fun w1 h => ⟨b2, p2, rfl, h.below, h.made SubC.h .nil⟩
end Go.Proofs.YtgnablliekgbgaaDoor
namespace Go.Proofs.YtgnablliekgbgaaDoor
open Go Go.PL Go.RowKit
theorem alive11  (w : World)   :
    Calls Tryd.prog 17 [].toArray w (Pur w (.bool true)) := by
  refine enter (m := 71) (R := Mem w [] [] []) Tryd.func17 rfl rfl (Nat.le_of_ble_eq_true rfl) (Mem.start w) ?_
  refine wpc_seq <| wpc_region <| wpl_q (q_pure rfl) rfl <| wpl_nil <| ex_then <| wpc_seq <| wpc_region ?_
  refine wpl_tp (t_callP1 Tryd.hb7 rfl fun w h => exampleR w) rfl (fun b12 p12 => ?_)
  haveI : OneC (exR b12).c := (ex_svs p12).one
  refine wpl_tp (t_callP1 Tryd.hb15 rfl fun w h => rvBodyB (exR b12) w (ex_seen (h.seen_row zz4)) (ex_nm _) (ex_lim _).ss (ex_lim _).nm) rfl (fun b13 p13 => ?_)
  refine wpl_q (q_pure rfl) rfl <| wpl_q (q_pure rfl) rfl <| wpl_q (q_pure rfl) rfl <| wpl_q (q_pure rfl) rfl <| wpl_q (q_pure rfl) rfl <| wpl_nil <| ex_then <| wpc_seq <| wpc_region ?_
  refine wpl_tp (t_callP1 Tryd.hb7 rfl fun w h => exampleR w) rfl (fun b17 p17 => ?_)
  haveI : OneC (exR b17).c := (ex_svs p17).one
  refine wpl_tp (t_callP1 Tryd.hb8 rfl fun w h => rvEncode (exR b17) w (ex_seen (h.seen_row zz4)) (ex_nm _) (ex_lim _)) rfl (fun b18 p18 => ?_)
  refine wpl_q (q_pure rfl) rfl <| wpl_q (q_pure rfl) rfl <| wpl_q (q_pure rfl) rfl <| wpl_q (q_pure rfl) rfl <| wpl_q (q_pure rfl) rfl <| wpl_nil <| ex_then <| wpc_seq <| wpc_region <| wpl_q (q_pure rfl) rfl ?_
  refine wpl_tp (t_callPT Tryd.hb14 rfl fun w h => frzD (decodeR b18 (encB (exR b17)) w (h.seen_row zz4))) rfl (fun b23 p23 => ?_)
  haveI := p23.2.one
  have hd := ex_dec (sv2 := b17) p23.1
  refine wpl_q (q_pure rfl) rfl <| wpl_q (q_pure rfl) rfl <| wpl_q (q_pure rfl) rfl ?_
  refine wpl_t (t_alloc Tryd.ti32 Rv.z.c rfl) rfl (fun b5 => ?_)
  refine wpl_t0 (t_stA Tryd.ti32 rfl rfl LenC.h OneC.h LenC.h) (fun _ => ?_)
  refine wpl_q (q_pure rfl) rfl <| wpl_nil <| ex_then <| wpc_seq <| wpc_region ?_
  refine wpl_tp (t_callP1 Tryd.hb7 rfl fun w h => exampleR w) rfl (fun b27 p27 => ?_)
  haveI : OneC (exR b27).c := (ex_svs p27).one
  refine wpl_t (t_pur (v := .tuple #[.bool true, .int .i64 0]) Tryd.hb9 rfl fun w h => by
    have q := revoked (exR b27) 5 w (ex_seen (h.seen_row zz4)) (ex_nm _)
    rwa [ex_rev5, ex_chk] at q) rfl (fun b28 => ?_)
  refine wpl_q (q_pure rfl) rfl <| wpl_q (q_pure rfl) rfl <| wpl_q (q_pure rfl) rfl <| wpl_q (q_pure rfl) rfl <| wpl_q (q_pure rfl) rfl <| wpl_nil <| ex_then <| wpc_seq <| wpc_region ?_
  refine wpl_tp (t_callP1 Tryd.hb7 rfl fun w h => exampleR w) rfl (fun b32 p32 => ?_)
  haveI : OneC (exR b32).c := (ex_svs p32).one
  refine wpl_t (t_pur (v := .tuple #[.bool false, .int .i64 0]) Tryd.hb9 rfl fun w h => by
    have q := revoked (exR b32) 6 w (ex_seen (h.seen_row zz4)) (ex_nm _)
    rwa [ex_rev6, ex_chk] at q) rfl (fun b33 => ?_)
  refine wpl_q (q_pure rfl) rfl <| wpl_q (q_pure rfl) rfl <| wpl_q (q_pure rfl) rfl <| wpl_q (q_pure rfl) rfl <| wpl_q (q_pure rfl) rfl <| wpl_nil <| ex_then <| wpc_seq ?_
  refine wpc_draw 36 zz7 (fun _ h => h.drew) ?_
  refine wpd_p 0 rfl zz7 trivial (q_pure rfl) rfl sk0 ?_
  refine wpd_p 1 rfl zz7 trivial (q_tru (q_eqI rfl rfl) (ex_chk b12)) rfl sk0 ?_
  refine wpd_p 2 rfl zz7 trivial (q_pure rfl) rfl sk0 ?_
  refine wpd_p 3 rfl zz7 ⟨_, rfl, rfl⟩ (q_pure rfl) rfl sk0 ?_
  refine wpd_p 4 rfl zz7 ⟨_, rfl, rfl⟩ (q_tru (q_eqI rfl rfl) (ex_chk b17)) rfl sk0 ?_
  refine wpd_p 5 rfl zz7 trivial (q_pure rfl) rfl sk0 ?_
  refine wpd_p 6 rfl zz7 trivial (q_pure rfl) rfl sk0 ?_
  refine wpd_p 7 rfl zz7 ⟨_, rfl, rfl⟩ (q_pure rfl) rfl sk0 ?_
  refine wpd_p 8 rfl zz7 ⟨_, rfl, rfl⟩ (q_tru (q_eqI rfl rfl) hd.1) rfl sk0 ?_
  refine wpd_p 9 rfl zz7 trivial (q_pure rfl) rfl sk0 ?_
  refine wpd_p 10 rfl zz7 trivial (q_pure rfl) rfl sk0 ?_
  refine wpd_p 11 rfl zz7 ⟨_, rfl, rfl⟩ (q_pure rfl) rfl sk0 ?_
  refine wpd_p 12 rfl zz7 ⟨_, rfl, rfl⟩ (q_tru (q_eqI rfl rfl) rfl) rfl sk0 ?_
  refine wpd_p 13 rfl zz7 trivial (q_pure rfl) rfl sk0 ?_
  refine wpd_p 14 rfl zz7 trivial (q_pure rfl) rfl sk0 ?_
  refine wpd_p 15 rfl zz7 ⟨_, rfl, rfl⟩ (q_pure rfl) rfl sk0 ?_
  refine wpd_p 16 rfl zz7 ⟨_, rfl, rfl⟩ (q_tru (q_eqI rfl rfl) rfl) rfl sk0 ?_
  refine wpd_p 17 rfl zz7 trivial (q_pure rfl) rfl sk0 ?_
  refine wpd_p 18 rfl zz7 trivial (q_pure rfl) rfl sk0 ?_
  refine wpd_p 19 rfl zz7 ⟨_, rfl, rfl⟩ (q_pure rfl) rfl sk0 ?_
  refine wpd_p 20 rfl zz7 trivial (q_pure rfl) rfl sk0 ?_
  refine wpd_p 21 rfl zz7 trivial (q_pure rfl) rfl sk0 ?_
  refine wpd_bool2 57 29 rfl rfl (fun hb57 => ?_) (fun hb57 => ?_)
  ·
   refine wpd_p 22 rfl zz7 ⟨_, rfl, rfl⟩ (q_pure rfl) rfl sk0 ?_
   refine wpd_p 23 rfl zz7 ⟨_, rfl, rfl⟩ (q_pure rfl) rfl sk0 ?_
   refine wpd_p 24 rfl zz7 trivial (q_pure rfl) rfl sk0 ?_
   refine wpd_p 25 rfl zz7 trivial (q_pure rfl) rfl sk0 ?_
   refine wpd_bool2 61 59 rfl rfl (fun hb61 => ?_) (fun hb61 => ?_)
   ·
    refine wpd_q 26 rfl zz7 ⟨_, rfl, rfl⟩ (q_ldN Tryd.underlying32 rfl Tryd.ti32 rfl LenC.h) rfl (fun _ h => h) ?_
    refine wpd_tp 27 rfl zz7 ⟨_, rfl, rfl⟩ (t_callP1 Tryd.hb7 rfl fun w h => exampleR w) rfl (fun _ => (fun w h => .inr (h.sub SubC.h SubC.h))) (fun b63 p63 => ?_)
    haveI : OneC (exR b63).c := (ex_svs p63).one
    refine wpd_t 28 rfl zz7 ⟨_, rfl, rfl⟩ (t_pur (v := .bool true) Tryd.hb43 rfl fun w h => by
      have q := refRvSame b23.1 (exR b63) w (Mem.rvF h zz4) (ex_seen (h.seen_row zz4))
      rwa [decide_eq_true (eqv_trans hd.2 (ex_eqv _ _))] at q) rfl (fun _ => (fun w h => .inr (h.sub SubC.h SubC.h))) (fun b64 => ?_)
    refine wpd_p 29 rfl zz7 trivial (q_pure rfl) rfl (fun w h => .inr (h.sub SubC.h SubC.h)) ?_
    refine wpd_p 30 rfl zz7 trivial (q_pure rfl) rfl (fun w h => .inr (h.sub SubC.h SubC.h)) ?_
    refine wpd_p 31 rfl zz7 ⟨_, rfl, rfl⟩ (q_pure rfl) rfl (fun w h => .inr (h.sub SubC.h SubC.h)) ?_
    refine wpd_tp 32 rfl zz7 ⟨_, rfl, rfl⟩ (t_bsV (v8s [134, 19, 1, 1, 97, 2, 1, 2, 3, 0, 4, 1, 9, 129, 6, 5, 1, 5, 5, 1, 7]) Tryd.underlying34 Tryd.ti5 rfl rfl zz19 zz19 rfl (v8s_one _)) rfl (fun _ => (fun w h => .inr (h.sub SubC.h SubC.h))) (fun b68 p68 => ?_)
    refine wpd_t 33 rfl zz7 ⟨_, rfl, rfl⟩ (t_pur (v := .bool true) Tryd.hb21 rfl fun w h => by
      have q := sameB b13 (bdyB (exR b12)) b68 [134, 19, 1, 1, 97, 2, 1, 2, 3, 0, 4, 1, 9, 129, 6, 5, 1, 5, 5, 1, 7] w (h.seen_row zz4) (h.seen_row zz4)
      rwa [decide_eq_true (ex_body b12)] at q) rfl (fun _ => (fun w h => .inr (h.sub SubC.h SubC.h))) (fun b69 => ?_)
    refine wpd_p 34 rfl zz7 trivial (q_pure rfl) rfl (fun w h => .inr (h.sub SubC.h SubC.h)) ?_
    refine wpd_p 35 rfl zz7 trivial (q_pure rfl) rfl (fun w h => .inr (h.sub SubC.h SubC.h)) ?_
    refine wpd_done zz7 ?_
    refine ex_then <| wpc_ret ?_
    refine ret1 (.inl rfl) rfl rfl ?_
    exact fun w h => ⟨by first | rfl | simp, h.below⟩
   ·
    exact absurd hb61 zz19
  ·
   exact absurd hb57 zz19
end Go.Proofs.YtgnablliekgbgaaDoor
namespace Go.Proofs.YtgnablliekgbgaaDoor
open Go Go.PL Go.RowKit
theorem nm_max {l : Rv} (h : RLim l) : l.nm.length ≤ maxLen := by have := h.nm; unfold maxLen; omega
end Go.Proofs.YtgnablliekgbgaaDoor
namespace Go.Proofs.YtgnablliekgbgaaDoor
open Go Go.PL Go.RowKit
theorem Rv.c_len (l : Rv) : l.c.length = 8 := rfl
theorem chk_both {a b : Rv} (ha : chkR a = 0) (hb : chkR b = 0) (sv cv pv : Value) : chkR (⟨a.nm, a.no, a.fr, a.tt, sv, a.ss, b.ix, cv, b.chs, pv, b.ps⟩ : Rv) = 0 ∧ True := by
  refine ⟨?_, trivial⟩
  have h2 := (chk_inv ha).2
  have h5 := (chk_inv ha).1
  unfold chkR at ha hb
  rw [if_neg h5] at ha
  split at ha
  · rename_i k1
    split at hb
    · cases hb
    · split at hb
      · rename_i _ k2
        unfold okR okA at k1 k2
        simp only [Bool.and_eq_true, decide_eq_true_eq] at k1 k2
        unfold chkR okR okA
        rw [if_neg h5, if_pos]
        simp only [Bool.and_eq_true, decide_eq_true_eq]
        exact ⟨⟨⟨k1.1.1.1, k1.1.1.2⟩, k2.1.2⟩, k1.2⟩
      · cases hb
  · cases ha
end Go.Proofs.YtgnablliekgbgaaDoor
namespace Go.Proofs.YtgnablliekgbgaaDoor
open Go Go.PL Go.RowKit
def joinedF (a b : List UInt8) : List UInt8 := shortF ([1] ++ a ++ b)
instance l16_short {s : List UInt8} : L16 (shortF s) := ⟨shortF_length s⟩
instance l16_rec {m : List UInt8} {c : List (List UInt8)} : L16 (recF m c) := ⟨recF_length m c⟩
instance l16_pub {s : List UInt8} : L16 (publicF s) := ⟨publicF_length s⟩
theorem joinedF_length (a b : List UInt8) : (joinedF a b).length = 16 := by rw [joinedF]; exact shortF_length _
instance l16_joined {a b : List UInt8} : L16 (joinedF a b) := ⟨joinedF_length a b⟩
def checkFMm (ht idx : Int) (nc np : Nat) : Int := if 0 ≤ ht ∧ ht ≤ 4 then (if 0 ≤ idx ∧ idx < ((2 ^ ht.toNat : Nat) : Int) ∧ nc = 35 ∧ (np : Int) = ht then 0 else 12) else 2
theorem check_2Mm {ht idx : Int} {nc np : Nat} (h : ¬ (0 ≤ ht ∧ ht ≤ 4)) : checkFMm ht idx nc np = 2 := if_neg h
theorem check_inMm {m : Nat} {idx : Int} {nc np : Nat} (h : (m : Int) ≤ 4) : checkFMm m idx nc np = if 0 ≤ idx ∧ idx < ((2 ^ m : Nat) : Int) ∧ nc = 35 ∧ np = m then 0 else 12 := by
  unfold checkFMm
  rw [if_pos ⟨Int.natCast_nonneg m, h⟩, Int.toNat_natCast]
  simp only [Int.ofNat_inj]
theorem check_12Mm {m : Nat} {idx : Int} {nc np : Nat} (h : (m : Int) ≤ 4) (hn : ¬ (0 ≤ idx ∧ idx < ((2 ^ m : Nat) : Int) ∧ nc = 35 ∧ np = m)) : checkFMm m idx nc np = 12 := (check_inMm h).trans (if_neg hn)
theorem check_0Mm {m : Nat} {idx : Int} {nc np : Nat} (h : (m : Int) ≤ 4) (hn : 0 ≤ idx ∧ idx < ((2 ^ m : Nat) : Int) ∧ nc = 35 ∧ np = m) : checkFMm m idx nc np = 0 := (check_inMm h).trans (if_pos hn)
theorem check_spec {ht idx : Int} {nc np : Nat} (h : checkFMm ht idx nc np = 0) : ∃ m k : Nat, ht = (m : Int) ∧ idx = (k : Int) ∧ m ≤ 4 ∧ k < 2 ^ m ∧ nc = 35 ∧ np = m := by
  unfold checkFMm at h
  split at h
  · rename_i h1
    split at h
    · rename_i h2
      exact ⟨ht.toNat, idx.toNat, zz12, zz12, zz12, zz12, h2.2.2.1, zz12⟩
    · cases h
  · cases h
def stepU (x : List UInt8) (j : Nat) (p : List UInt8) : List UInt8 := if j % 2 = 0 then joinedF x p else joinedF p x
theorem stepU_length (x : List UInt8) (j : Nat) (p : List UInt8) : (stepU x j p).length = 16 := by unfold stepU; split <;> exact joinedF_length _ _
def upF (x : List UInt8) (k : Nat) (ps : List (List UInt8)) : Nat → List UInt8
  | 0 => x
  | i + 1 => stepU (upF x k ps i) (k / 2 ^ i) (ps.getD i [])
theorem upF_length {x : List UInt8} (hx : x.length = 16) (k : Nat) (ps : List (List UInt8)) : ∀ i, (upF x k ps i).length = 16
  | 0 => hx
  | i + 1 => by rw [upF]; exact stepU_length _ _ _
theorem pow_le16Mm {m : Nat} (h : m ≤ 4) : 2 ^ m ≤ 16 := Nat.le_trans (Nat.pow_le_pow_right zz19 h) zz19
theorem goodMm (ht : Int) (w : World)   :
    Calls Tryd.prog 32 [.int .i64 ht].toArray w (Pur w (.bool (decide (0 ≤ ht ∧ ht ≤ 4)))) := by
  refine enter (m := 9) (R := Mem w [] [] []) Tryd.func32 rfl rfl (Nat.le_of_ble_eq_true rfl) (Mem.start w) ?_
  refine wpc_seq <| wpc_region <| wpl_q (q_pure rfl) rfl <| wpl_nil <| ex_then <| wpc_seq <| wpc_region <| wpl_q (q_pure rfl) rfl <| wpl_q (q_pure rfl) rfl <| wpl_q (q_pure rfl) rfl ?_
  refine wpl_bool2 5 4 rfl rfl (fun hb5 => ?_) (fun hb5 => ?_)
  ·
   try simp only [decide_eq_true_eq, decide_eq_false_iff_not, Bool.and_eq_true, Bool.or_eq_true, beq_iff_eq, bne_iff_ne, ne_eq, Bool.not_eq_true', Bool.not_eq_false', Decidable.not_not] at hb5
   refine wpl_on rfl rfl <| wpl_q (q_pure rfl) rfl <| wpl_on rfl rfl <| wpl_q (q_pure rfl) rfl <| wpl_q (q_pure rfl) rfl <| wpl_q (q_pure rfl) rfl <| wpl_nil <| ex_then <| wpc_ret ?_
   refine ret1 (.inl rfl) rfl rfl ?_
   exact fun w h => ⟨zz50, h.below⟩
  ·
   try simp only [decide_eq_true_eq, decide_eq_false_iff_not, Bool.and_eq_true, Bool.or_eq_true, beq_iff_eq, bne_iff_ne, ne_eq, Bool.not_eq_true', Bool.not_eq_false', Decidable.not_not] at hb5
   refine wpl_off rfl rfl rfl rfl <| wpl_off rfl rfl rfl rfl <| wpl_q (q_pure rfl) rfl <| wpl_q (q_pure rfl) rfl <| wpl_nil <| ex_then <| wpc_ret ?_
   refine ret1 (.inl rfl) rfl rfl ?_
   exact fun w h => ⟨zz50, h.below⟩
theorem joined7 (xs : List UInt8) (ys : List UInt8) (w : World) (hxs : xs.length = 16) (hys : ys.length = 16) (hG : Glb w) :
    Calls Tryd.prog 58 [.agg (v8s xs).toArray, .agg (v8s ys).toArray].toArray w (Pur w (.agg (v8s (joinedF xs ys)).toArray)) := by
  refine enter (m := 11) (R := Mem w [] [] []) Tryd.func58 rfl rfl (Nat.le_of_ble_eq_true rfl) (Mem.start w) ?_
  refine wpc_seq <| wpc_region ?_
  refine wpl_t (t_box rfl (v8s xs) rfl) rfl (fun b2 => ?_)
  refine wpl_t (t_box rfl (v8s ys) rfl) rfl (fun b3 => ?_)
  refine wpl_t (t_alloc Tryd.ti41 (v8s (List.replicate 16 0)) (by rfl)) rfl (fun b4 => ?_)
  refine wpl_nil <| ex_then <| wpc_seq ?_
  refine wpc_draw 2 zz7 (fun _ h => h.drew) ?_
  refine wpd_p 1 rfl zz7 trivial (q_arAll Tryd.underlying41 Tryd.ti5 rfl rfl) rfl sk0 ?_
  refine wpd_p 3 rfl zz7 trivial (q_arAll Tryd.underlying41 Tryd.ti5 rfl rfl) rfl sk0 ?_
  refine wpd_tp 0 rfl zz7 trivial (t_bsV (v8s [(1 : UInt8)]) Tryd.underlying34 Tryd.ti5 rfl rfl zz19 zz19 rfl (v8s_one _)) rfl (fun _ => (fun w h => .inr (h.sub SubC.h SubC.h))) (fun b5 p5 => ?_)
  refine wpd_tp 2 rfl zz7 trivial (t_apW Tryd.underlying34 Tryd.ti5 rfl zz19 rfl rfl (fun w h => zz15) (v8s_one _) zz1 zz1 _ zz16) rfl (fun _ => skk rfl) (fun b7 p7 => ?_)
  refine wpd_tp 4 rfl zz7 trivial (t_apW Tryd.underlying34 Tryd.ti5 rfl zz19 rfl rfl (fun w h => zz15) (v8s_one _) zz1 zz1 _ zz16) rfl (fun _ => skk rfl) (fun b9 p9 => ?_)
  refine wpd_t 5 rfl zz7 trivial (t_pur Tryd.hb85 rfl fun w h => shortW _ _ w zz13 (glob h hG)) rfl (fun _ => skk rfl) (fun b10 => ?_)
  refine wpd_t0 6 rfl zz7 trivial (t_stA Tryd.ti41 rfl rfl zz2 (v8s_one _) zz2) (fun _ => skk rfl) (fun _ => ?_)
  refine wpd_done zz7 ?_
  refine ex_then <| wpc_ret ?_
  refine retv1 (.inl rfl) rfl (rv_agg Tryd.underlying41 rfl Tryd.ti41 rfl (fun w h => h.atB) zz2) ?_
  exact fun w h => ⟨rfl, h.below⟩
theorem check7Mm (ht : Int) (cv pv : Value) (chs ps : List (List UInt8)) (idx : Int) (w : World) (hcv : Seen w.cell? cv chs.length 16 (v8s chs.flatten)) (hlchs : ∀ x ∈ chs, x.length = 16) (hpv : Seen w.cell? pv ps.length 16 (v8s ps.flatten)) (hlps : ∀ x ∈ ps, x.length = 16)  :
    Calls Tryd.prog 31 [.int .i64 ht, .agg #[.int .i64 idx, cv, pv]].toArray w (Pur w (.int .i64 (checkFMm ht idx chs.length ps.length))) := by
  have scv := hcv.sv
  have lcv := scv.le
  simp only [maxLen] at lcv
  have spv := hpv.sv
  have lpv := spv.le
  simp only [maxLen] at lpv
  refine enter (m := 31) (R := Mem w [] [] []) Tryd.func31 rfl rfl (Nat.le_of_ble_eq_true rfl) (Mem.start w) ?_
  refine wpc_seq <| wpc_region ?_
  refine wpl_t (t_box rfl [.int .i64 idx, cv, pv] rfl) rfl (fun b3 => ?_)
  refine wpl_q (q_pure rfl) rfl <| wpl_nil <| ex_then <| wpc_seq <| wpc_seq <| wpc_region <| wpl_q (q_pure rfl) rfl ?_
  refine wpl_t (t_pur Tryd.hb32 rfl fun w h => goodMm _ w) rfl (fun b6 => ?_)
  refine wpl_q (q_pure rfl) rfl <| wpl_nil <| ex_then ?_
  refine wpc_cond rfl (fun hc7 => ?_) (fun hc7 => ?_)
  ·
   try simp only [decide_eq_true_eq, decide_eq_false_iff_not, Bool.and_eq_true, Bool.or_eq_true, beq_iff_eq, bne_iff_ne, ne_eq, Bool.not_eq_true', Bool.not_eq_false', Decidable.not_not] at hc7
   refine wpc_seq <| wpc_region <| wpl_q (q_pure rfl) rfl <| wpl_nil <| ex_then <| wpc_ret ?_
   refine ex_then_ret ?_
   refine ret1 (.inl rfl) rfl rfl ?_
   exact fun w h => ⟨by rw [check_2Mm hc7], h.below⟩
  ·
   simp only [Bool.not_eq_false', decide_eq_true_eq] at hc7
   obtain ⟨m, rfl⟩ : ∃ m : Nat, ht = (m : Int) := ⟨ht.toNat, zz12⟩
   have hpw := pow_le16Mm (m := m) zz12
   refine wpc_skip <| ex_then <| wpc_seq <| wpc_seq ?_
   refine wpc_draw 23 zz7 (fun _ h => h.drew) ?_
   refine wpd_p 0 rfl zz7 trivial (q_field Tryd.underlying30 rfl Tryd.ti3 rfl rfl _ rfl) rfl sk0 ?_
   refine wpd_q 1 rfl zz7 trivial (q_ld Tryd.underlying3 rfl rfl zz23) rfl (fun _ h => h) ?_
   refine wpd_p 2 rfl zz7 trivial (q_pure rfl) rfl sk0 ?_
   refine wpd_p 3 rfl zz7 trivial (q_pure rfl) rfl sk0 ?_
   refine wpd_bool2 11 10 rfl rfl (fun hb11 => ?_) (fun hb11 => ?_)
   ·
    try simp only [decide_eq_true_eq, decide_eq_false_iff_not, Bool.and_eq_true, Bool.or_eq_true, beq_iff_eq, bne_iff_ne, ne_eq, Bool.not_eq_true', Bool.not_eq_false', Decidable.not_not] at hb11
    refine wpd_off 4 rfl zz7 ⟨_, _, rfl, rfl, rfl⟩ rfl sk0 ?_
    refine wpd_off 5 rfl zz7 ⟨_, _, rfl, rfl, rfl⟩ rfl sk0 ?_
    refine wpd_off 6 rfl zz7 ⟨_, _, rfl, rfl, rfl⟩ rfl sk0 ?_
    refine wpd_off 7 rfl zz7 ⟨_, _, rfl, rfl, rfl⟩ rfl sk0 ?_
    refine wpd_off 8 rfl zz7 ⟨_, _, rfl, rfl, rfl⟩ rfl sk0 ?_
    refine wpd_p 9 rfl zz7 trivial (q_pure rfl) rfl sk0 ?_
    refine wpd_p 10 rfl zz7 trivial (q_pure rfl) rfl sk0 ?_
    refine wpd_off 11 rfl zz7 ⟨_, _, rfl, rfl, rfl⟩ rfl sk0 ?_
    refine wpd_off 12 rfl zz7 ⟨_, _, rfl, rfl, rfl⟩ rfl sk0 ?_
    refine wpd_off 13 rfl zz7 ⟨_, _, rfl, rfl, rfl⟩ rfl sk0 ?_
    refine wpd_off 14 rfl zz7 ⟨_, _, rfl, rfl, rfl⟩ rfl sk0 ?_
    refine wpd_p 15 rfl zz7 trivial (q_pure rfl) rfl sk0 ?_
    refine wpd_p 16 rfl zz7 trivial (q_pure rfl) rfl sk0 ?_
    refine wpd_off 17 rfl zz7 ⟨_, _, rfl, rfl, rfl⟩ rfl sk0 ?_
    refine wpd_off 18 rfl zz7 ⟨_, _, rfl, rfl, rfl⟩ rfl sk0 ?_
    refine wpd_off 19 rfl zz7 ⟨_, _, rfl, rfl, rfl⟩ rfl sk0 ?_
    refine wpd_off 20 rfl zz7 ⟨_, _, rfl, rfl, rfl⟩ rfl sk0 ?_
    refine wpd_off 21 rfl zz7 ⟨_, _, rfl, rfl, rfl⟩ rfl sk0 ?_
    refine wpd_p 22 rfl zz7 trivial (q_pure rfl) rfl sk0 ?_
    refine wpd_done zz7 ?_
    refine ex_then ?_
    refine wpc_cond_t rfl ?_
    refine wpc_seq <| wpc_region <| wpl_q (q_pure rfl) rfl <| wpl_nil <| ex_then <| wpc_ret ?_
    refine ex_then_ret ?_
    refine ret1 (.inl rfl) rfl rfl ?_
    exact fun w h => ⟨by rw [check_12Mm zz12 zz35], h.below⟩
   ·
    try simp only [decide_eq_true_eq, decide_eq_false_iff_not, Bool.and_eq_true, Bool.or_eq_true, beq_iff_eq, bne_iff_ne, ne_eq, Bool.not_eq_true', Bool.not_eq_false', Decidable.not_not] at hb11
    refine wpd_p 4 rfl zz7 ⟨_, rfl, rfl⟩ (q_field Tryd.underlying30 rfl Tryd.ti3 rfl rfl _ rfl) rfl sk0 ?_
    refine wpd_q 5 rfl zz7 ⟨_, rfl, rfl⟩ (q_ld Tryd.underlying3 rfl rfl zz23) rfl (fun _ h => h) ?_
    refine wpd_p 6 rfl zz7 ⟨_, rfl, rfl⟩ (q_pure rfl) rfl sk0 ?_
    refine wpd_p 7 rfl zz7 ⟨_, rfl, rfl⟩ (q_shlN (a := 1) rfl rfl zz24 zz1) rfl sk0 ?_
    refine wpd_p 8 rfl zz7 ⟨_, rfl, rfl⟩ (q_pure rfl) rfl sk0 ?_
    refine wpd_p 9 rfl zz7 trivial (q_pure rfl) rfl sk0 ?_
    refine wpd_p 10 rfl zz7 trivial (q_pure rfl) rfl sk0 ?_
    refine wpd_bool2 18 16 rfl rfl (fun hb18 => ?_) (fun hb18 => ?_)
    ·
     try simp only [decide_eq_true_eq, decide_eq_false_iff_not, Bool.and_eq_true, Bool.or_eq_true, beq_iff_eq, bne_iff_ne, ne_eq, Bool.not_eq_true', Bool.not_eq_false', Decidable.not_not] at hb18
     refine wpd_off 11 rfl zz7 ⟨_, _, rfl, rfl, rfl⟩ rfl sk0 ?_
     refine wpd_off 12 rfl zz7 ⟨_, _, rfl, rfl, rfl⟩ rfl sk0 ?_
     refine wpd_off 13 rfl zz7 ⟨_, _, rfl, rfl, rfl⟩ rfl sk0 ?_
     refine wpd_off 14 rfl zz7 ⟨_, _, rfl, rfl, rfl⟩ rfl sk0 ?_
     refine wpd_p 15 rfl zz7 trivial (q_pure rfl) rfl sk0 ?_
     refine wpd_p 16 rfl zz7 trivial (q_pure rfl) rfl sk0 ?_
     refine wpd_off 17 rfl zz7 ⟨_, _, rfl, rfl, rfl⟩ rfl sk0 ?_
     refine wpd_off 18 rfl zz7 ⟨_, _, rfl, rfl, rfl⟩ rfl sk0 ?_
     refine wpd_off 19 rfl zz7 ⟨_, _, rfl, rfl, rfl⟩ rfl sk0 ?_
     refine wpd_off 20 rfl zz7 ⟨_, _, rfl, rfl, rfl⟩ rfl sk0 ?_
     refine wpd_off 21 rfl zz7 ⟨_, _, rfl, rfl, rfl⟩ rfl sk0 ?_
     refine wpd_p 22 rfl zz7 trivial (q_pure rfl) rfl sk0 ?_
     refine wpd_done zz7 ?_
     refine ex_then ?_
     refine wpc_cond_t rfl ?_
     refine wpc_seq <| wpc_region <| wpl_q (q_pure rfl) rfl <| wpl_nil <| ex_then <| wpc_ret ?_
     refine ex_then_ret ?_
     refine ret1 (.inl rfl) rfl rfl ?_
     exact fun w h => ⟨by rw [check_12Mm zz12 zz35], h.below⟩
    ·
     try simp only [decide_eq_true_eq, decide_eq_false_iff_not, Bool.and_eq_true, Bool.or_eq_true, beq_iff_eq, bne_iff_ne, ne_eq, Bool.not_eq_true', Bool.not_eq_false', Decidable.not_not] at hb18
     refine wpd_p 11 rfl zz7 ⟨_, rfl, rfl⟩ (q_field Tryd.underlying30 rfl Tryd.ti28 rfl rfl _ rfl) rfl sk0 ?_
     refine wpd_q 12 rfl zz7 ⟨_, rfl, rfl⟩ (q_ld Tryd.underlying28 rfl rfl rfl) rfl (fun _ h => h) ?_
     refine wpd_p 13 rfl zz7 ⟨_, rfl, rfl⟩ (q_lenW Tryd.underlying28 rfl zz3) rfl sk0 ?_
     refine wpd_p 14 rfl zz7 ⟨_, rfl, rfl⟩ (q_pure rfl) rfl sk0 ?_
     refine wpd_p 15 rfl zz7 trivial (q_pure rfl) rfl sk0 ?_
     refine wpd_p 16 rfl zz7 trivial (q_pure rfl) rfl sk0 ?_
     refine wpd_bool2 24 22 rfl rfl (fun hb24 => ?_) (fun hb24 => ?_)
     ·
      try simp only [decide_eq_true_eq, decide_eq_false_iff_not, Bool.and_eq_true, Bool.or_eq_true, beq_iff_eq, bne_iff_ne, ne_eq, Bool.not_eq_true', Bool.not_eq_false', Decidable.not_not] at hb24
      refine wpd_off 17 rfl zz7 ⟨_, _, rfl, rfl, rfl⟩ rfl sk0 ?_
      refine wpd_off 18 rfl zz7 ⟨_, _, rfl, rfl, rfl⟩ rfl sk0 ?_
      refine wpd_off 19 rfl zz7 ⟨_, _, rfl, rfl, rfl⟩ rfl sk0 ?_
      refine wpd_off 20 rfl zz7 ⟨_, _, rfl, rfl, rfl⟩ rfl sk0 ?_
      refine wpd_off 21 rfl zz7 ⟨_, _, rfl, rfl, rfl⟩ rfl sk0 ?_
      refine wpd_p 22 rfl zz7 trivial (q_pure rfl) rfl sk0 ?_
      refine wpd_done zz7 ?_
      refine ex_then ?_
      refine wpc_cond_t rfl ?_
      refine wpc_seq <| wpc_region <| wpl_q (q_pure rfl) rfl <| wpl_nil <| ex_then <| wpc_ret ?_
      refine ex_then_ret ?_
      refine ret1 (.inl rfl) rfl rfl ?_
      exact fun w h => ⟨by rw [check_12Mm zz12 zz35], h.below⟩
     ·
      try simp only [decide_eq_true_eq, decide_eq_false_iff_not, Bool.and_eq_true, Bool.or_eq_true, beq_iff_eq, bne_iff_ne, ne_eq, Bool.not_eq_true', Bool.not_eq_false', Decidable.not_not] at hb24
      refine wpd_p 17 rfl zz7 ⟨_, rfl, rfl⟩ (q_field Tryd.underlying30 rfl Tryd.ti28 rfl rfl _ rfl) rfl sk0 ?_
      refine wpd_q 18 rfl zz7 ⟨_, rfl, rfl⟩ (q_ld Tryd.underlying28 rfl rfl rfl) rfl (fun _ h => h) ?_
      refine wpd_p 19 rfl zz7 ⟨_, rfl, rfl⟩ (q_lenW Tryd.underlying28 rfl zz3) rfl sk0 ?_
      refine wpd_p 20 rfl zz7 ⟨_, rfl, rfl⟩ (q_pure rfl) rfl sk0 ?_
      refine wpd_p 21 rfl zz7 ⟨_, rfl, rfl⟩ (q_pure rfl) rfl sk0 ?_
      refine wpd_p 22 rfl zz7 trivial (q_pure rfl) rfl sk0 ?_
      refine wpd_done zz7 ?_
      refine ex_then ?_
      refine wpc_cond rfl (fun hc30 => ?_) (fun hc30 => ?_)
      ·
       try simp only [decide_eq_true_eq, decide_eq_false_iff_not, Bool.and_eq_true, Bool.or_eq_true, beq_iff_eq, bne_iff_ne, ne_eq, Bool.not_eq_true', Bool.not_eq_false', Decidable.not_not] at hc30
       refine wpc_seq <| wpc_region <| wpl_q (q_pure rfl) rfl <| wpl_nil <| ex_then <| wpc_ret ?_
       refine ex_then_ret ?_
       refine ret1 (.inl rfl) rfl rfl ?_
       exact fun w h => ⟨by rw [check_12Mm zz12 zz35], h.below⟩
      ·
       simp only [bne_eq_false_iff_eq, decide_eq_false_iff_not, ne_eq, Decidable.not_not] at hc30 hb24
       refine wpc_skip <| ex_then <| wpc_seq <| wpc_region <| wpl_q (q_pure rfl) rfl <| wpl_nil <| ex_then <| wpc_ret ?_
       refine ret1 (.inl rfl) rfl rfl ?_
       exact fun w h => ⟨by rw [check_0Mm zz12 zz12], h.below⟩
end Go.Proofs.YtgnablliekgbgaaDoor
namespace Go.Proofs.YtgnablliekgbgaaDoor
open Go Go.PL Go.RowKit
def rootF (ht idx : Int) (bs : List UInt8) (chs ps : List (List UInt8)) : List UInt8 := if checkFMm ht idx chs.length ps.length = 0 then upF (recF bs chs) idx.toNat ps ps.length else List.replicate 16 0
theorem rootF_length (ht idx : Int) (bs : List UInt8) (chs ps : List (List UInt8)) : (rootF ht idx bs chs ps).length = 16 := by
  unfold rootF; split
  · exact upF_length (recF_length _ _) _ _ _
  · exact List.length_replicate
theorem globL {w0 w : World} {Ln : List Nat} {M : List Ent} {S : List Fact} (h : Mem w0 Ln M S w) (hl : 0 ∉ Ln) (hG : Glb w0) : Glb w := ⟨h.at_oldL hG.1 hl, Nat.lt_of_lt_of_le hG.2 h.size⟩
theorem own_ne {w0 w : World} {M : List Ent} {S : List Fact} {b : Nat} {t : TypeId} {cs : List Value} (h : Mem w0 [] M S w) (hG : Glb w0) (hm : Ent.blk b t cs ∈ M) : b ≠ 0 := by
  have h1 := h.new _ hm b rfl
  have h2 := hG.2
  simp only [List.not_mem_nil, or_false] at h1
  omega
theorem key_height (rs : List UInt8) (ht : Int) (h : rs.length = 16) : (v8s rs ++ [Value.int .i64 ht])[16]? = some (.int .i64 ht) := by
  rw [List.getElem?_append_right (by rw [v8s_length]; omega), v8s_length, h]; rfl
theorem key_root (rs : List UInt8) (ht : Int) (h : rs.length = 16) : ((v8s rs ++ [Value.int .i64 ht]).drop 0).take 16 = v8s rs := by
  rw [List.drop_zero, List.take_left' (by rw [v8s_length]; exact h)]
theorem div_step (k i : Nat) : k / 2 ^ (i + 1) = k / 2 ^ i / 2 ^ 1 := by rw [Nat.pow_succ, Nat.div_div_eq_div_mul]
theorem followed7 (ys : List UInt8) (bi bn : Nat) (xs : List UInt8) (j : Nat) (w : World) (hys : ys.length = 16) (hi : w.heap[bi]? = some (.cells ([.int .i64 ((j : Nat) : Int)] : List Value).toArray 3 (0, 0))) (hn : w.heap[bn]? = some (.cells (v8s xs).toArray 41 (0, 0))) (hne : bi ≠ bn) (hxs : xs.length = 16) (hj : j ≤ 1000) (hi0 : bi ≠ 0) (hn0 : bn ≠ 0) (hG : Glb w) :
    Calls Tryd.prog 92 [.agg (v8s ys).toArray, .pointer (some ⟨bi, 0, none⟩), .pointer (some ⟨bn, 0, none⟩)].toArray w (GivesL w [bi, bn] (fun _ : Unit => .agg (v8s (stepU xs j ys)).toArray) fun _ => [.blk bi 3 [.int .i64 ((j / 2 ^ 1 : Nat) : Int)], .blk bn 41 (v8s (stepU xs j ys))]) := by
  have h0 : (0 : Nat) ∉ [bi, bn] := by simp; omega
  have hjl1 := joinedF_length xs ys
  have hjl2 := joinedF_length ys xs
  have hjl3 := stepU_length xs j ys
  refine enter (m := 17) (R := Mem w [bi, bn] [.blk bi 3 [.int .i64 ((j : Nat) : Int)], .blk bn 41 (v8s xs)] []) Tryd.func92 rfl rfl (Nat.le_of_ble_eq_true rfl) (Mem.start2 w hi hn hne) ?_
  refine wpc_seq <| wpc_region ?_
  refine wpl_t (t_box rfl (v8s ys) rfl) rfl (fun b3 => ?_)
  refine wpl_t (t_alloc Tryd.ti41 (v8s (List.replicate 16 0)) (by rfl)) rfl (fun b4 => ?_)
  refine wpl_nil <| ex_then <| wpc_seq <| wpc_seq <| wpc_region ?_
  refine wpl_q (q_ld Tryd.underlying3 rfl rfl zz23) rfl ?_
  refine wpl_q (q_andN (b := 1) rfl rfl zz1 zz1) rfl ?_
  refine wpl_q (q_pure rfl) rfl <| wpl_nil <| ex_then ?_
  refine wpc_cond rfl (fun hc7 => ?_) (fun hc7 => ?_)
  ·
   try simp only [decide_eq_true_eq, beq_iff_eq] at hc7
   have hst : stepU xs j ys = joinedF xs ys := if_pos (by have := Nat.and_one_is_mod j; omega)
   refine wpc_region ?_
   refine wpl_q (q_ldN Tryd.underlying41 rfl Tryd.ti41 rfl zz2) rfl ?_
   refine wpl_q (q_ldN Tryd.underlying41 rfl Tryd.ti41 rfl zz2) rfl ?_
   refine wpl_t (t_pur Tryd.hb58 rfl fun w h => joined7 _ _ w zz21 zz21 (globL h h0 hG)) rfl (fun b10 => ?_)
   refine wpl_t0 (t_stA Tryd.ti41 rfl rfl zz2 (v8s_one _) zz2) (fun _ => ?_)
   refine wpl_nil <| ex_then <| wpc_seq <| wpc_region ?_
   refine wpl_q (q_ld Tryd.underlying3 rfl rfl zz23) rfl ?_
   refine wpl_q (q_shrN (b := 1) rfl rfl zz24) rfl ?_
   refine wpl_t0 (t_st1 Tryd.ti3 rfl rfl rfl zz6 _ (by first | exact vns_set _ | rfl)) (fun _ => ?_)
   refine wpl_nil <| ex_then <| wpc_seq <| wpc_region ?_
   refine wpl_q (q_ldN Tryd.underlying41 rfl Tryd.ti41 rfl zz2) rfl ?_
   refine wpl_t0 (t_stA Tryd.ti41 rfl rfl zz2 (v8s_one _) zz2) (fun _ => ?_)
   refine wpl_nil <| ex_then <| wpc_ret ?_
   refine retv1 (.inl rfl) rfl (rv_agg Tryd.underlying41 rfl Tryd.ti41 rfl (fun w h => h.atB) zz2) ?_
   exact fun w h => by
     rw [hst]
     exact ⟨(), rfl, h.sub (.drop (.drop (Sub.refl _))) (Sub.refl _)⟩
  ·
   try simp only [decide_eq_false_iff_not, beq_eq_false_iff_ne, ne_eq] at hc7
   have hst : stepU xs j ys = joinedF ys xs := if_neg (by have := Nat.and_one_is_mod j; omega)
   refine wpc_region ?_
   refine wpl_q (q_ldN Tryd.underlying41 rfl Tryd.ti41 rfl zz2) rfl ?_
   refine wpl_q (q_ldN Tryd.underlying41 rfl Tryd.ti41 rfl zz2) rfl ?_
   refine wpl_t (t_pur Tryd.hb58 rfl fun w h => joined7 _ _ w zz21 zz21 (globL h h0 hG)) rfl (fun b13 => ?_)
   refine wpl_t0 (t_stA Tryd.ti41 rfl rfl zz2 (v8s_one _) zz2) (fun _ => ?_)
   refine wpl_nil <| ex_then <| wpc_seq <| wpc_region ?_
   refine wpl_q (q_ld Tryd.underlying3 rfl rfl zz23) rfl ?_
   refine wpl_q (q_shrN (b := 1) rfl rfl zz24) rfl ?_
   refine wpl_t0 (t_st1 Tryd.ti3 rfl rfl rfl zz6 _ (by first | exact vns_set _ | rfl)) (fun _ => ?_)
   refine wpl_nil <| ex_then <| wpc_seq <| wpc_region ?_
   refine wpl_q (q_ldN Tryd.underlying41 rfl Tryd.ti41 rfl zz2) rfl ?_
   refine wpl_t0 (t_stA Tryd.ti41 rfl rfl zz2 (v8s_one _) zz2) (fun _ => ?_)
   refine wpl_nil <| ex_then <| wpc_ret ?_
   refine retv1 (.inl rfl) rfl (rv_agg Tryd.underlying41 rfl Tryd.ti41 rfl (fun w h => h.atB) zz2) ?_
   exact fun w h => by
     rw [hst]
     exact ⟨(), rfl, h.sub (.drop (.drop (Sub.refl _))) (Sub.refl _)⟩
theorem follower7 (xs : List UInt8) (k : Nat) (w : World) (hxs : xs.length = 16)  :
    Calls Tryd.prog 72 [.agg (v8s xs).toArray, .int .i64 ((k : Nat) : Int)].toArray w (GivesP w (fun _ : Nat × Nat => True) (fun b : Nat × Nat => .func (.func 92) #[] #[.pointer (some ⟨b.1, 0, none⟩), .pointer (some ⟨b.2, 0, none⟩)]) (fun b => [.blk b.1 3 [.int .i64 ((k : Nat) : Int)], .blk b.2 41 (v8s xs)]) (fun _ => [])) := by
  refine enter (m := 6) (R := Mem w [] [] []) Tryd.func72 rfl rfl (Nat.le_of_ble_eq_true rfl) (Mem.start w) ?_
  refine wpc_seq <| wpc_region ?_
  refine wpl_t (t_box rfl (v8s xs) rfl) rfl (fun b2 => ?_)
  refine wpl_t (t_box rfl [.int .i64 ((k : Nat) : Int)] rfl) rfl (fun b3 => ?_)
  refine wpl_q (q_pure rfl) rfl <| wpl_nil <| ex_then <| wpc_seq <| wpc_region ?_
  refine wpl_q (q_fn (us := []) (vs := [_, _]) rfl rfl) rfl ?_
  refine wpl_q (q_pure rfl) rfl <| wpl_nil <| ex_then <| wpc_ret ?_
  refine ret1 (.inl rfl) rfl rfl ?_
  exact fun w h => ⟨(b3, b2), trivial, rfl, h.below, h.made (.keep (.keep .nil)) .nil⟩
theorem root7 (ht : Int) (bv : Value) (bs : List UInt8) (cv pv : Value) (chs ps : List (List UInt8)) (idx : Int) (w : World) (hbv : Seen w.cell? bv bs.length 1 (v8s bs)) (hcv : Seen w.cell? cv chs.length 16 (v8s chs.flatten)) (hlchs : ∀ x ∈ chs, x.length = 16) (hpv : Seen w.cell? pv ps.length 16 (v8s ps.flatten)) (hlps : ∀ x ∈ ps, x.length = 16) (hG : Glb w) :
    Calls Tryd.prog 44 [.int .i64 ht, bv, .agg #[.int .i64 idx, cv, pv]].toArray w (Pur w (.tuple #[.agg (v8s (rootF ht idx bs chs ps)).toArray, .int .i64 (checkFMm ht idx chs.length ps.length)])) := by
  have sbv := hbv.sv
  have lbv := sbv.le
  simp only [maxLen] at lbv
  have scv := hcv.sv
  have lcv := scv.le
  simp only [maxLen] at lcv
  have spv := hpv.sv
  have lpv := spv.le
  simp only [maxLen] at lpv
  refine enter (m := 45) (R := Mem w [] [] []) Tryd.func44 rfl rfl (Nat.le_of_ble_eq_true rfl) (Mem.start w) ?_
  refine wpc_seq <| wpc_region ?_
  refine wpl_t (t_box rfl [.int .i64 idx, cv, pv] rfl) rfl (fun b5 => ?_)
  refine wpl_t (t_alloc Tryd.ti41 (v8s (List.replicate 16 0)) (by rfl)) rfl (fun b6 => ?_)
  refine wpl_q (q_pure rfl) rfl <| wpl_nil <| ex_then <| wpc_seq <| wpc_seq <| wpc_region <| wpl_q (q_pure rfl) rfl ?_
  refine wpl_q (q_ldN Tryd.underlying30 rfl Tryd.ti30 rfl zz2) rfl ?_
  refine wpl_t (t_pur Tryd.hb31 rfl fun w h => check7Mm _ _ _ _ _ _ w zz13 zz27 zz13 zz27) rfl (fun b16 => ?_)
  refine wpl_q (q_pure rfl) rfl <| wpl_nil <| ex_then <| wpc_seq <| wpc_region <| wpl_q (q_pure rfl) rfl <| wpl_q (q_pure rfl) rfl <| wpl_nil <| ex_then ?_
  refine wpc_cond rfl (fun hc18 => ?_) (fun hc18 => ?_)
  ·
   simp only [bne_iff_ne, ne_eq, decide_eq_true_eq] at hc18
   have hr : rootF ht idx bs chs ps = List.replicate 16 0 := if_neg hc18
   refine wpc_seq <| wpc_region ?_
   refine wpl_q (q_build (cs := (v8s (List.replicate 16 0))) rfl (built_array Tryd.underlying41 Tryd.ti41 Tryd.ti5 rfl)) rfl ?_
   refine wpl_q (q_pure rfl) rfl ?_
   refine wpl_t0 (t_stA Tryd.ti41 rfl rfl zz2 (v8s_one _) zz2) (fun _ => ?_)
   refine wpl_q (q_pure rfl) rfl <| wpl_nil <| ex_then <| wpc_ret ?_
   refine ex_then_ret ?_
   refine retv2 (.inl rfl) rfl (rv_agg Tryd.underlying41 rfl Tryd.ti41 rfl (fun w h => h.atB) zz2) (rv_tmp rfl) ?_
   exact fun w h => ⟨by rw [hr], h.below⟩
  ·
   simp only [bne_eq_false_iff_eq, decide_eq_false_iff_not, ne_eq, Decidable.not_not] at hc18
   obtain ⟨m, k, rfl, rfl, hm, hk, hcl, hpl⟩ := check_spec hc18
   have hpw := pow_le16Mm hm
   have hr : rootF (m : Int) (k : Int) bs chs ps = upF (recF bs chs) k ps ps.length := if_pos hc18
   have he : recEr chs = 0 := if_pos hcl
   refine wpc_skip <| ex_then <| wpc_seq <| wpc_region <| wpl_q (q_pure rfl) rfl <| wpl_q (q_field Tryd.underlying30 rfl Tryd.ti28 rfl rfl _ rfl) rfl <| wpl_q (q_ld Tryd.underlying28 rfl rfl rfl) rfl ?_
   refine wpl_t (t_pur Tryd.hb71 rfl fun w h => recover _ _ _ _ w zz13 zz13 zz27 (glob h hG)) rfl (fun b25 => ?_)
   refine wpl_q (q_pure rfl) rfl <| wpl_q (q_pure rfl) rfl <| wpl_q (q_pure rfl) rfl ?_
   refine wpl_t (t_alloc Tryd.ti41 (v8s (List.replicate 16 0)) (by rfl)) rfl (fun b9 => ?_)
   refine wpl_t0 (t_stA Tryd.ti41 rfl rfl zz2 (v8s_one _) zz2) (fun _ => ?_)
   refine wpl_q (q_pure rfl) rfl <| wpl_nil <| ex_then <| wpc_seq <| wpc_region ?_
   refine wpl_q (q_ldN Tryd.underlying41 rfl Tryd.ti41 rfl zz2) rfl ?_
   refine wpl_q (q_field Tryd.underlying30 rfl Tryd.ti3 rfl rfl _ rfl) rfl ?_
   refine wpl_q (q_ld Tryd.underlying3 rfl rfl zz23) rfl ?_
   refine wpl_tp (t_callP2 Tryd.hb72 rfl fun w h => follower7 _ _ w zz21) rfl (fun b31 p31 => ?_)
   refine wpl_q (q_pure rfl) rfl <| wpl_nil <| ex_then <| wpc_seq <| wpc_seq <| wpc_region <| wpl_q (q_field Tryd.underlying30 rfl Tryd.ti28 rfl rfl _ rfl) rfl <| wpl_q (q_ld Tryd.underlying28 rfl rfl rfl) rfl ?_
   refine wpl_q (q_lenW Tryd.underlying28 rfl zz3) rfl ?_
   refine wpl_q (q_pure rfl) rfl <| wpl_nil <| ex_then <| wpc_block ?_
   refine wpc_loopc (ι := { x : Nat // (x ≤ ps.length) }) [(6, _), (9, _), (10, _), (11, _), (33, _), (34, _)] (fun x Lc => (35, .int .i64 ((x.1 : Nat) : Int)) :: Lc) (fun x => Mem w [] [.blk b31.1 3 [.int .i64 ((k / 2 ^ x.1 : Nat) : Int)], .blk b31.2 41 (v8s (upF (recF bs chs) k ps x.1)), .blk b9 41 (v8s (upF (recF bs chs) k ps x.1)), .blk b6 41 (v8s (List.replicate 16 0)), .blk b5 30 [.int .i64 ((k : Nat) : Int), cv, pv]] []) (fun x => ps.length - x.1) ⟨0, zz42⟩ zz9 ?_ ?_
   ·
    exact fun w h => by
      dsimp only
      rw [Nat.pow_zero, Nat.div_one, show upF (recF bs chs) k ps 0 = recF bs chs from rfl]
      first | exact h.sub SubC.h SubC.h | exact h.sub zz8 zz8
   ·
    rintro ⟨i, hi0⟩; try dsimp only
    have hi0 : i ≤ ps.length := hi0
    have hul := upF_length (recF_length bs chs) k ps i
    have hkl : k / 2 ^ i ≤ 1000 := Nat.le_trans (Nat.div_le_self _ _) zz12
    refine wpc_seq <| wpc_region <| wpl_q (q_pure rfl) rfl <| wpl_nil <| ex_then <| wpc_seq ?_
    refine wpc_cond rfl (fun hc36 => ?_) (fun hc36 => ?_)
    ·
     simp only [decide_eq_true_eq] at hc36
     have hgl := getD_mem_len hlps (i := i) zz12
     have hsl := stepU_length (upF (recF bs chs) k ps i) (k / 2 ^ i) (ps.getD i [])
     refine wpc_skip <| ex_then <| wpc_seq <| wpc_block <| wpc_seq <| wpc_region ?_
     refine wpl_q (q_idxW Tryd.underlying28 Tryd.ti41 rfl rfl zz3 zz1) rfl ?_
     refine wpl_q (q_ldWN Tryd.underlying41 rfl Tryd.ti41 rfl (fun w h => zz15) (v8s (ps.getD i [])) (part8 hlps zz12) ((v8s_length _).trans hgl)) rfl ?_
     refine wpl_t (t_alloc Tryd.ti41 (v8s (List.replicate 16 0)) (by rfl)) rfl (fun b13 => ?_)
     refine wpl_t0 (t_stA Tryd.ti41 rfl rfl zz2 (v8s_one _) zz2) (fun _ => ?_)
     refine wpl_nil <| ex_then <| wpc_region <| wpl_q (q_pure rfl) rfl ?_
     refine wpl_q (q_ldN Tryd.underlying41 rfl Tryd.ti41 rfl zz2) rfl ?_
     refine wpl_t (t_turnV2 b31.1 b31.2 [.int .i64 ((k / 2 ^ i / 2 ^ 1 : Nat) : Int)] (v8s (stepU (upF (recF bs chs) k ps i) (k / 2 ^ i) (ps.getD i []))) zz19 rfl Tryd.hb92 rfl fun w h h1 h2 hne => followed7 _ _ _ _ _ w hgl h1 h2 hne hul hkl (own_ne h hG zz4) (own_ne h hG zz4) (glob h hG)) rfl (fun b41 => ?_)
     refine wpl_t0 (t_stA Tryd.ti41 rfl rfl zz2 (v8s_one _) zz2) (fun _ => ?_)
     refine wpl_nil <| ex_block <| ex_then <| wpc_region ?_
     refine wpl_q (q_addN (b := 1) rfl rfl zz1) rfl ?_
     refine wpl_q (q_pure rfl) rfl <| wpl_nil ?_
     refine ex_again ⟨i + 1, zz42⟩ ?_ ?_ ?_
     ·
      exact zz9
     ·
      exact fun w h => by
        dsimp only
        rw [div_step, show upF (recF bs chs) k ps (i + 1) = stepU (upF (recF bs chs) k ps i) (k / 2 ^ i) (ps.getD i []) from rfl]
        first | exact h.sub SubC.h SubC.h | exact h.sub zz8 zz8
     ·
      (show ps.length - (i + 1) < ps.length - i); omega
    ·
     simp only [decide_eq_false_iff_not] at hc36
     obtain rfl : i = ps.length := by omega
     refine wpc_exit ?_
     refine ex_then_exit ?_
     refine ex_then_exit ?_
     refine ex_block_hit ?_
     refine ex_then <| wpc_seq <| wpc_region ?_
     refine wpl_q (q_ldN Tryd.underlying41 rfl Tryd.ti41 rfl zz2) rfl ?_
     refine wpl_q (q_pure rfl) rfl ?_
     refine wpl_t0 (t_stA Tryd.ti41 rfl rfl zz2 (v8s_one _) zz2) (fun _ => ?_)
     refine wpl_q (q_pure rfl) rfl <| wpl_nil <| ex_then <| wpc_ret ?_
     refine retv2 (.inl rfl) rfl (rv_agg Tryd.underlying41 rfl Tryd.ti41 rfl (fun w h => h.atB) zz2) (rv_tmp rfl) ?_
     exact fun w h => ⟨by rw [hr, hc18, he]; rfl, h.below⟩
theorem verify7 (rs : List UInt8) (ht : Int) (bv : Value) (bs : List UInt8) (cv pv : Value) (chs ps : List (List UInt8)) (idx : Int) (w : World) (hrs : rs.length = 16) (hbv : Seen w.cell? bv bs.length 1 (v8s bs)) (hcv : Seen w.cell? cv chs.length 16 (v8s chs.flatten)) (hlchs : ∀ x ∈ chs, x.length = 16) (hpv : Seen w.cell? pv ps.length 16 (v8s ps.flatten)) (hlps : ∀ x ∈ ps, x.length = 16) (hG : Glb w) :
    Calls Tryd.prog 22 [.agg (v8s rs ++ [Value.int .i64 ht]).toArray, bv, .agg #[.int .i64 idx, cv, pv]].toArray w (Pur w (.bool (decide (checkFMm ht idx chs.length ps.length = 0 ∧ rootF ht idx bs chs ps = rs)))) := by
  have sbv := hbv.sv
  have lbv := sbv.le
  simp only [maxLen] at lbv
  have scv := hcv.sv
  have lcv := scv.le
  simp only [maxLen] at lcv
  have spv := hpv.sv
  have lpv := spv.le
  simp only [maxLen] at lpv
  have hrl := rootF_length ht idx bs chs ps
  refine enter (m := 25) (R := Mem w [] [] []) Tryd.func22 rfl rfl (Nat.le_of_ble_eq_true rfl) (Mem.start w) ?_
  refine wpc_seq <| wpc_region ?_
  refine wpl_t (t_box rfl (v8s rs ++ [Value.int .i64 ht]) rfl) rfl (fun b3 => ?_)
  refine wpl_t (t_box rfl [.int .i64 idx, cv, pv] rfl) rfl (fun b5 => ?_)
  refine wpl_q (q_pure rfl) rfl <| wpl_nil <| ex_then <| wpc_seq <| wpc_region <| wpl_q (q_field Tryd.underlying43 rfl Tryd.ti3 rfl rfl _ rfl) rfl <| wpl_q (q_ld Tryd.underlying3 rfl rfl (key_height rs ht hrs)) rfl <| wpl_q (q_pure rfl) rfl ?_
  refine wpl_q (q_ldN Tryd.underlying30 rfl Tryd.ti30 rfl zz2) rfl ?_
  refine wpl_t (t_pur Tryd.hb44 rfl fun w h => root7 _ _ _ _ _ _ _ _ w zz13 zz13 zz27 zz13 zz27 (glob h hG)) rfl (fun b14 => ?_)
  refine wpl_q (q_pure rfl) rfl <| wpl_q (q_pure rfl) rfl <| wpl_q (q_pure rfl) rfl ?_
  refine wpl_t (t_alloc Tryd.ti41 (v8s (List.replicate 16 0)) (by rfl)) rfl (fun b7 => ?_)
  refine wpl_t0 (t_stA Tryd.ti41 rfl rfl zz2 (v8s_one _) zz2) (fun _ => ?_)
  refine wpl_q (q_pure rfl) rfl <| wpl_nil <| ex_then <| wpc_seq <| wpc_region <| wpl_q (q_pure rfl) rfl <| wpl_q (q_pure rfl) rfl <| wpl_q (q_pure rfl) rfl ?_
  refine wpl_bool2 19 18 rfl rfl (fun hb19 => ?_) (fun hb19 => ?_)
  ·
   try simp only [decide_eq_true_eq, decide_eq_false_iff_not, Bool.and_eq_true, Bool.or_eq_true, beq_iff_eq, bne_iff_ne, ne_eq, Bool.not_eq_true', Bool.not_eq_false', Decidable.not_not] at hb19
   refine wpl_on rfl rfl ?_
   refine wpl_q (q_ldN Tryd.underlying41 rfl Tryd.ti41 rfl zz2) rfl ?_
   refine wpl_on rfl rfl <| wpl_q (q_field Tryd.underlying43 rfl Tryd.ti41 rfl rfl _ rfl) rfl <| wpl_on rfl rfl <| wpl_q (q_ldP Tryd.underlying41 rfl Tryd.ti41 rfl (v8s rs) (key_root rs ht hrs) ((v8s_length _).trans hrs)) rfl <| wpl_on rfl rfl ?_
   refine wpl_q (q_eq8 eq8_41Mm zz7 rfl rfl (by first | (first | with_reducible assumption | exact L16.h) | simp) (by first | (first | with_reducible assumption | exact L16.h) | simp)) rfl ?_
   refine wpl_q (q_pure rfl) rfl <| wpl_q (q_pure rfl) rfl <| wpl_nil <| ex_then <| wpc_ret ?_
   refine ret1 (.inl rfl) rfl rfl ?_
   exact fun w h => ⟨by simp [hb19], h.below⟩
  ·
   simp only [beq_eq_false_iff_ne, ne_eq] at hb19
   refine wpl_off rfl rfl rfl rfl <| wpl_off rfl rfl rfl rfl <| wpl_off rfl rfl rfl rfl <| wpl_off rfl rfl rfl rfl <| wpl_q (q_pure rfl) rfl <| wpl_q (q_pure rfl) rfl <| wpl_nil <| ex_then <| wpc_ret ?_
   refine ret1 (.inl rfl) rfl rfl ?_
   exact fun w h => ⟨by simp [hb19], h.below⟩
end Go.Proofs.YtgnablliekgbgaaDoor
namespace Go.Proofs.YtgnablliekgbgaaDoor
open Go Go.PL Go.RowKit
def leafF (s : List UInt8) (i : Nat) : List UInt8 := shortF (s ++ [of8 (i : Int), 254, 0])
theorem leafF_length (s : List UInt8) (i : Nat) : (leafF s i).length = 16 := by rw [leafF]; exact shortF_length _
instance l16_leaf {s : List UInt8} {i : Nat} : L16 (leafF s i) := ⟨leafF_length s i⟩
end Go.Proofs.YtgnablliekgbgaaDoor
namespace Go.Proofs.YtgnablliekgbgaaDoor
open Go Go.PL Go.RowKit
theorem sig_oneMm {v1 v2 : Value} {n1 n2 : Nat} (h1 : SV v1 n1) (h2 : SV v2 n2) (idx : Int) : ∀ u ∈ [Value.int .i64 idx, v1, v2], u.oneCell' = true := by
  intro u hu
  simp only [List.mem_cons, List.not_mem_nil, or_false] at hu
  rcases hu with rfl | rfl | rfl
  · rfl
  · exact h1.one
  · exact h2.one
theorem key_len (rs : List UInt8) (ht : Int) (h : rs.length = 16) : (v8s rs ++ [Value.int .i64 ht]).length = 17 := by rw [List.length_append, v8s_length, h]; rfl
end Go.Proofs.YtgnablliekgbgaaDoor
