/- What the statement reaches, in order. -/
import Derived.Test.YtgnablliekgbgaaGreatDoorMXPLN
import Derived.Test.YtgnablliekgbgaaGreatDoorMXPLL
import Derived.Test.YtgnablliekgbgaaGreatDoorMXTI
import Derived.Lib.BufferRead
import Derived.Lib.ConvBytes
import Derived.Laws.IdiomStrings
import Derived.Test.YtgnablliekgbgaaGreatDoorMXPLH
import Derived.Test.YtgnablliekgbgaaGreatDoorMXPLI
import Derived.Test.YtgnablliekgbgaaGreatDoorMXPLZ
import Derived.WalkKit
import Derived.ProofKit
import Derived.OpenShut
import Derived.ChangeOld
import Derived.Below
import Derived.Carry
import Derived.LaidMore
import Derived.Deep.DeepHandedRow
import Derived.Deep.DeepWitnessRowRef
import Derived.Lib.LaidTab
import Derived.Stop.Joined
import Derived.Test.YtgnablliekgbgaaGreatDoorMX3
set_option linter.unusedSimpArgs false
set_option linter.unusedVariables false
set_option maxRecDepth 100000
namespace Go.Proofs.YtgnablliekgbgaaGreatDoor
open Go Go.PL Go.RowKit
def setLen (buf : List UInt8) (x : UInt64) : Nat → List UInt8
  | 0 => buf
  | i + 1 => (setLen buf x i).set (56 + i) (of8 (sr64 x (56 - 8 * i)).toNat)
theorem setLen_length (buf : List UInt8) (x : UInt64) : ∀ i, (setLen buf x i).length = buf.length
  | 0 => rfl
  | i + 1 => by simp [setLen, setLen_length buf x i]
def cF (a : List UInt8) : List UInt8 := if (a ++ [128]).length % 64 > 56 then (a ++ [128]) ++ List.replicate (64 - (a ++ [128]).length % 64) 0 else a ++ [128]
def lenN (ps : List (List UInt8)) : Nat → UInt64
  | 0 => 0
  | i + 1 => lenN ps i + of64 (ps.getD i []).length
def blocksF (ps : List (List UInt8)) : List (List UInt8) := chunksF (cF ps.flatten) ++ [setLen (bufF (cF ps.flatten)) (lenN ps ps.length * 8) 8]
def Parts (r : Rd) (v : Value) (ps : List (Value × List UInt8)) : Prop := Seen r v ps.length 1 (ps.map Prod.fst) ∧ ∀ q ∈ ps, Seen r q.1 q.2.length 1 (v8s q.2)
def encBMm (_ : List UInt8) (b : Nat) : Array Value := #[.pointer (some ⟨b, 0, none⟩)]
def AtB (T : List Nat) (x : List UInt8) (b : Nat) (w : World) : Prop := b ∈ T ∧ w.heap[b]? = some (.cells (v8s x).toArray 145 (0, 0))
def InvB (pb : Nat) (v : Value) (ps : List (Value × List UInt8)) (w : World) : Prop := w.heap[pb]? = some (.cells #[v] 130 (0, 0)) ∧ Parts w.cell? v ps
def blkM (l : Nat) (c : List UInt8) (b nb y : Nat) : List Ent := [.blk nb 3 [.int .i64 ((c.length % 64 : Nat) : Int)], .blk b 145 (v8s (bufF c)), .blk y 143 [.func (.yield l) #[] #[]]]
structure ItInv (J : Jt) (W : World) (c : List UInt8) (b nb y l : Nat) (wb : World) : Prop where
  J : J [nb, b, y] (chunksF c) wb
  b : W.heap.size ≤ b
  nb : W.heap.size ≤ nb
  y : W.heap.size ≤ y
def Stab (J : Jt) : Prop := ∀ T T' pre w1 w2, J T pre w1 → Mem w1 T [] [] w2 → (∀ k, k ∈ T' → (k ∈ T ∨ w1.heap.size ≤ k) ∧ k < w2.heap.size) → J T' pre w2
theorem put_at (J : Jt) (W : World) (l : Nat) (ALL : List (List UInt8)) (pb : Nat) (pv : Value) (ps : List (Value × List UInt8)) (hst : Stab J) (hyl : ∀ T b, b ∈ T → YieldOk Tryz.prog J T b l ALL)
    {c p : List UInt8} {p0 : Value} {b nb y : Nat} {wb w : World} {X : List Ent} (hI : ItInv J W c b nb y l wb) (h : Mem wb [nb, b, y] (X ++ blkM l c b nb y) [] w)
    (hpre : chunksF (c ++ p) <+: ALL) (hs : Seen w.cell? p0 p.length 1 (v8s p)) (hpb : ∀ k, p0.ownBlock = some k → v8s p ≠ [] → k ≠ b ∧ k ≠ nb)
    (hp : ∀ pre (w1 w2 : World), Seen w1.cell? p0 p.length 1 (v8s p) → J (nums X ++ [nb, b, y]) pre w2 → (∀ k, k ∈ nums X ++ [nb, b, y] → w2.heap[k]? = w1.heap[k]?) → Seen w2.cell? p0 p.length 1 (v8s p)) :
    Calls Tryz.prog 107 #[p0, .pointer (some ⟨b, 0, none⟩), .pointer (some ⟨nb, 0, none⟩), .pointer (some ⟨y, 0, none⟩)] w fun e w' =>
      ∃ u : { u : World // ItInv J W (c ++ p) b nb y l u }, e = .returned (.tuple #[]) ∧ Mem u.1 [nb, b, y] (blkM l (c ++ p) b nb y) [] w' := by
  have hn : w.heap[nb]? = some (.cells #[.int .i64 ((c.length % 64 : Nat) : Int)] 3 (0, 0)) := h.own (.blk nb 3 [.int .i64 ((c.length % 64 : Nat) : Int)]) (by simp [blkM])
  have hb : w.heap[b]? = some (.cells (v8s (bufF c)).toArray 145 (0, 0)) := h.own (.blk b 145 (v8s (bufF c))) (by simp [blkM])
  have hy : w.heap[y]? = some (.cells #[.func (.yield l) #[] #[]] 143 (0, 0)) := h.own (.blk y 143 [.func (.yield l) #[] #[]]) (by simp [blkM])
  have hap := (List.pairwise_append.1 h.apart).2.1
  simp only [blkM, List.pairwise_cons, List.mem_cons, List.mem_nil_iff, or_false, Ent.num, Option.some.injEq, forall_eq_or_imp, forall_eq] at hap
  have hnb : nb ≠ b := fun e => (hap.1.1 nb rfl) (congrArg some e.symm)
  have hny : nb ≠ y := fun e => (hap.1.2 nb rfl) (congrArg some e.symm)
  have hby : b ≠ y := fun e => (hap.2.1 b rfl) (congrArg some e.symm)
  have hTl : ∀ k, k ∈ nums X ++ [nb, b, y] → k < w.heap.size := by
    intro k hk
    rcases List.mem_append.1 hk with hk | hk
    · obtain ⟨e, he, hne⟩ := mem_nums.1 hk
      exact Ent.lt (h.own e (List.mem_append_left _ he)) hne
    · simp at hk
      rcases hk with rfl | rfl | rfl
      · exact (Array.getElem?_eq_some_iff.1 hn).1
      · exact (Array.getElem?_eq_some_iff.1 hb).1
      · exact (Array.getElem?_eq_some_iff.1 hy).1
  have hX : ∀ k, k ∈ nums X → wb.heap.size ≤ k := fun k hk => by
    obtain ⟨e, he, hne⟩ := mem_nums.1 hk
    rcases h.new e (List.mem_append_left _ he) k hne with h1 | h1
    · exact h1
    · have hxx := (List.pairwise_append.1 h.apart).2.2 e he
      simp at h1
      rcases h1 with rfl | rfl | rfl
      · exact absurd rfl (hxx (.blk k 3 [.int .i64 ((c.length % 64 : Nat) : Int)]) (by simp [blkM]) k hne)
      · exact absurd rfl (hxx (.blk k 145 (v8s (bufF c))) (by simp [blkM]) k hne)
      · exact absurd rfl (hxx (.blk k 143 [.func (.yield l) #[] #[]]) (by simp [blkM]) k hne)
  have hJ : J (nums X ++ [nb, b, y]) (chunksF c) w := hst _ _ _ _ _ hI.J (h.sub .nil .nil) fun k hk => ⟨(List.mem_append.1 hk).symm.imp id (hX k), hTl k hk⟩
  refine (putMm J (nums X ++ [nb, b, y]) c p p0 b nb y l w ALL (fun pre w1 w2 h1 h2 h3 => hst _ _ _ _ _ h1 h2 fun k hk => ⟨.inl hk, h3 k hk⟩) (hyl _ _ zz47) hp hpre hTl hpb zz47 zz47 zz47 hnb.symm hby hny hJ hs hb hn hy).mono ?_
  rintro e w' ⟨rfl, j1, j2, j3, j4, j5⟩
  have hy' : w'.heap[y]? = some (.cells #[.func (.yield l) #[] #[]] 143 (0, 0)) := (j4 y zz47 hby.symm hny.symm).trans hy
  refine ⟨⟨w', hst _ _ _ _ _ j1 ((Mem.start w').lend zz47) (fun k hk => ⟨.inl (List.mem_append_right _ hk), ?_⟩), hI.b, hI.nb, hI.y⟩, rfl, ?_⟩
  · exact Nat.lt_of_lt_of_le (hTl k (List.mem_append_right _ hk)) j5
  · exact Mem.startL (Ms := blkM l (c ++ p) b nb y) w' (by
      intro e he
      simp only [blkM, List.mem_cons, List.mem_nil_iff, or_false] at he
      rcases he with rfl | rfl | rfl
      · exact j3
      · exact j2
      · exact hy') (by simp [blkM, Ent.num]; exact ⟨⟨hnb.symm, hny.symm⟩, hby.symm⟩)
theorem addr_block (a : Addr) (i : Nat) : (a.add i).block = a.block := by unfold Addr.add; split <;> rfl
theorem cF_pre (a : List UInt8) : ∃ x, a ++ [128] ++ x = cF a := by
  unfold cF
  split
  · exact ⟨_, rfl⟩
  · exact ⟨[], zz47⟩
theorem pre_all (ps : List (List UInt8)) (c : List UInt8) (h : ∃ x, c ++ x = cF ps.flatten) : chunksF c <+: blocksF ps := by
  obtain ⟨x, hx⟩ := h
  unfold blocksF
  rw [← hx]
  exact (chunks_prefix c x).trans (List.prefix_append _ _)
theorem pre_take (ps : List (List UInt8)) (i : Nat) : ∃ x, (ps.take i).flatten ++ x = cF ps.flatten := by
  obtain ⟨x, hx⟩ := cF_pre ps.flatten
  refine ⟨(ps.drop i).flatten ++ ([128] ++ x), ?_⟩
  rw [← hx, ← List.append_assoc, ← List.flatten_append, List.take_append_drop, List.append_assoc]
theorem take_succ_flatMm (ps : List (List UInt8)) (i : Nat) (h : i < ps.length) : (ps.take (i + 1)).flatten = (ps.take i).flatten ++ ps.getD i [] := by
  have e : ps.take (i + 1) = ps.take i ++ [ps.getD i []] := by rw [List.take_add_one]; simp [h]
  rw [e]; simp
theorem cF_full (a : List UInt8) (h : (a ++ [128]).length % 64 > 56) : cF a = (a ++ [128]) ++ List.replicate (64 - (a ++ [128]).length % 64) 0 := if_pos h
theorem cF_room (a : List UInt8) (h : ¬ (a ++ [128]).length % 64 > 56) : cF a = a ++ [128] := if_neg h
end Go.Proofs.YtgnablliekgbgaaGreatDoor
namespace Go.Proofs.YtgnablliekgbgaaGreatDoor
open Go Go.PL Go.RowKit
theorem mem_c {u w : World} {T : List Nat} {l b nb y : Nat} {c c' : List UInt8} (e : c = c') (h : Mem u T (blkM l c' b nb y) [] w) : Mem u T (blkM l c b nb y) [] w := e ▸ h
theorem zeros_flat (k : Nat) : (List.replicate k (Value.int .u8 0).cells.toList).flatten = v8s (List.replicate k 0) := by
  induction k with
  | zero => rfl
  | succ k ih => rw [List.replicate_succ, List.flatten_cons, ih, List.replicate_succ]; rfl
theorem put_row (J : Jt) (W : World) (l : Nat) (ALL : List (List UInt8)) (pb : Nat) (pv : Value) (ps : List (Value × List UInt8)) (hst : Stab J) (hyl : ∀ T b, b ∈ T → YieldOk Tryz.prog J T b l ALL)
    {c p : List UInt8} {r m cap : Nat} {b nb y : Nat} {wb w : World} (hI : ItInv J W c b nb y l wb) (h : Mem wb [nb, b, y] (.row (.slice (some ⟨r, 0, none⟩) m cap) m 5 1 (v8s p) :: blkM l c b nb y) [] w) (hpre : chunksF (c ++ p) <+: ALL) :
    Calls Tryz.prog 107 #[.slice (some ⟨r, 0, none⟩) m cap, .pointer (some ⟨b, 0, none⟩), .pointer (some ⟨nb, 0, none⟩), .pointer (some ⟨y, 0, none⟩)] w fun e w' =>
      ∃ u : { u : World // ItInv J W (c ++ p) b nb y l u }, e = .returned (.tuple #[]) ∧ Mem u.1 [nb, b, y] (blkM l (c ++ p) b nb y) [] w' := by
  have hlen : m = p.length := by have := h.row_len (List.mem_cons_self ..); simpa using this.symm
  subst hlen
  have hap := (List.pairwise_cons.1 h.apart).1
  have hrb : r ≠ b := fun e => hap (.blk b 145 (v8s (bufF c))) (by simp [blkM]) r rfl (by rw [e]; rfl)
  have hrn : r ≠ nb := fun e => hap (.blk nb 3 [.int .i64 ((c.length % 64 : Nat) : Int)]) (by simp [blkM]) r rfl (by rw [e]; rfl)
  refine put_at J W l ALL pb pv ps hst hyl (X := [.row (.slice (some ⟨r, 0, none⟩) p.length cap) p.length 5 1 (v8s p)]) hI h hpre (h.seen_row (List.mem_cons_self ..)) (fun k hk _ => by
    simp [Value.ownBlock] at hk; subst hk; exact ⟨hrb, hrn⟩) (fun pre w1 w2 h1 _ hT => ?_)
  have hrT := hT r (by simp [nums, Ent.num, Value.ownBlock])
  obtain ⟨q1, a, cp, q2, q3, q4, q5⟩ := h1
  simp at q2
  obtain ⟨rfl, rfl⟩ := q2
  refine ⟨q1, _, _, rfl, q3, q4, ?_⟩
  rcases q5 with q5 | ⟨ad, q5, q6⟩
  · cases q5.1
  · cases q5
    refine .inr ⟨_, rfl, fun j u hj => ?_⟩
    have := q6 j u hj
    rw [add_lit] at this ⊢
    exact (World.cell?_of_block hrT).trans this
theorem last_yield (J : Jt) (W : World) (l : Nat) (ALL : List (List UInt8)) (ps : List (Value × List UInt8)) (hst : Stab J) (hyl : ∀ T b, b ∈ T → YieldOk Tryz.prog J T b l ALL) (hALL : blocksF (ps.map Prod.snd) = ALL)
    {b nb y : Nat} {n' : Int} {wb w : World} (hI : ItInv J W (cF (ps.map Prod.snd).flatten) b nb y l wb)
    (h : Mem wb [nb, b, y] [.blk nb 3 [.int .i64 n'], .blk b 145 (v8s (setLen (bufF (cF (ps.map Prod.snd).flatten)) (lenN (ps.map Prod.snd) ps.length * 8) 8)), .blk y 143 [.func (.yield l) #[] #[]]] [] w) :
    YieldAt Fence.wide 0 Tryz.prog l #[.pointer (some ⟨b, 0, none⟩)] w fun e w' => ∃ u : { u : World // ∃ T, J T ALL u }, e = .returned (.bool true) ∧ w' = u.1 := by
  have hlt : ∀ k, k ∈ [nb, b, y] → k < w.heap.size := fun k hk => by
    have hk' : k ∈ nums [.blk nb 3 [.int .i64 n'], .blk b 145 (v8s (setLen (bufF (cF (ps.map Prod.snd).flatten)) (lenN (ps.map Prod.snd) ps.length * 8) 8)), .blk y 143 [.func (.yield l) #[] #[]]] := hk
    obtain ⟨e, he, hn⟩ := mem_nums.1 hk'
    exact Ent.lt (h.own e he) hn
  have hJ := hst _ [nb, b, y] _ _ _ hI.J (h.sub .nil .nil) (fun k hk => ⟨.inl hk, hlt k hk⟩)
  have hb : w.heap[b]? = some (.cells (v8s (setLen (bufF (cF (ps.map Prod.snd).flatten)) (lenN (ps.map Prod.snd) ps.length * 8) 8)).toArray 145 (0, 0)) := h.own (.blk b 145 (v8s (setLen (bufF (cF (ps.map Prod.snd).flatten)) (lenN (ps.map Prod.snd) ps.length * 8) 8))) zz47
  have hall : chunksF (cF (ps.map Prod.snd).flatten) ++ [setLen (bufF (cF (ps.map Prod.snd).flatten)) (lenN (ps.map Prod.snd) ps.length * 8) 8] = ALL := by rw [← hALL]; unfold blocksF; rw [List.length_map]
  obtain ⟨fn, tmps, assign, body, hrun, hround⟩ := hyl [nb, b, y] b zz47 _ _ w hJ (by rw [hall]; exact List.prefix_refl _) hb
  refine ⟨fn, tmps, assign, body, hrun, hround.mono ?_⟩
  rintro e w' ⟨rfl, hJ', _⟩
  rw [hall] at hJ'
  exact ⟨⟨w', _, hJ'⟩, rfl, rfl⟩
def ItPost (J : Jt) (ALL : List (List UInt8)) (e : Ending) (w : World) : Prop := (∃ v, e = .returned v) ∧ ∃ T, J T ALL w
theorem iter (J : Jt) (W : World) (l : Nat) (ALL : List (List UInt8)) (pb : Nat) (pv : Value) (ps : List (Value × List UInt8)) (hst : Stab J) (hyl : ∀ T b, b ∈ T → YieldOk Tryz.prog J T b l ALL) (hALL : blocksF (ps.map Prod.snd) = ALL)
    (hinv : ∀ T pre w1, J T pre w1 → InvB pb pv ps w1) (hJ0 : J [] [] W) :
    Calls Tryz.prog 106 [.func (.yield l) #[] #[], .pointer (some ⟨pb, 0, none⟩)].toArray W (ItPost J ALL) := by
  obtain ⟨a, cap, rfl, hlc, hcm, hz⟩ := (hinv _ _ _ hJ0).2.1.form
  have hpbW : pb < W.heap.size := (Array.getElem?_eq_some_iff.1 (hinv _ _ _ hJ0).1).1
  have hmL : cap ≤ 9223372036854775807 := by simp only [maxLen] at hcm; omega
  refine enter (m := 53) (R := Mem W [] [] []) Tryz.func106 rfl rfl (Nat.le_of_ble_eq_true rfl) (Mem.start W) ?_
  refine wpc_seq <| wpc_region ?_
  refine wpl_t (t_box rfl _ rfl) rfl ?_
  intro b2
  refine wpl_nil <| ex_then <| wpc_seq <| wpc_region ?_
  refine wpl_t (t_alloc Tryz.ti145 (v8s (bufF [])) (by rfl)) rfl ?_
  intro b3
  refine wpl_nil <| ex_then <| wpc_seq <| wpc_region ?_
  refine wpl_t (t_alloc Tryz.ti3 _ rfl) rfl ?_
  intro b4
  refine wpl_t0 (t_st1 Tryz.ti3 rfl rfl rfl Nat.zero_lt_one _ rfl) ?_
  intro _
  refine wpl_q (q_pure rfl) rfl <| wpl_nil <| ex_then <| wpc_seq <| wpc_region ?_
  refine wpl_q (q_fn (us := []) (vs := [.pointer (some ⟨b3, 0, none⟩), .pointer (some ⟨b4, 0, none⟩), .pointer (some ⟨b2, 0, none⟩)]) rfl rfl) rfl ?_
  refine wpl_q (q_pure rfl) rfl <| wpl_nil <| ex_then <| wpc_seq <| wpc_seq ?_
  refine wpc_ex (p := ItInv J W [] b3 b4 b2 l) (R' := fun wb => Mem wb [b4, b3, b2] (blkM l [] b3 b4 b2) []) (fun w h => ?_) (fun wb0 hI0 => ?_)
  · have h2 : Mem W [] (blkM l [] b3 b4 b2) [] w := h
    have hlt : ∀ k, k ∈ [b4, b3, b2] → W.heap.size ≤ k ∧ k < w.heap.size := fun k hk => by
      have hk' : k ∈ nums (blkM l [] b3 b4 b2) := hk
      obtain ⟨e, he, hn⟩ := mem_nums.1 hk'
      exact ⟨(h2.new e he k hn).resolve_right zz47, Ent.lt (h2.own e he) hn⟩
    exact ⟨w, ⟨hst [] _ _ _ _ hJ0 (h2.sub .nil .nil) (fun k hk => ⟨.inr (hlt k hk).1, (hlt k hk).2⟩), (hlt b3 zz47).1, (hlt b4 zz47).1, (hlt b2 zz47).1⟩, h2.base⟩
  refine wpc_region ?_
  refine wpl_q (q_load1 Tryz.underlying130 rfl rfl (fun w h => h.cell_oldL (cell_of_heap (hinv _ _ _ hI0.J).1 rfl) (by have := hI0.b; have := hI0.nb; have := hI0.y; simp; omega))) rfl ?_
  refine wpl_q (q_len Tryz.underlying130 rfl) rfl <| wpl_q (q_pure rfl) rfl <| wpl_nil <| ex_then <| wpc_block ?_
  refine wpc_loop (ι := { x : Nat × World // x.1 ≤ ps.length ∧ ItInv J W ((ps.map Prod.snd).take x.1).flatten b3 b4 b2 l x.2 }) (fun x => [(13, .int .i64 (x.1.1 : Nat)), (12, .int .i64 (ps.length : Nat)), (11, .slice a ps.length cap), (6, .func (.func 107) #[] #[.pointer (some ⟨b3, 0, none⟩), .pointer (some ⟨b4, 0, none⟩), .pointer (some ⟨b2, 0, none⟩)]), (5, .int .u64 (lenN (ps.map Prod.snd) x.1.1).toNat), (2, .pointer (some ⟨b2, 0, none⟩)), (3, .pointer (some ⟨b3, 0, none⟩)), (4, .pointer (some ⟨b4, 0, none⟩))]) (fun x => Mem x.1.2 [b4, b3, b2] (blkM l ((ps.map Prod.snd).take x.1.1).flatten b3 b4 b2) []) (fun x => ps.length - x.1.1) ⟨(0, wb0), Nat.zero_le _, hI0⟩ ?_ ?_ ?_
  · exact by repeat (first | exact trivial | refine ⟨rfl, ?_⟩)
  · exact fun w h => h
  · rintro ⟨⟨i, wb⟩, hi, hI⟩; dsimp only
    have hi : i ≤ ps.length := hi
    have hI : ItInv J W ((ps.map Prod.snd).take i).flatten b3 b4 b2 l wb := hI
    have hP := hinv _ _ _ hI.J
    refine wpc_seq <| wpc_region <| wpl_q (q_pure rfl) rfl <| wpl_nil <| ex_then <| wpc_seq ?_
    refine wpc_cond rfl (fun hc14 => ?_) (fun hc14 => ?_)
    ·
      simp only [decide_eq_true_eq] at hc14
      obtain ⟨ad, rfl⟩ : ∃ ad, a = some ad := by
        cases a with
        | none => have := hz rfl; omega
        | some ad => exact ⟨ad, rfl⟩
      obtain ⟨⟨qv, qb⟩, hq⟩ : ∃ q, ps[i]? = some q := ⟨_, List.getElem?_eq_getElem zz16⟩
      have hqm : (qv, qb) ∈ ps := List.mem_of_getElem? hq
      have hq1 : (ps.map Prod.fst)[i]? = some qv := by rw [List.getElem?_map, hq]; rfl
      have hq2 : (ps.map Prod.snd).getD i [] = qb := by rw [List.getD_eq_getElem?_getD, List.getElem?_map, hq]; rfl
      have hfs : ((ps.map Prod.snd).take (i + 1)).flatten = ((ps.map Prod.snd).take i).flatten ++ qb := by rw [take_succ_flatMm _ _ (by simp; omega), hq2]
      have hqs : Seen wb.cell? qv qb.length 1 (v8s qb) := hP.2.2 _ hqm
      obtain ⟨aq, capq, rfl, hq3, hq4, hq5⟩ := hqs.form
      have hadb : ad.block < W.heap.size := (hinv _ _ _ hJ0).2.1.block_lt (by intro e; rw [List.map_eq_nil_iff] at e; subst e; exact absurd hqm zz47) ad.block rfl
      have hqbl : ∀ k, (Value.slice aq qb.length capq).ownBlock = some k → v8s qb ≠ [] → k < W.heap.size := fun k hk hne => ((hinv _ _ _ hJ0).2.2 _ hqm).block_lt hne k hk
      have hbW := hI.b; have hnW := hI.nb; have hyW := hI.y
      refine wpc_skip <| ex_then <| wpc_seq <| wpc_block <| wpc_seq <| wpc_region ?_
      refine wpl_q (q_idxS Tryz.underlying130 Tryz.ti49 rfl rfl zz16 zz16 (i) zz16) rfl ?_
      refine wpl_q (q_load1 Tryz.underlying49 rfl rfl (fun w h => h.cell_oldL (hP.2.1.cell hq1) (by rw [addr_block]; simp; omega))) rfl ?_
      refine wpl_q (q_pure rfl) rfl <| wpl_nil <| ex_then <| wpc_seq <| wpc_region <| wpl_q (q_pure rfl) rfl <| wpl_q (q_pure rfl) rfl <| wpl_q (q_len Tryz.underlying49 rfl) rfl <| wpl_q (q64_conv Tryz.underlying3 Tryz.underlying22 rfl) rfl ?_
      refine wpl_q (qop_eq (q64_add rfl rfl) (v := .int .u64 (lenN (ps.map Prod.snd) (i + 1)).toNat) (by rw [lenN, hq2])) rfl ?_
      refine wpl_q (q_pure rfl) rfl <| wpl_nil <| ex_then <| wpc_region <| wpl_q (q_pure rfl) rfl <| wpl_q (q_pure rfl) rfl ?_
      refine wpl_t (t_callG (ι := { u : World // ItInv J W (((ps.map Prod.snd).take i).flatten ++ qb) b3 b4 b2 l u }) (V := fun _ => .tuple #[]) (R' := fun u => Mem u.1 [b4, b3, b2] (blkM l (((ps.map Prod.snd).take i).flatten ++ qb) b3 b4 b2) []) (cap := #[.pointer (some ⟨b3, 0, none⟩), .pointer (some ⟨b4, 0, none⟩), .pointer (some ⟨b2, 0, none⟩)]) rfl Tryz.hb107 rfl fun w h => put_at J W l ALL pb (.slice none 0 0) ps hst hyl (X := []) hI h (hALL ▸ pre_all _ _ (hfs ▸ pre_take _ (i + 1))) (h.seen_oldL (hP.2.2 _ hqm) (fun k hk hne => by have := hqbl k hk hne; simp; omega)) (fun k hk hne => by have := hqbl k hk hne; omega) (fun pre w1 w2 _ hJ2 _ => (hinv _ _ _ hJ2).2.2 _ hqm)) rfl ?_
      intro b24
      refine wpl_nil <| ex_block <| ex_then <| wpc_region ?_
      first | refine wpl_q (qop_eq (q_pure rfl) (congrArg (Value.int .i64) (wk_i64 zz16 zz16))) rfl ?_ | refine wpl_q (q_pure rfl) rfl ?_
      refine wpl_q (q_pure rfl) rfl <| wpl_nil ?_
      refine ex_again ⟨(i + 1, b24.1), by show i + 1 ≤ ps.length; omega, by show ItInv J W ((ps.map Prod.snd).take (i + 1)).flatten b3 b4 b2 l b24.1; rw [hfs]; exact b24.2⟩ ?_ ?_ ?_
      · exact zz10
      · exact fun w h => by
          show Mem b24.1 [b4, b3, b2] (blkM l ((ps.map Prod.snd).take (i + 1)).flatten b3 b4 b2) [] w
          rw [hfs]; exact h
      · show ps.length - (i + 1) < ps.length - i; omega
    ·
      simp only [decide_eq_false_iff_not] at hc14
      obtain rfl : i = ps.length := by omega
      have eall : ((ps.map Prod.snd).take ps.length).flatten = (ps.map Prod.snd).flatten := by rw [List.take_of_length_le zz47]
      rw [eall] at hI
      refine wpc_mono (R' := Mem wb [b4, b3, b2] (blkM l (ps.map Prod.snd).flatten b3 b4 b2) []) (fun w h => by rw [← eall]; exact h) ?_
      refine wpc_exit ?_
      refine ex_then_exit ?_
      refine ex_then_exit ?_
      refine ex_block_hit ?_
      refine ex_then <| wpc_seq <| wpc_region <| wpl_q (q_pure rfl) rfl ?_
      refine wpl_t (t_buildSlice (v8s [128]) Tryz.underlying49 Tryz.ti5 rfl zz22 zz22 rfl rfl rfl) rfl ?_
      intro b27
      refine wpl_t (t_callG (ι := { u : World // ItInv J W ((ps.map Prod.snd).flatten ++ [128]) b3 b4 b2 l u }) (V := fun _ => .tuple #[]) (R' := fun u => Mem u.1 [b4, b3, b2] (blkM l ((ps.map Prod.snd).flatten ++ [128]) b3 b4 b2) []) (cap := #[.pointer (some ⟨b3, 0, none⟩), .pointer (some ⟨b4, 0, none⟩), .pointer (some ⟨b2, 0, none⟩)]) rfl Tryz.hb107 rfl fun w h => put_row J W l ALL pb (.slice none 0 0) ps hst hyl hI h (hALL ▸ pre_all _ _ (cF_pre _))) rfl ?_
      intro b28
      refine wpl_nil <| ex_then ?_
      refine wpc_cut { u : World // ItInv J W (cF (ps.map Prod.snd).flatten) b3 b4 b2 l u } (fun _ => [(5, .int .u64 (lenN (ps.map Prod.snd) ps.length).toNat), (2, .pointer (some ⟨b2, 0, none⟩)), (3, .pointer (some ⟨b3, 0, none⟩)), (4, .pointer (some ⟨b4, 0, none⟩))]) (fun u => Mem u.1 [b4, b3, b2] (blkM l (cF (ps.map Prod.snd).flatten) b3 b4 b2) []) ?_ ?_
      ·
        refine wpc_seq ?_
        obtain ⟨wb1, hI1⟩ := b28
        refine wpc_mono (R' := Mem wb1 [b4, b3, b2] [.blk b4 3 [.int .i64 ((((ps.map Prod.snd).flatten ++ [(128 : UInt8)]).length % 64 : Nat) : Int)], .blk b3 145 (v8s (bufF ((ps.map Prod.snd).flatten ++ [(128 : UInt8)]))), .blk b2 143 [.func (.yield l) #[] #[]]] []) (fun w h => h) ?_
        refine wpc_region <| wpl_q (q_ld Tryz.underlying3 rfl rfl rfl) rfl <| wpl_q (q_pure rfl) rfl <| wpl_nil <| ex_then ?_
        refine wpc_cond rfl (fun hc30 => ?_) (fun hc30 => ?_)
        ·
          simp only [decide_eq_true_eq] at hc30
          have hm64 : ((ps.map Prod.snd).flatten ++ [(128 : UInt8)]).length % 64 < 64 := Nat.mod_lt _ zz22
          have ecf := cF_full (ps.map Prod.snd).flatten zz16
          refine wpc_region <| wpl_q (q_pure rfl) rfl <| wpl_q (q_ld Tryz.underlying3 rfl rfl rfl) rfl ?_
          first | refine wpl_q (qop_eq (q_pure rfl) (congrArg (Value.int .i64) (wk_i64 zz16 zz16))) rfl ?_ | refine wpl_q (q_pure rfl) rfl ?_
          refine wpl_t (t_makeSlice Tryz.underlying49 Tryz.ti5 rfl rfl zz16 (Int.le_refl _) zz16 zz16 (64 - ((ps.map Prod.snd).flatten ++ [(128 : UInt8)]).length % 64) (64 - ((ps.map Prod.snd).flatten ++ [(128 : UInt8)]).length % 64) zz16 zz16 (v8s (List.replicate (64 - ((ps.map Prod.snd).flatten ++ [(128 : UInt8)]).length % 64) (0 : UInt8))) rfl (zeros_flat _)) rfl ?_
          intro b34
          refine wpl_t (t_callG (ι := { u : World // ItInv J W (((ps.map Prod.snd).flatten ++ [(128 : UInt8)]) ++ List.replicate (64 - ((ps.map Prod.snd).flatten ++ [(128 : UInt8)]).length % 64) (0 : UInt8)) b3 b4 b2 l u }) (V := fun _ => .tuple #[]) (R' := fun u => Mem u.1 [b4, b3, b2] (blkM l (((ps.map Prod.snd).flatten ++ [(128 : UInt8)]) ++ List.replicate (64 - ((ps.map Prod.snd).flatten ++ [(128 : UInt8)]).length % 64) (0 : UInt8)) b3 b4 b2) []) (cap := #[.pointer (some ⟨b3, 0, none⟩), .pointer (some ⟨b4, 0, none⟩), .pointer (some ⟨b2, 0, none⟩)]) rfl Tryz.hb107 rfl fun w h => put_row J W l ALL pb (.slice none 0 0) ps hst hyl hI1 h (hALL ▸ pre_all _ _ ⟨[], by rw [List.append_nil]; exact ecf.symm⟩)) rfl ?_
          intro b35
          have HI : ItInv J W (cF (ps.map Prod.snd).flatten) b3 b4 b2 l b35.1 := by rw [ecf]; exact b35.2
          refine wpl_nil ?_
          refine ex_mid ⟨_, HI⟩ ?_ ?_
          · exact zz10
          · exact fun w h => mem_c ecf h
        ·
          simp only [decide_eq_false_iff_not] at hc30
          have ecf := cF_room (ps.map Prod.snd).flatten zz16
          have HI : ItInv J W (cF (ps.map Prod.snd).flatten) b3 b4 b2 l wb1 := by rw [ecf]; exact hI1
          refine wpc_skip ?_
          refine ex_mid ⟨_, HI⟩ ?_ ?_
          · exact zz10
          · exact fun w h => mem_c ecf h
      ·
        rintro ⟨wb2, hI2⟩
        dsimp only
        refine wpc_seq <| wpc_region <| wpl_q (q_pure rfl) rfl ?_
        refine wpl_q (q64_mul (b := 8) rfl rfl) rfl ?_
        refine wpl_q (q_pure rfl) rfl <| wpl_nil <| ex_then <| wpc_seq <| wpc_seq <| wpc_region <| wpl_q (q_pure rfl) rfl <| wpl_nil <| ex_then <| wpc_block ?_
        refine wpc_loop (ι := { j : Nat // j ≤ 8 }) (fun j => [(38, .int .i64 (j.1 : Nat)), (5, .int .u64 (lenN (ps.map Prod.snd) ps.length * 8).toNat), (2, .pointer (some ⟨b2, 0, none⟩)), (3, .pointer (some ⟨b3, 0, none⟩)), (4, .pointer (some ⟨b4, 0, none⟩))]) (fun j => Mem wb2 [b4, b3, b2] [.blk b4 3 [.int .i64 (((cF (ps.map Prod.snd).flatten).length % 64 : Nat) : Int)], .blk b3 145 (v8s (setLen (bufF (cF (ps.map Prod.snd).flatten)) (lenN (ps.map Prod.snd) ps.length * 8) j.1)), .blk b2 143 [.func (.yield l) #[] #[]]] []) (fun j => 8 - j.1) ⟨0, zz16⟩ ?_ ?_ ?_
        · exact by repeat (first | exact trivial | refine ⟨rfl, ?_⟩)
        · exact fun w h => h
        · rintro ⟨j, hj⟩; dsimp only
          have hsl := (setLen_length (bufF (cF (ps.map Prod.snd).flatten)) (lenN (ps.map Prod.snd) ps.length * 8) j).trans (bufF_length _)
          refine wpc_seq <| wpc_region <| wpl_q (q_pure rfl) rfl <| wpl_nil <| ex_then <| wpc_seq ?_
          refine wpc_cond rfl (fun hc39 => ?_) (fun hc39 => ?_)
          ·
            simp only [decide_eq_true_eq, decide_eq_false_iff_not, Bool.and_eq_true, Bool.or_eq_true, beq_iff_eq, bne_iff_ne, ne_eq] at hc39
            refine wpc_skip <| ex_then <| wpc_seq <| wpc_block <| wpc_seq <| wpc_region <| wpl_q (q_pure rfl) rfl <| wpl_q (q_pure rfl) rfl <| wpl_nil <| ex_then <| wpc_region <| wpl_q (q_pure rfl) rfl ?_
            first | refine wpl_q (qop_eq (q_pure rfl) (congrArg (Value.int .i64) (wk_i64 zz16 zz16))) rfl ?_ | refine wpl_q (q_pure rfl) rfl ?_
            refine wpl_q (q_pure rfl) rfl <| wpl_q (q_pure rfl) rfl ?_
            first | refine wpl_q (qop_eq (q_pure rfl) (congrArg (Value.int .i64) (wk_i64 zz16 zz16))) rfl ?_ | refine wpl_q (q_pure rfl) rfl ?_
            first | refine wpl_q (qop_eq (q_pure rfl) (congrArg (Value.int .i64) (wk_i64 zz16 zz16))) rfl ?_ | refine wpl_q (q_pure rfl) rfl ?_
            refine wpl_q (q64_shr rfl rfl zz16 (56 - 8 * j) zz16) rfl ?_
            refine wpl_q (q8_conv Tryz.underlying22 Tryz.underlying5 rfl) rfl ?_
            refine wpl_q (q_idxA Tryz.underlying145 Tryz.ti5 rfl rfl zz16 zz16 (56 + j) zz16) rfl ?_
            refine wpl_t0 (t_st1 Tryz.ti5 rfl rfl rfl zz37 _ (by first | exact v8s_set _ | rfl)) ?_
            intro _
            refine wpl_nil <| ex_block <| ex_then <| wpc_region ?_
            first | refine wpl_q (qop_eq (q_pure rfl) (congrArg (Value.int .i64) (wk_i64 zz16 zz16))) rfl ?_ | refine wpl_q (q_pure rfl) rfl ?_
            refine wpl_q (q_pure rfl) rfl <| wpl_nil ?_
            refine ex_again ⟨j + 1, zz16⟩ ?_ ?_ ?_
            · exact zz10
            · exact fun w h => h
            · show 8 - (j + 1) < 8 - j; omega
          ·
            simp only [decide_eq_false_iff_not] at hc39
            obtain rfl : j = 8 := by omega
            refine wpc_exit ?_
            refine ex_then_exit ?_
            refine ex_then_exit ?_
            refine ex_block_hit ?_
            refine ex_then ?_
            refine wpc_region_y ?_
            refine wpli_q open_wide (q_ld Tryz.underlying143 rfl rfl rfl) rfl ?_
            refine wpli_yield (l := l) (ι := { u : World // ∃ T, J T ALL u }) (V := fun _ => .bool true) (R' := fun u w => w = u.1) rfl rfl ?_ rfl fun u => ?_
            · exact fun w h => last_yield J W l ALL ps hst hyl hALL hI2 h
            refine wpli_nil ?_
            refine ret0 (.inr rfl) rfl ?_
            exact fun w h => ⟨⟨_, rfl⟩, h ▸ u.2⟩
end Go.Proofs.YtgnablliekgbgaaGreatDoor
namespace Go.Proofs.YtgnablliekgbgaaGreatDoor
open Go Go.PL Go.RowKit
def initS : List UInt32 := [1779033703, 3144134277, 1013904242, 2773480762, 1359893119, 2600822924, 528734635, 1541459225]
def stF2 (bl : List (List UInt8)) : List UInt32 := bl.foldl addF initS
theorem stF2_length (bl : List (List UInt8)) : (stF2 bl).length = 8 := by
  suffices h : ∀ (bl : List (List UInt8)) (s : List UInt32), s.length = 8 → (bl.foldl addF s).length = 8 from h bl initS rfl
  intro bl
  induction bl with
  | nil => exact fun s h => h
  | cons x r ih => exact fun s h => ih _ ((addF_length s x).trans h)
def outN (st : List UInt32) : Nat → List UInt8
  | 0 => List.replicate 32 0
  | i + 1 => (outN st i).set i (of8 (sr32 (st.getD (i / 4) 0) (24 - 8 * (i % 4))).toNat)
theorem outN_length (st : List UInt32) : ∀ i, (outN st i).length = 32
  | 0 => rfl
  | i + 1 => by simp [outN, outN_length st i]
def joinF (ps : List (List UInt8)) : List UInt8 := outN (stF2 (blocksF ps)) 32
theorem blocksF_64 (ps : List (List UInt8)) : ∀ x ∈ blocksF ps, x.length = 64 := by
  intro x hx
  unfold blocksF at hx
  rcases List.mem_append.1 hx with hx | hx
  · unfold chunksF at hx
    obtain ⟨i, hi, rfl⟩ := List.mem_map.1 hx
    have hi' := List.mem_range.1 hi
    rw [List.length_take, List.length_drop]
    omega
  · simp at hx
    subst hx
    rw [setLen_length, bufF_length]
def joinM (pb b3 b2 : Nat) (pv : Value) (pre : List (List UInt8)) : List Ent := [.blk pb 130 [pv], .blk b3 133 (v32s (stF2 pre)), .blk b2 121 (v8s (List.replicate 32 0))]
theorem join_it (w : World) (pb : Nat) (pv : Value) (ps : List (Value × List UInt8)) : IterOk Tryz.prog 106 #[.pointer (some ⟨pb, 0, none⟩)] encBMm AtB (InvB pb pv ps) (blocksF (ps.map Prod.snd)) w := by
  intro l J hst hinv hy hJ0
  exact iter J w l _ pb pv ps hst (fun T b hb pre x w1 hJ hpre hh => hy T pre x b w1 hJ hpre ⟨hb, hh⟩) rfl hinv hJ0
theorem atB_stab (T : List Nat) (x : List UInt8) (b : Nat) (w w' : World) (h : AtB T x b w) (h2 : ∀ j, j ∈ T → w'.heap[j]? = w.heap[j]?) : AtB T x b w' := ⟨h.1, (h2 b h.1).trans h.2⟩
theorem inv_join {w0 w : World} {pb b3 b2 : Nat} {pv : Value} {ps : List (Value × List UInt8)} {pre : List (List UInt8)} (hP : Parts w0.cell? pv ps) (h : Mem w0 [] (joinM pb b3 b2 pv pre) [] w) : InvB pb pv ps w :=
  ⟨h.own (.blk pb 130 [pv]) (by simp [joinM]), h.seen_old hP.1, fun q hq => h.seen_old (hP.2 q hq)⟩
theorem blocks (pv : Value) (hc : pv.cells.toList = [pv]) (w : World) :
    Calls Tryz.prog 100 [pv].toArray w (Gives w (fun pb : Nat => .func (.func 106) #[] #[.pointer (some ⟨pb, 0, none⟩)]) (fun pb => [.blk pb 130 [pv]]) (fun _ => [])) := by
  refine enter (m := 4) (R := Mem w [] [] []) Tryz.func100 rfl rfl (Nat.le_of_ble_eq_true rfl) (Mem.start w) ?_
  refine wpc_seq <| wpc_region ?_
  refine wpl_t (t_box rfl [pv] hc) rfl ?_
  intro b1
  refine wpl_q (q_pure rfl) rfl <| wpl_nil <| ex_then <| wpc_seq <| wpc_region ?_
  refine wpl_q (q_fn (us := []) (vs := [.pointer (some ⟨b1, 0, none⟩)]) rfl rfl) rfl ?_
  refine wpl_q (q_pure rfl) rfl <| wpl_nil <| ex_then <| wpc_ret ?_
  refine ret1 (.inl rfl) rfl rfl ?_
  exact fun w h => ⟨b1, rfl, h.below, h.made (Sub.refl _) .nil⟩
theorem quo4 (i : Nat) (h : i ≤ 64) : wk .i64 (Int.tdiv (i : Int) 4) = ((i / 4 : Nat) : Int) := by
  have e : Int.tdiv (i : Int) 4 = ((i / 4 : Nat) : Int) := rfl
  rw [e, wk_i64 zz16 zz16]
theorem join (pv : Value) (ps : List (Value × List UInt8)) (w : World) (hP : Parts w.cell? pv ps) (hro : CellsAt w.cell? ⟨0, 0, none⟩ (v32s rootsL)) (hsz : 0 < w.heap.size) :
    Calls Tryz.prog 88 [pv].toArray w (Pur w (.agg (v8s (joinF (ps.map Prod.snd))).toArray)) := by
  have hcell : pv.cells.toList = [pv] := by obtain ⟨_, _, rfl, _⟩ := hP.1.form; rfl
  refine enterM (m := 30) (R := Mem w [] [] []) Tryz.func88 rfl rfl (Nat.le_of_ble_eq_true rfl) (Mem.start w) ?_
  refine wpc_seq <| wpc_region ?_
  refine wpl_t (t_alloc Tryz.ti121 (v8s (List.replicate 32 0)) (by rfl)) rfl ?_
  intro b2
  refine wpl_nil <| ex_then <| wpc_seq <| wpc_region <| wpl_q (q_buildFull (v32s initS) Tryz.underlying133 Tryz.ti133 Tryz.ti131 rfl rfl (v32s_one _) rfl) rfl ?_
  refine wpl_t (t_alloc Tryz.ti133 (v32s (List.replicate 8 0)) (by rfl)) rfl ?_
  intro b3
  refine wpl_t0 (t_stA Tryz.ti133 rfl rfl rfl (v32s_one _) rfl) ?_
  intro _
  refine wpl_nil <| ex_then <| wpc_seq <| wpc_seq <| wpc_region <| wpl_q (q_pure rfl) rfl ?_
  refine wpl_t (t_call Tryz.hb100 rfl fun w h => blocks pv hcell w) rfl ?_
  intro b9
  refine wpl_nil <| ex_then <| wpc_block ?_
  refine wpc_range (xs := blocksF (ps.map Prod.snd)) (At := AtB) (Inv := InvB b9 pv ps) (encs := encBMm) (joinM b9 b3 b2 pv) (fun x b => [(4, .pointer (some ⟨b, 0, none⟩)), (3, .pointer (some ⟨b3, 0, none⟩)), (2, .pointer (some ⟨b2, 0, none⟩))]) rfl Tryz.hb106 (fun w h => join_it w b9 pv ps) (fun pre w h => inv_join hP h) atB_stab (fun _ _ => rfl) zz22 ?_ ?_ ?_
  · intro l x b R K hK
    refine wpci_region ?_
    refine wpli_q (open_round l) (q_pure rfl) rfl ?_
    refine wpli_nil ?_
    exact ex_assign hK zz10
  · intro l pre x b w1 T hpre hm hat hT
    have hx : x.length = 64 := blocksF_64 _ x (hpre.subset zz47)
    have hnew : ∀ k, k ∈ nums (joinM b9 b3 b2 pv pre) → w.heap.size ≤ k := fun k hk => by
      obtain ⟨e, he, hn⟩ := mem_nums.1 hk
      exact (hm.new e he k hn).resolve_right zz47
    have hbn : b ∉ nums (joinM b9 b3 b2 pv pre) := fun hk => by
      obtain ⟨e, he, hn⟩ := mem_nums.1 hk
      exact inM_not (hT b hat.1).2 e he hn
    have h0n : 0 ∉ nums (joinM b9 b3 b2 pv pre) := fun hk => by have := hnew 0 hk; omega
    have hb3 : b3 ∈ nums (joinM b9 b3 b2 pv pre) := by simp [joinM, nums, Ent.num]
    show WPCI _ _ _ _ (Mem w1 (nums (joinM b9 b3 b2 pv pre)) [.blk b9 130 [pv], .blk b3 133 (v32s (stF2 pre)), .blk b2 121 (v8s (List.replicate 32 0))] []) _ _
    refine wpci_block ?_
    refine wpci_region ?_
    refine wpli_q (open_round l) (q_pure rfl) rfl ?_
    have hst : stF2 (pre ++ [x]) = addF (stF2 pre) x := by simp [stF2]
    refine wpli_t (open_round l) (t_turn1 b3 Tryz.hb101 rfl fun w' h hs => add b3 b (stF2 pre) x (stF2_length _) hx w' hs (h.at_oldL (fun j v hj => by rw [add_lit, Nat.zero_add]; exact cell_of_heap hat.2 (by simpa using hj)) hbn) (fun e => hbn (e ▸ hb3)) (h.at_oldL (hm.at_old hro) h0n) (fun e => h0n (e ▸ hb3))) rfl fun _ => ?_
    refine wpli_nil ?_
    refine ex_block ?_
    exact ex_round fun _ h => by
      have e : joinM b9 b3 b2 pv (pre ++ [x]) = [.blk b9 130 [pv], .blk b3 133 (v32s (addF (stF2 pre) x)), .blk b2 121 (v8s (List.replicate 32 0))] := by rw [joinM, hst]
      rw [e]; exact h
  intro D
  refine ex_block <| ex_then <| wpc_seq <| wpc_region ?_
  refine wpl_t (t_alloc Tryz.ti121 (v8s (outN (stF2 (blocksF (ps.map Prod.snd))) 0)) (by rfl)) rfl ?_
  intro b5
  refine wpl_nil <| ex_then <| wpc_seq <| wpc_seq <| wpc_region <| wpl_q (q_pure rfl) rfl <| wpl_nil <| ex_then <| wpc_block ?_
  refine wpc_loop (ι := { i : Nat // i ≤ 32 }) (fun i => [(13, .int .i64 (i.1 : Nat)), (5, .pointer (some ⟨b5, 0, none⟩)), (3, .pointer (some ⟨b3, 0, none⟩)), (2, .pointer (some ⟨b2, 0, none⟩))]) (fun i => Mem w [] (.blk b5 121 (v8s (outN (stF2 (blocksF (ps.map Prod.snd))) i.1)) :: .obj D (.deferred (some [])) :: joinM b9 b3 b2 pv (blocksF (ps.map Prod.snd))) []) (fun i => 32 - i.1) ⟨0, zz16⟩ ?_ ?_ ?_
  · exact by repeat (first | exact trivial | refine ⟨rfl, ?_⟩)
  · exact fun w h => h
  · rintro ⟨i, hi⟩; dsimp only
    have hol := outN_length (stF2 (blocksF (ps.map Prod.snd))) i
    have hsl := stF2_length (blocksF (ps.map Prod.snd))
    simp only [joinM]
    refine wpc_seq <| wpc_region <| wpl_q (q_pure rfl) rfl <| wpl_nil <| ex_then <| wpc_seq ?_
    refine wpc_cond rfl (fun hc14 => ?_) (fun hc14 => ?_)
    ·
      simp only [decide_eq_true_eq, decide_eq_false_iff_not, Bool.and_eq_true, Bool.or_eq_true, beq_iff_eq, bne_iff_ne, ne_eq] at hc14
      refine wpc_skip <| ex_then <| wpc_seq <| wpc_block <| wpc_seq <| wpc_region <| wpl_q (q_pure rfl) rfl <| wpl_q (q_pure rfl) rfl <| wpl_nil <| ex_then <| wpc_region <| wpl_q (q_pure rfl) rfl ?_
      refine wpl_q (q_pure rfl) rfl ?_
      refine wpl_q (qop_eq (q_quo rfl rfl zz22) (v := .int .i64 ((i / 4 : Nat) : Int)) (congrArg (Value.int .i64) (quo4 i zz16))) rfl ?_
      refine wpl_q (q_idxA Tryz.underlying133 Tryz.ti131 rfl rfl zz16 zz16 (i / 4) zz16) rfl ?_
      refine wpl_q (q_ld Tryz.underlying131 rfl rfl zz31) rfl ?_
      refine wpl_q (q_pure rfl) rfl ?_
      refine wpl_q (qop_eq (q_rem rfl rfl zz22) (v := .int .i64 ((i % 4 : Nat) : Int)) rfl) rfl ?_
      first | refine wpl_q (qop_eq (q_pure rfl) (congrArg (Value.int .i64) (wk_i64 zz16 zz16))) rfl ?_ | refine wpl_q (q_pure rfl) rfl ?_
      first | refine wpl_q (qop_eq (q_pure rfl) (congrArg (Value.int .i64) (wk_i64 zz16 zz16))) rfl ?_ | refine wpl_q (q_pure rfl) rfl ?_
      refine wpl_q (q32_shr rfl rfl zz16 (24 - 8 * (i % 4)) zz16) rfl ?_
      refine wpl_q (q8_conv Tryz.underlying131 Tryz.underlying5 rfl) rfl ?_
      refine wpl_q (q_idxA Tryz.underlying121 Tryz.ti5 rfl rfl zz16 zz16 (i) zz16) rfl ?_
      refine wpl_t0 (t_st1 Tryz.ti5 rfl rfl rfl zz37 _ (by first | exact v8s_set _ | rfl)) ?_
      intro _
      refine wpl_nil <| ex_block <| ex_then <| wpc_region ?_
      first | refine wpl_q (qop_eq (q_pure rfl) (congrArg (Value.int .i64) (wk_i64 zz16 zz16))) rfl ?_ | refine wpl_q (q_pure rfl) rfl ?_
      refine wpl_q (q_pure rfl) rfl <| wpl_nil ?_
      refine ex_again ⟨i + 1, zz16⟩ ?_ ?_ ?_
      · exact zz10
      · exact fun w h => h
      · show 32 - (i + 1) < 32 - i; omega
    ·
      simp only [decide_eq_false_iff_not] at hc14
      obtain rfl : i = 32 := by omega
      refine wpc_exit ?_
      refine ex_then_exit ?_
      refine ex_then_exit ?_
      refine ex_block_hit ?_
      refine ex_then <| wpc_seq <| wpc_region <| wpl_q (q_ldN Tryz.underlying121 rfl Tryz.ti121 rfl ((v8s_length _).trans (outN_length _ _))) rfl ?_
      refine wpl_t0 (t_stA Tryz.ti121 rfl rfl ((v8s_length _).trans (outN_length _ _)) (v8s_one _) ((v8s_length _).trans rfl)) ?_
      intro _
      refine wpl_nil <| ex_then <| wpc_ret ?_
      refine ex_mark (.inl rfl) (.there .here) ?_
      refine retv1 (.inl rfl) rfl (rv_agg Tryz.underlying121 rfl Tryz.ti121 rfl (fun w h => h.cells_blk zz7) (by rw [v8s_length]; exact outN_length _ _)) ?_
      exact fun w h => ⟨rfl, h.below⟩
end Go.Proofs.YtgnablliekgbgaaGreatDoor
namespace Go.Proofs.YtgnablliekgbgaaGreatDoor
open Go Go.PL Go.RowKit
theorem joinF_length (ps : List (List UInt8)) : (joinF ps).length = 32 := outN_length _ _
theorem parts_one {w0 w : World} {M : List Ent} {S : List Fact} {g : Nat} {bv : Value} {bs : List UInt8} (h : Mem w0 [] (.row (.slice (some ⟨g, 0, none⟩) 1 1) 1 49 1 [bv] :: M) S w) (hb : Seen w0.cell? bv bs.length 1 (v8s bs)) : Parts w.cell? (.slice (some ⟨g, 0, none⟩) 1 1) [(bv, bs)] :=
  ⟨h.seen_row (List.mem_cons_self ..), fun q hq => by simp at hq; subst hq; exact h.seen_old hb⟩
theorem short (bv : Value) (bs : List UInt8) (w : World) (hb : Seen w.cell? bv bs.length 1 (v8s bs)) (hro : CellsAt w.cell? ⟨0, 0, none⟩ (v32s rootsL)) (hsz : 0 < w.heap.size) :
    Calls Tryz.prog 61 [bv].toArray w (Pur w (.agg (v8s ((joinF [bs]).take 16)).toArray)) := by
  refine enter (m := 10) (R := Mem w [] [] []) Tryz.func61 rfl rfl (Nat.le_of_ble_eq_true rfl) (Mem.start w) ?_
  refine wpc_seq <| wpc_region ?_
  refine wpl_t (t_alloc Tryz.ti32 (v8s (List.replicate 16 0)) (by rfl)) rfl ?_
  intro b2
  refine wpl_nil <| ex_then <| wpc_seq <| wpc_region <| wpl_q (q_pure rfl) rfl ?_
  refine wpl_t (t_buildSlice [bv] Tryz.underlying130 Tryz.ti49 rfl zz22 zz22 rfl (by obtain ⟨_, _, rfl, _⟩ := hb.form; rfl) rfl) rfl ?_
  intro b5
  refine wpl_t (t_pur Tryz.hb88 rfl fun w' h => join _ [(bv, bs)] w' (parts_one h hb) (h.at_old hro) (Nat.lt_of_lt_of_le hsz h.size)) rfl ?_
  intro b6
  refine wpl_t (t_alloc Tryz.ti121 (v8s (List.replicate 32 0)) (by rfl)) rfl ?_
  intro b3
  refine wpl_t0 (t_stA Tryz.ti121 rfl rfl ((v8s_length _).trans (joinF_length _)) (v8s_one _) ((v8s_length _).trans rfl)) ?_
  intro _
  refine wpl_nil <| ex_then <| wpc_seq <| wpc_region ?_
  refine wpl_q (q_ar_h Tryz.underlying121 Tryz.ti5 rfl rfl zz22 zz22 16 rfl) rfl ?_
  refine wpl_q (q_s2a Tryz.underlying32 rfl zz22) rfl ?_
  refine wpl_q (q_ldP Tryz.underlying32 rfl Tryz.ti32 rfl (v8s ((joinF [bs]).take 16)) (by rw [List.drop_zero, v8s_take]; rfl) (by rw [v8s_length, List.length_take, joinF_length]; rfl)) rfl ?_
  refine wpl_t0 (t_stA Tryz.ti32 rfl rfl (by rw [v8s_length, List.length_take, joinF_length]; rfl) (v8s_one _) ((v8s_length _).trans rfl)) ?_
  intro _
  refine wpl_nil <| ex_then <| wpc_ret ?_
  refine retv1 (.inl rfl) rfl (rv_agg Tryz.underlying32 rfl Tryz.ti32 rfl (fun w h => h.cells_blk zz7) (by rw [v8s_length, List.length_take, joinF_length]; rfl)) ?_
  exact fun w h => ⟨rfl, h.below⟩
end Go.Proofs.YtgnablliekgbgaaGreatDoor
namespace Go.Proofs.YtgnablliekgbgaaGreatDoor
open Go Go.PL Go.RowKit
def rotR (x : UInt32) (k : Nat) : UInt32 := sr32 x k ||| sl32 x (32 - k)
def zc (m : Nat) : Nat := (120 - (m + 1) % 64) % 64
def lenBMm (x : UInt64) : Nat → List UInt8
  | 0 => []
  | j + 1 => lenBMm x j ++ [of8 (sr64 x (8 * (7 - j))).toNat]
theorem lenB_lengthMm (x : UInt64) : ∀ j, (lenBMm x j).length = j
  | 0 => rfl
  | j + 1 => by simp [lenBMm, lenB_lengthMm x j]
def padF (bs : List UInt8) : List UInt8 := (bs ++ [128] ++ List.replicate (zc bs.length) 0) ++ lenBMm (of64 bs.length * 8) 8
theorem table (w : World) :
    Calls Tryz.prog 102 [].toArray w (Pur w (.agg (v32s rootsL).toArray)) := by
  refine enter (m := 2) (R := Mem w [] [] []) Tryz.func102 rfl rfl (Nat.le_of_ble_eq_true rfl) (Mem.start w) ?_
  refine wpc_seq <| wpc_region ?_
  refine wpl_t (t_alloc Tryz.ti139 (v32s (List.replicate 64 0)) (by rfl)) rfl ?_
  intro b0
  refine wpl_nil <| ex_then <| wpc_seq <| wpc_region <| wpl_q (q_buildFull (v32s rootsL) Tryz.underlying139 Tryz.ti139 Tryz.ti131 rfl rfl (v32s_one _) rfl) rfl ?_
  refine wpl_t0 (t_stA Tryz.ti139 rfl rfl ((v32s_length _).trans rfl) (v32s_one _) ((v32s_length _).trans rfl)) ?_
  intro _
  refine wpl_nil <| ex_then <| wpc_ret ?_
  refine retv1 (.inl rfl) rfl (rv_agg Tryz.underlying139 rfl Tryz.ti139 rfl (fun w h => h.cells_blk zz7) ((v32s_length _).trans rfl)) ?_
  exact fun w h => ⟨rfl, h.below⟩
theorem padded (bv : Value) (bs : List UInt8) (w : World) (hb : Seen w.cell? bv bs.length 1 (v8s bs)) (hl : bs.length ≤ 1000000000) :
    Calls Tryz.prog 103 [bv].toArray w (Gives w (fun v : Value => v) (fun v => [.row v (padF bs).length 5 1 (v8s (padF bs))]) (fun _ => [])) := by
  refine enter (m := 37) (R := Mem w [] [] []) Tryz.func103 rfl rfl (Nat.le_of_ble_eq_true rfl) (Mem.start w) ?_
  refine wpc_seq <| wpc_region <| wpl_q (q_pure rfl) rfl <| wpl_nil <| ex_then <| wpc_seq <| wpc_region ?_
  refine wpl_t (t_buildSlice0 Tryz.underlying49 Tryz.ti5) rfl ?_
  intro b6
  refine wpl_q (q_pure rfl) rfl ?_
  refine wpl_t (t_append Tryz.underlying49 Tryz.ti5 rfl zz22 rfl rfl (fun w h => h.seen_old hb) (v8s_one _) (by simp only [maxLen]; omega) zz16) rfl ?_
  intro b8
  refine wpl_q (q_pure rfl) rfl <| wpl_nil <| ex_then <| wpc_seq <| wpc_region <| wpl_q (q_pure rfl) rfl ?_
  refine wpl_t (t_buildSlice (v8s [128]) Tryz.underlying49 Tryz.ti5 rfl zz22 zz22 rfl rfl rfl) rfl ?_
  intro b10
  refine wpl_t (t_append Tryz.underlying49 Tryz.ti5 rfl zz22 rfl rfl (fun w h => h.seenV) (v8s_one _) (by simp only [maxLen]; omega) zz16) rfl ?_
  intro b11
  refine wpl_q (q_pure rfl) rfl <| wpl_nil <| ex_then <| wpc_seq <| wpc_block ?_
  refine wpc_loop (ι := { x : Nat × Value // x.1 ≤ zc bs.length }) (fun x => [(3, x.1.2), (0, bv)]) (fun x => Mem w [] [.row x.1.2 (bs.length + 1 + x.1.1) 5 1 (v8s (bs ++ [128] ++ List.replicate x.1.1 0))] []) (fun x => zc bs.length - x.1.1) ⟨(0, b11), Nat.zero_le _⟩ ?_ ?_ ?_
  · exact by repeat (first | exact trivial | refine ⟨rfl, ?_⟩)
  · exact fun w h => by
        have h2 := h.sub (.drop (.keep .nil)) .nil
        simpa [v8s] using h2
  · rintro ⟨⟨k, v⟩, hk⟩; dsimp only
    have hk : k ≤ zc bs.length := hk
    have hz : zc bs.length ≤ 63 := by unfold zc; omega
    refine wpc_fact (fun w h => h.seenV.form (v := v)) (fun hv => ?_)
    obtain ⟨a, cap, rfl, _⟩ := hv
    refine wpc_seq <| wpc_seq <| wpc_region <| wpl_q (q_pure rfl) rfl <| wpl_q (q_len Tryz.underlying49 rfl) rfl ?_
    refine wpl_q (qop_eq (q_rem rfl rfl zz22) (v := .int .i64 (((bs.length + 1 + k) % 64 : Nat) : Int)) rfl) rfl ?_
    refine wpl_q (q_pure rfl) rfl <| wpl_nil <| ex_then ?_
    refine wpc_cond rfl (fun hc15 => ?_) (fun hc15 => ?_)
    ·
      simp only [bne_iff_ne, ne_eq, decide_eq_true_eq] at hc15
      have hkz : k < zc bs.length := by unfold zc at hk ⊢; omega
      refine wpc_skip <| ex_then <| wpc_block <| wpc_region <| wpl_q (q_pure rfl) rfl ?_
      refine wpl_t (t_buildSlice (v8s [0]) Tryz.underlying49 Tryz.ti5 rfl zz22 zz22 rfl rfl rfl) rfl ?_
      intro b17
      refine wpl_t (t_append Tryz.underlying49 Tryz.ti5 rfl zz22 rfl rfl (fun w h => h.seenV) (v8s_one _) (by simp only [maxLen]; omega) zz16) rfl ?_
      intro b18
      refine wpl_q (q_pure rfl) rfl <| wpl_nil <| ex_block ?_
      refine ex_again ⟨(k + 1, b18), by show k + 1 ≤ zc bs.length; omega⟩ ?_ ?_ ?_
      · exact zz10
      · exact fun w h => by
                have h2 := h.sub (.drop (.keep .nil)) .nil
                have e : v8s (bs ++ [128] ++ List.replicate k 0) ++ v8s [0] = v8s (bs ++ [128] ++ List.replicate (k + 1) 0) := by rw [← v8s_append, List.append_assoc, ← List.replicate_succ']
                rw [e] at h2; exact h2
      · show zc bs.length - (k + 1) < zc bs.length - k; omega
    ·
      simp only [bne_eq_false_iff_eq, decide_eq_false_iff_not, ne_eq, Decidable.not_not] at hc15
      obtain rfl : k = zc bs.length := by unfold zc at hk ⊢; omega
      obtain ⟨abv, capbv, rfl, _⟩ := hb.form
      refine wpc_exit ?_
      refine ex_then_exit ?_
      refine ex_then_exit ?_
      refine ex_block_hit ?_
      refine ex_then <| wpc_seq <| wpc_region <| wpl_q (q_pure rfl) rfl <| wpl_q (q_len Tryz.underlying49 rfl) rfl <| wpl_q (q64_conv Tryz.underlying3 Tryz.underlying22 rfl) rfl ?_
      refine wpl_q (q64_mul (b := 8) rfl rfl) rfl ?_
      refine wpl_q (q_pure rfl) rfl <| wpl_nil <| ex_then <| wpc_seq <| wpc_seq <| wpc_region <| wpl_q (q_pure rfl) rfl <| wpl_nil <| ex_then <| wpc_block ?_
      refine wpc_loop (ι := { x : Nat × Value // x.1 ≤ 8 }) (fun x => [(5, .int .i64 (7 - (x.1.1 : Nat) : Int)), (4, .int .u64 (of64 bs.length * 8).toNat), (3, x.1.2)]) (fun x => Mem w [] [.row x.1.2 (bs.length + 1 + zc bs.length + x.1.1) 5 1 (v8s ((bs ++ [128] ++ List.replicate (zc bs.length) 0) ++ lenBMm (of64 bs.length * 8) x.1.1))] []) (fun x => 8 - x.1.1) ⟨(0, .slice a (bs.length + 1 + zc bs.length) cap), Nat.zero_le _⟩ ?_ ?_ ?_
      · exact by repeat (first | exact trivial | refine ⟨rfl, ?_⟩)
      · exact fun w h => by simpa [lenBMm] using h
      · rintro ⟨⟨j, v⟩, hj⟩; dsimp only
        have hj : j ≤ 8 := hj
        have hz8 : zc bs.length ≤ 63 := by unfold zc; omega
        refine wpc_seq <| wpc_seq <| wpc_region <| wpl_q (q_pure rfl) rfl <| wpl_q (q_pure rfl) rfl <| wpl_nil <| ex_then ?_
        refine wpc_cond rfl (fun hc24 => ?_) (fun hc24 => ?_)
        ·
          simp only [decide_eq_true_eq, ge_iff_le] at hc24
          refine wpc_skip <| ex_then <| wpc_seq <| wpc_block <| wpc_region <| wpl_q (q_pure rfl) rfl <| wpl_q (q_pure rfl) rfl <| wpl_q (q_pure rfl) rfl ?_
          first | refine wpl_q (qop_eq (q_pure rfl) (congrArg (Value.int .i64) (wk_i64 zz16 zz16))) rfl ?_ | refine wpl_q (q_pure rfl) rfl ?_
          refine wpl_q (q64_conv Tryz.underlying3 Tryz.underlying119 rfl) rfl ?_
          refine wpl_q (q64_shr rfl rfl zz16 (8 * (7 - j)) (by have := of64_toNat (8 * (7 - (j : Int))); omega)) rfl ?_
          refine wpl_q (q8_conv Tryz.underlying22 Tryz.underlying5 rfl) rfl ?_
          refine wpl_t (t_buildSlice (v8s [of8 (sr64 (of64 bs.length * 8) (8 * (7 - j))).toNat]) Tryz.underlying49 Tryz.ti5 rfl zz22 zz22 rfl rfl rfl) rfl ?_
          intro b34
          refine wpl_t (t_append Tryz.underlying49 Tryz.ti5 rfl zz22 rfl rfl (fun w h => h.seenV) (v8s_one _) (by simp only [maxLen]; omega) zz16) rfl ?_
          intro b35
          refine wpl_q (q_pure rfl) rfl <| wpl_nil <| ex_block <| ex_then <| wpc_region <| wpl_q (q_pure rfl) rfl ?_
          refine wpl_q (qop_eq (q_pure rfl) (v := .int .i64 (7 - ((j + 1 : Nat) : Int))) (congrArg (Value.int .i64) ((wk_i64 zz16 zz16).trans zz16))) rfl ?_
          refine wpl_q (q_pure rfl) rfl <| wpl_nil ?_
          refine ex_again ⟨(j + 1, b35), by show j + 1 ≤ 8; omega⟩ ?_ ?_ ?_
          · exact zz10
          · exact fun w h => by
                    have h2 := h.sub (.drop (.keep .nil)) .nil
                    have e : v8s ((bs ++ [128] ++ List.replicate (zc bs.length) 0) ++ lenBMm (of64 bs.length * 8) j) ++ v8s [of8 (sr64 (of64 bs.length * 8) (8 * (7 - j))).toNat] = v8s ((bs ++ [128] ++ List.replicate (zc bs.length) 0) ++ lenBMm (of64 bs.length * 8) (j + 1)) := by rw [← v8s_append, List.append_assoc]; rfl
                    rw [e] at h2; exact h2
          · show 8 - (j + 1) < 8 - j; omega
        ·
          simp only [decide_eq_false_iff_not, ge_iff_le] at hc24
          obtain rfl : j = 8 := by omega
          refine wpc_exit ?_
          refine ex_then_exit ?_
          refine ex_then_exit ?_
          refine ex_block_hit ?_
          refine ex_then <| wpc_seq <| wpc_region <| wpl_q (q_pure rfl) rfl <| wpl_q (q_pure rfl) rfl <| wpl_nil <| ex_then <| wpc_ret ?_
          refine ret1 (.inl rfl) rfl rfl ?_
          exact fun w h => ⟨v, rfl, h.below, by have h2 := h.made (N := [.row v (padF bs).length 5 1 (v8s (padF bs))]) (T := []) (by rw [show (padF bs).length = bs.length + 1 + zc bs.length + 8 by simp [padF, lenB_lengthMm]; omega]; exact Sub.refl _) .nil; exact h2⟩
end Go.Proofs.YtgnablliekgbgaaGreatDoor
namespace Go.Proofs.YtgnablliekgbgaaGreatDoor
open Go Go.PL Go.RowKit
def word4 (bs : List UInt8) (i : Nat) : Nat → UInt32
  | 0 => 0
  | j + 1 => word4 bs i j * 256 + of32 (bs.getD (4 * i + j) 0).toNat
theorem or_add (x y k : Nat) (h : y < 2 ^ k) : x * 2 ^ k ||| y = x * 2 ^ k + y := by rw [Nat.mul_comm, ← Nat.two_pow_add_eq_or_of_lt h]
theorem nat_split (a b c d : Nat) (hb : b < 256) (hc : c < 256) (hd : d < 256) : a * 16777216 ||| b * 65536 ||| c * 256 ||| d = ((a * 256 + b) * 256 + c) * 256 + d := by
  have h1 := or_add a (b * 65536) 24 zz16
  have h2 := or_add (a * 256 + b) (c * 256) 16 zz16
  have h3 := or_add ((a * 256 + b) * 256 + c) d 8 zz16
  have e1 : a * 16777216 ||| b * 65536 = (a * 256 + b) * 65536 := by
    have : a * 16777216 ||| b * 65536 = a * 16777216 + b * 65536 := h1
    rw [this]; omega
  have e2 : (a * 256 + b) * 65536 ||| c * 256 = ((a * 256 + b) * 256 + c) * 256 := by
    have : (a * 256 + b) * 65536 ||| c * 256 = (a * 256 + b) * 65536 + c * 256 := h2
    rw [this]; omega
  rw [e1, e2]; exact h3
theorem u32_split (a b c d : UInt8) : (((0 * 256 + of32 a.toNat) * 256 + of32 b.toNat) * 256 + of32 c.toNat) * 256 + of32 d.toNat =
    sl32 (of32 a.toNat) 24 ||| sl32 (of32 b.toNat) 16 ||| sl32 (of32 c.toNat) 8 ||| of32 d.toNat := by
  have e : ∀ x : UInt8, (of32 (x.toNat : Int)).toNat = x.toNat := fun x => by
    have := x.toNat_lt
    have h := of32_toNat (x.toNat : Int)
    omega
  have ha := a.toNat_lt; have hb := b.toNat_lt; have hc := c.toNat_lt; have hd := d.toNat_lt
  have hs : ∀ (x : UInt8) (k : Nat), k ≤ 24 → (sl32 (of32 x.toNat) k).toNat = x.toNat * 2 ^ k := fun x k hk => by
    have hx := x.toNat_lt
    unfold sl32
    rw [e, UInt32.toNat_ofNat']
    have h1 : 2 ^ k ≤ 2 ^ 24 := Nat.pow_le_pow_right zz16 hk
    have h2 : x.toNat * 2 ^ k ≤ 255 * 2 ^ 24 := Nat.mul_le_mul zz16 h1
    have hm : min k 32 = k := by omega
    rw [hm]
    exact Nat.mod_eq_of_lt zz16
  apply UInt32.toNat_inj.1
  simp only [UInt32.toNat_or, hs _ 24 zz16, hs _ 16 zz16, hs _ 8 zz16, UInt32.toNat_add, UInt32.toNat_mul, e]
  have := nat_split a.toNat b.toNat c.toNat d.toNat zz16 zz16 zz16
  have e2 : a.toNat * 2 ^ 24 ||| b.toNat * 2 ^ 16 ||| c.toNat * 2 ^ 8 ||| d.toNat = ((a.toNat * 256 + b.toNat) * 256 + c.toNat) * 256 + d.toNat := this
  rw [e2]
  have z : (0 : UInt32).toNat = 0 := rfl
  have z2 : (256 : UInt32).toNat = 256 := rfl
  rw [z, z2]
  omega
theorem word4_eq (bs : List UInt8) (i : Nat) : word4 bs i 4 = wordF bs i := u32_split _ _ _ _
theorem rotR_eq (x : UInt32) (k : Nat) (h1 : 1 ≤ k) (h2 : k ≤ 31) : rotR x k = rotlF x (-(k : Int)) := by
  have e : (of64 (-(k : Int)) &&& 31).toNat = 32 - k := by
    have h := of64_toNat (-(k : Int))
    have h3 : (of64 (-(k : Int))).toNat = 18446744073709551616 - k := by omega
    have h4 : (of64 (-(k : Int)) &&& 31).toNat = (of64 (-(k : Int))).toNat % 32 := by
      rw [UInt64.toNat_and]; exact Nat.and_two_pow_sub_one_eq_mod _ 5
    rw [h4, h3]; omega
  have e2 : (32 - (of64 (-(k : Int)) &&& 31)).toNat = k := by
    rw [UInt64.toNat_sub, e]; simp; omega
  unfold rotR rotlF
  rw [e, e2]
  simp only [Int.toNat_natCast]
  apply UInt32.eq_of_toBitVec_eq
  simp only [UInt32.toBitVec_or]
  rw [BitVec.or_comm]
theorem stF_set0 (bs : List UInt8) (i : Nat) (h : i < 64) : (stF bs i).set i 0 = stF bs i := by
  apply List.ext_getElem?
  intro j
  rw [List.getElem?_set]
  by_cases e : i = j
  · subst e
    rw [if_pos rfl, if_pos (by rw [stF_length _ _ zz16]; exact h)]
    simp only [stF]
    rw [List.getElem?_append_right (by rw [wsF_length]; omega), wsF_length, Nat.sub_self, List.getElem?_replicate, if_pos zz16]
  · rw [if_neg e]
theorem stF_word (bs : List UInt8) (i j : Nat) (h : i < 64) (b : UInt8) (hb : bs.getD (4 * i + j) 0 = b) : ((stF bs i).set i (word4 bs i j)).set i (((stF bs i).set i (word4 bs i j)).getD i 0 * 256 + of32 b.toNat) = (stF bs i).set i (word4 bs i (j + 1)) := by
  subst hb
  rw [List.set_set]
  have : ((stF bs i).set i (word4 bs i j)).getD i 0 = word4 bs i j := by
    rw [List.getD_eq_getElem?_getD, List.getElem?_set, if_pos rfl, if_pos (by rw [stF_length _ _ zz16]; exact h)]; rfl
  rw [this]; rfl
theorem stF_full (bs : List UInt8) : stF bs 64 = wsF bs 64 := by simp [stF]
def chF (all : List UInt8) (k : Nat) : List UInt8 := (all.drop (64 * k)).take 64
theorem chF_get (all : List UInt8) (k i : Nat) (h : i < 64) : (chF all k).getD i 0 = all.getD (64 * k + i) 0 := by
  simp only [chF, List.getD_eq_getElem?_getD]; rw [List.getElem?_take, if_pos h, List.getElem?_drop]
theorem chunks_take (all : List UInt8) (k : Nat) (h : k < all.length / 64) : (chunksF all).take (k + 1) = (chunksF all).take k ++ [chF all k] := by
  have hl : (chunksF all).length = all.length / 64 := by simp [chunksF]
  rw [List.take_add_one, List.getElem?_eq_getElem zz16]
  simp [chunksF, chF]
theorem stF2_snoc (l : List (List UInt8)) (x : List UInt8) : stF2 (l ++ [x]) = addF (stF2 l) x := by simp [stF2]
theorem eta8 (l : List UInt32) (h : l.length = 8) : [l.getD 0 0, l.getD 1 0, l.getD 2 0, l.getD 3 0, l.getD 4 0, l.getD 5 0, l.getD 6 0, l.getD 7 0] = l := by
  match l, h with
  | [a, b, c, d, e, f, g, i], _ => rfl
theorem outN_step (st : List UInt32) (i j : Nat) (hj : j < 4) : (outN st (4 * i + j)).set (4 * i + j) (of8 (sr32 (st.getD i 0) (24 - 8 * j)).toNat) = outN st (4 * i + j + 1) := by
  simp only [outN]
  rw [show (4 * i + j) / 4 = i from zz16, show (4 * i + j) % 4 = j from zz16]
theorem padF_length (bs : List UInt8) : (padF bs).length = 64 * ((bs.length + 72) / 64) := by
  simp [padF, lenB_lengthMm, zc]; omega
def sumF (bs : List UInt8) : List UInt8 := outN (stF2 (chunksF (padF bs))) 32
theorem sumF_length (bs : List UInt8) : (sumF bs).length = 32 := outN_length _ _
theorem rotateR (x : UInt32) (k : Nat) (w : World)  (h1 : 1 ≤ k) (h2 : k ≤ 31) :
    Calls Tryz.prog 104 [.int .u32 x.toNat, .int .i64 ((k : Nat) : Int)].toArray w (Pur w (.int .u32 (rotlF x (-(k : Int))).toNat)) := by
  refine enter (m := 15) (R := Mem w [] [] []) Tryz.func104 rfl rfl (Nat.le_of_ble_eq_true rfl) (Mem.start w) ?_
  refine wpc_seq <| wpc_region <| wpl_q (q_pure rfl) rfl <| wpl_nil <| ex_then <| wpc_seq <| wpc_region <| wpl_q (q_pure rfl) rfl <| wpl_q (q_pure rfl) rfl <| wpl_q (q64_conv Tryz.underlying3 Tryz.underlying119 rfl) rfl ?_
  refine wpl_q (q32_shrC rfl rfl zz16) rfl ?_
  refine wpl_q (q_pure rfl) rfl <| wpl_q (q_pure rfl) rfl ?_
  refine wpl_q (q_subN (a := 32) rfl rfl zz16 zz1) rfl ?_
  refine wpl_q (q64_conv Tryz.underlying3 Tryz.underlying119 rfl) rfl ?_
  refine wpl_q (q32_shlC rfl rfl zz16) rfl ?_
  refine wpl_q (q32_or rfl rfl) rfl <| wpl_q (q_pure rfl) rfl <| wpl_nil <| ex_then <| wpc_ret ?_
  refine ret1 (.inl rfl) rfl rfl ?_
  exact fun w h => ⟨by rw [← rotR_eq x k h1 h2]; rfl, h.below⟩
theorem refSum (bv : Value) (bs : List UInt8) (w : World) (hbv : Seen w.cell? bv bs.length 1 (v8s bs)) (hlb : bs.length ≤ 1000000000) :
    Calls Tryz.prog 92 [bv].toArray w (Pur w (.agg (v8s (sumF bs)).toArray)) := by
  have sbv := hbv.sv
  have lbv := sbv.le
  simp only [maxLen] at lbv
  refine enter (m := 245) (R := Mem w [] [] []) Tryz.func92 rfl rfl (Nat.le_of_ble_eq_true rfl) (Mem.start w) ?_
  refine wpc_seq <| wpc_region ?_
  refine wpl_t (t_alloc Tryz.ti121 (v8s (List.replicate 32 0)) (by rfl)) rfl (fun b2 => ?_)
  refine wpl_nil <| ex_then <| wpc_seq <| wpc_region ?_
  refine wpl_t (t_pur Tryz.hb102 rfl fun w h => table w) rfl (fun b31 => ?_)
  refine wpl_t (t_alloc Tryz.ti139 (v32s (List.replicate 64 0)) (by rfl)) rfl (fun b3 => ?_)
  refine wpl_t0 (t_stA Tryz.ti139 rfl rfl ((v32s_length _).trans rfl) (v32s_one _) ((v32s_length _).trans rfl)) (fun _ => ?_)
  refine wpl_nil <| ex_then <| wpc_seq <| wpc_region <| wpl_q (q_buildFull (v32s initS) Tryz.underlying132 Tryz.ti132 Tryz.ti131 rfl rfl (v32s_one _) rfl) rfl ?_
  refine wpl_t (t_alloc Tryz.ti132 (v32s (List.replicate 8 0)) (by rfl)) rfl (fun b4 => ?_)
  refine wpl_t0 (t_stA Tryz.ti132 rfl rfl ((v32s_length _).trans rfl) (v32s_one _) ((v32s_length _).trans rfl)) (fun _ => ?_)
  refine wpl_nil <| ex_then <| wpc_seq <| wpc_region <| wpl_q (q_pure rfl) rfl ?_
  refine wpl_tp (t_call1 Tryz.hb103 rfl fun w h => padded _ bs w (by first | exact h.seen_old hbv) zz16) rfl (fun b34 p34 => ?_)
  refine wpl_q (q_pure rfl) rfl <| wpl_nil <| ex_then <| wpc_seq <| wpc_seq <| wpc_region <| wpl_q (q_pure rfl) rfl <| wpl_nil <| ex_then <| wpc_block ?_
  refine wpc_loopc (ι := { x : Nat // (x ≤ (padF bs).length / 64) }) [(2, _), (3, _), (4, _), (5, _)] (fun x Lc => (6, .int .i64 ((64 * x.1 : Nat) : Int)) :: Lc) (fun x => Mem w [] [.row b34 (padF bs).length 5 1 (v8s (padF bs)), .blk b4 132 (v32s (stF2 ((chunksF (padF bs)).take x.1))), .blk b3 139 (v32s rootsL), .blk b2 121 (v8s (List.replicate 32 0))] []) (fun x => (padF bs).length / 64 - x.1) ⟨0, Nat.zero_le _⟩ zz10 ?_ ?_
  ·
   exact fun w h => h
  ·
   rintro ⟨k, hi0⟩; try dsimp only
   have hi0 : k ≤ (padF bs).length / 64 := hi0
   have hpl := padF_length bs
   have hs8 := stF2_length ((chunksF (padF bs)).take k)
   have hr64 := rootsL_length
   refine wpc_seq <| wpc_seq <| wpc_region <| wpl_q (q_pure rfl) rfl <| wpl_q (q_pure rfl) rfl ?_
   refine wpl_q (q_lenW Tryz.underlying49 rfl zz5) rfl ?_
   refine wpl_q (q_pure rfl) rfl <| wpl_nil <| ex_then ?_
   refine wpc_cond rfl (fun hc38 => ?_) (fun hc38 => ?_)
   ·
    simp only [decide_eq_true_eq] at hc38
    have hk : k < (padF bs).length / 64 := by omega
    refine wpc_skip <| ex_then <| wpc_seq <| wpc_block <| wpc_seq <| wpc_region ?_
    refine wpl_t (t_alloc Tryz.ti139 (v32s (List.replicate 64 0)) (by rfl)) rfl (fun b7 => ?_)
    refine wpl_nil <| ex_then <| wpc_seq <| wpc_seq <| wpc_region <| wpl_q (q_pure rfl) rfl <| wpl_nil <| ex_then <| wpc_block ?_
    refine wpc_loopc (ι := { x : Nat // (x ≤ 16) }) [(2, _), (3, _), (4, _), (5, _), (6, _), (7, _)] (fun x Lc => (8, .int .i64 ((x.1 : Nat) : Int)) :: Lc) (fun x => Mem w [] [.blk b7 139 (v32s (stF (chF (padF bs) k) x.1)), .row b34 (padF bs).length 5 1 (v8s (padF bs)), .blk b4 132 (v32s (stF2 ((chunksF (padF bs)).take k))), .blk b3 139 (v32s rootsL), .blk b2 121 (v8s (List.replicate 32 0))] []) (fun x => 16 - x.1) ⟨0, zz19⟩ zz10 ?_ ?_
    ·
     exact fun w h => h
    ·
     rintro ⟨i, hi0⟩; try dsimp only
     have hi0 : i ≤ 16 := hi0
     have hsl := stF_length (chF (padF bs) k) i zz16
     refine wpc_seq <| wpc_seq <| wpc_region <| wpl_q (q_pure rfl) rfl <| wpl_q (q_pure rfl) rfl <| wpl_nil <| ex_then ?_
     refine wpc_cond rfl (fun hc42 => ?_) (fun hc42 => ?_)
     ·
      try simp only [decide_eq_true_eq, decide_eq_false_iff_not, Bool.and_eq_true, Bool.or_eq_true, beq_iff_eq, bne_iff_ne, ne_eq, Bool.not_eq_true', Bool.not_eq_false', Decidable.not_not] at hc42
      refine wpc_skip <| ex_then <| wpc_seq <| wpc_block <| wpc_seq <| wpc_region <| wpl_q (q_pure rfl) rfl <| wpl_nil <| ex_then <| wpc_block ?_
      refine wpc_loopc (ι := { x : Nat // (x ≤ 4) }) [(2, _), (3, _), (4, _), (5, _), (6, _), (7, _), (8, _)] (fun x Lc => (9, .int .i64 ((x.1 : Nat) : Int)) :: Lc) (fun x => Mem w [] [.blk b7 139 (v32s ((stF (chF (padF bs) k) i).set i (word4 (chF (padF bs) k) i x.1))), .row b34 (padF bs).length 5 1 (v8s (padF bs)), .blk b4 132 (v32s (stF2 ((chunksF (padF bs)).take k))), .blk b3 139 (v32s rootsL), .blk b2 121 (v8s (List.replicate 32 0))] []) (fun x => 4 - x.1) ⟨0, zz19⟩ zz10 ?_ ?_
      ·
       exact fun w h => by rw [show word4 (chF (padF bs) k) i 0 = 0 from rfl, stF_set0 _ _ zz16]; exact h
      ·
       rintro ⟨j, hi0⟩; try dsimp only
       have hi0 : j ≤ 4 := hi0
       have hsl2 : ((stF (chF (padF bs) k) i).set i (word4 (chF (padF bs) k) i j)).length = 64 := by rw [List.length_set]; exact hsl
       refine wpc_seq <| wpc_seq <| wpc_region <| wpl_q (q_pure rfl) rfl <| wpl_q (q_pure rfl) rfl <| wpl_nil <| ex_then ?_
       refine wpc_cond rfl (fun hc46 => ?_) (fun hc46 => ?_)
       ·
        try simp only [decide_eq_true_eq, decide_eq_false_iff_not, Bool.and_eq_true, Bool.or_eq_true, beq_iff_eq, bne_iff_ne, ne_eq, Bool.not_eq_true', Bool.not_eq_false', Decidable.not_not] at hc46
        refine wpc_skip <| ex_then <| wpc_seq <| wpc_block ?_
        refine wpc_draw 17 zz8 (fun _ h => h.drew) ?_
        refine wpd_p 0 rfl zz8 trivial (q_pure rfl) rfl sk0 ?_
        refine wpd_p 1 rfl zz8 trivial (q_pure rfl) rfl sk0 ?_
        refine wpd_p 2 rfl zz8 trivial (q_idxA1 Tryz.underlying139 Tryz.ti131 rfl rfl zz16) rfl sk0 ?_
        refine wpd_q 3 rfl zz8 trivial (q_ld Tryz.underlying131 rfl rfl zz32) rfl (fun _ h => h) ?_
        refine wpd_p 4 rfl zz8 trivial (q32_mul (b := (256 : UInt32)) rfl rfl) rfl sk0 ?_
        refine wpd_p 5 rfl zz8 trivial (q_pure rfl) rfl sk0 ?_
        refine wpd_p 6 rfl zz8 trivial (q_pure rfl) rfl sk0 ?_
        refine wpd_p 7 rfl zz8 trivial (q_pure rfl) rfl sk0 ?_
        refine wpd_p 8 rfl zz8 trivial (q_mulN (a := 4) rfl rfl zz1) rfl sk0 ?_
        refine wpd_p 9 rfl zz8 trivial (q_addN rfl rfl zz1) rfl sk0 ?_
        refine wpd_p 10 rfl zz8 trivial (q_pure rfl) rfl sk0 ?_
        refine wpd_p 11 rfl zz8 trivial (q_addN rfl rfl zz1) rfl sk0 ?_
        refine wpd_p 12 rfl zz8 trivial (q_idxW1 Tryz.underlying49 Tryz.ti5 rfl rfl zz5 zz1) rfl sk0 ?_
        refine wpd_q 13 rfl zz8 trivial (q_ldW Tryz.underlying5 rfl rfl (fun w h => zz12) zz38) rfl (fun _ h => h) ?_
        refine wpd_p 14 rfl zz8 trivial (q32_conv Tryz.underlying5 Tryz.underlying131 rfl) rfl sk0 ?_
        refine wpd_p 15 rfl zz8 trivial (q32_add rfl rfl) rfl sk0 ?_
        refine wpd_p 16 rfl zz8 trivial (q_idxA1 Tryz.underlying139 Tryz.ti131 rfl rfl zz16) rfl sk0 ?_
        refine wpd_t0 17 rfl zz8 trivial (t_st1 Tryz.ti131 rfl rfl rfl zz4 _ (by first | exact v32s_set _ | rfl)) (fun _ => skk rfl) (fun _ => ?_)
        refine wpd_done zz8 ?_
        refine ex_block <| ex_then <| wpc_region <| wpl_q (q_pure rfl) rfl ?_
        refine wpl_q (q_addN (b := 1) rfl rfl zz1) rfl ?_
        refine wpl_q (q_pure rfl) rfl <| wpl_nil ?_
        refine ex_again ⟨j + 1, zz19⟩ ?_ ?_ ?_
        ·
         exact zz10
        ·
         exact fun w h => by
           have e := stF_word (chF (padF bs) k) i j zz16 ((padF bs).getD (64 * k + 4 * i + j) 0) (by rw [chF_get _ _ _ zz16, Nat.add_assoc])
           rw [e] at h; exact h
        ·
         (show 4 - (j + 1) < 4 - j); omega
       ·
        simp only [decide_eq_false_iff_not] at hc46
        obtain rfl : j = 4 := by omega
        refine wpc_exit ?_
        refine ex_then_exit ?_
        refine ex_then_exit ?_
        refine ex_block_hit ?_
        refine ex_block <| ex_then <| wpc_region <| wpl_q (q_pure rfl) rfl ?_
        refine wpl_q (q_addN (b := 1) rfl rfl zz1) rfl ?_
        refine wpl_q (q_pure rfl) rfl <| wpl_nil ?_
        refine ex_again ⟨i + 1, zz19⟩ ?_ ?_ ?_
        ·
         exact zz10
        ·
         exact fun w h => by
           have e : (stF (chF (padF bs) k) i).set i (word4 (chF (padF bs) k) i 4) = stF (chF (padF bs) k) (i + 1) := stF_set _ _ zz16 _ (by rw [if_pos zz16, word4_eq])
           rw [e] at h; exact h
        ·
         (show 16 - (i + 1) < 16 - i); omega
     ·
      simp only [decide_eq_false_iff_not] at hc42
      obtain rfl : i = 16 := by omega
      refine wpc_exit ?_
      refine ex_then_exit ?_
      refine ex_then_exit ?_
      refine ex_block_hit ?_
      refine ex_then <| wpc_seq <| wpc_seq <| wpc_region <| wpl_q (q_pure rfl) rfl <| wpl_nil <| ex_then <| wpc_block ?_
      refine wpc_loopc (ι := { x : Nat // (x ≤ 64) ∧ (16 ≤ x) }) [(2, _), (3, _), (4, _), (5, _), (6, _), (7, _)] (fun x Lc => (10, .int .i64 ((x.1 : Nat) : Int)) :: Lc) (fun x => Mem w [] [.blk b7 139 (v32s (stF (chF (padF bs) k) x.1)), .row b34 (padF bs).length 5 1 (v8s (padF bs)), .blk b4 132 (v32s (stF2 ((chunksF (padF bs)).take k))), .blk b3 139 (v32s rootsL), .blk b2 121 (v8s (List.replicate 32 0))] []) (fun x => 64 - x.1) ⟨16, (by first | exact ⟨zz40, zz40⟩)⟩ zz10 ?_ ?_
      ·
       exact fun w h => h
      ·
       rintro ⟨i, ⟨hi0, hi1⟩⟩; try dsimp only
       have hi0 : i ≤ 64 := hi0; have hi1 : 16 ≤ i := hi1
       have hsl := stF_length (chF (padF bs) k) i zz16
       refine wpc_seq <| wpc_seq <| wpc_region <| wpl_q (q_pure rfl) rfl <| wpl_q (q_pure rfl) rfl <| wpl_nil <| ex_then ?_
       refine wpc_cond rfl (fun hc67 => ?_) (fun hc67 => ?_)
       ·
        try simp only [decide_eq_true_eq, decide_eq_false_iff_not, Bool.and_eq_true, Bool.or_eq_true, beq_iff_eq, bne_iff_ne, ne_eq, Bool.not_eq_true', Bool.not_eq_false', Decidable.not_not] at hc67
        refine wpc_skip <| ex_then <| wpc_seq <| wpc_block <| wpc_seq ?_
        refine wpc_draw 18 zz8 (fun _ h => h.drew) ?_
        refine wpd_p 0 rfl zz8 trivial (q_pure rfl) rfl sk0 ?_
        refine wpd_p 1 rfl zz8 trivial (q_subN (b := 15) rfl rfl zz16 zz1) rfl sk0 ?_
        refine wpd_p 2 rfl zz8 trivial (q_idxA1 Tryz.underlying139 Tryz.ti131 rfl rfl zz16) rfl sk0 ?_
        refine wpd_q 3 rfl zz8 trivial (q_ld Tryz.underlying131 rfl rfl zz32) rfl (fun _ h => h) ?_
        refine wpd_p 5 rfl zz8 trivial (q_pure rfl) rfl sk0 ?_
        refine wpd_p 6 rfl zz8 trivial (q_subN (b := 15) rfl rfl zz16 zz1) rfl sk0 ?_
        refine wpd_p 7 rfl zz8 trivial (q_idxA1 Tryz.underlying139 Tryz.ti131 rfl rfl zz16) rfl sk0 ?_
        refine wpd_q 8 rfl zz8 trivial (q_ld Tryz.underlying131 rfl rfl zz32) rfl (fun _ h => h) ?_
        refine wpd_p 11 rfl zz8 trivial (q_pure rfl) rfl sk0 ?_
        refine wpd_p 12 rfl zz8 trivial (q_subN (b := 15) rfl rfl zz16 zz1) rfl sk0 ?_
        refine wpd_p 13 rfl zz8 trivial (q_idxA1 Tryz.underlying139 Tryz.ti131 rfl rfl zz16) rfl sk0 ?_
        refine wpd_q 14 rfl zz8 trivial (q_ld Tryz.underlying131 rfl rfl zz32) rfl (fun _ h => h) ?_
        refine wpd_p 15 rfl zz8 trivial (q32_shr rfl rfl zz26 3 rfl) rfl sk0 ?_
        refine wpd_t 4 rfl zz8 trivial (t_pur Tryz.hb104 rfl fun w h => rotateR _ _ w zz22 zz22) rfl (fun _ => sk0) (fun b74 => ?_)
        refine wpd_t 9 rfl zz8 trivial (t_pur Tryz.hb104 rfl fun w h => rotateR _ _ w zz22 zz22) rfl (fun _ => sk0) (fun b79 => ?_)
        refine wpd_p 10 rfl zz8 trivial (q32_xor rfl rfl) rfl sk0 ?_
        refine wpd_p 16 rfl zz8 trivial (q32_xor rfl rfl) rfl sk0 ?_
        refine wpd_p 17 rfl zz8 trivial (q_pure rfl) rfl sk0 ?_
        refine wpd_done zz8 ?_
        refine ex_then <| wpc_seq ?_
        refine wpc_draw 18 zz8 (fun _ h => h.drew) ?_
        refine wpd_p 0 rfl zz8 trivial (q_pure rfl) rfl sk0 ?_
        refine wpd_p 1 rfl zz8 trivial (q_subN (b := 2) rfl rfl zz16 zz1) rfl sk0 ?_
        refine wpd_p 2 rfl zz8 trivial (q_idxA1 Tryz.underlying139 Tryz.ti131 rfl rfl zz16) rfl sk0 ?_
        refine wpd_q 3 rfl zz8 trivial (q_ld Tryz.underlying131 rfl rfl zz32) rfl (fun _ h => h) ?_
        refine wpd_p 5 rfl zz8 trivial (q_pure rfl) rfl sk0 ?_
        refine wpd_p 6 rfl zz8 trivial (q_subN (b := 2) rfl rfl zz16 zz1) rfl sk0 ?_
        refine wpd_p 7 rfl zz8 trivial (q_idxA1 Tryz.underlying139 Tryz.ti131 rfl rfl zz16) rfl sk0 ?_
        refine wpd_q 8 rfl zz8 trivial (q_ld Tryz.underlying131 rfl rfl zz32) rfl (fun _ h => h) ?_
        refine wpd_p 11 rfl zz8 trivial (q_pure rfl) rfl sk0 ?_
        refine wpd_p 12 rfl zz8 trivial (q_subN (b := 2) rfl rfl zz16 zz1) rfl sk0 ?_
        refine wpd_p 13 rfl zz8 trivial (q_idxA1 Tryz.underlying139 Tryz.ti131 rfl rfl zz16) rfl sk0 ?_
        refine wpd_q 14 rfl zz8 trivial (q_ld Tryz.underlying131 rfl rfl zz32) rfl (fun _ h => h) ?_
        refine wpd_p 15 rfl zz8 trivial (q32_shr rfl rfl zz26 10 rfl) rfl sk0 ?_
        refine wpd_t 4 rfl zz8 trivial (t_pur Tryz.hb104 rfl fun w h => rotateR _ _ w zz22 zz22) rfl (fun _ => sk0) (fun b91 => ?_)
        refine wpd_t 9 rfl zz8 trivial (t_pur Tryz.hb104 rfl fun w h => rotateR _ _ w zz22 zz22) rfl (fun _ => sk0) (fun b96 => ?_)
        refine wpd_p 10 rfl zz8 trivial (q32_xor rfl rfl) rfl sk0 ?_
        refine wpd_p 16 rfl zz8 trivial (q32_xor rfl rfl) rfl sk0 ?_
        refine wpd_p 17 rfl zz8 trivial (q_pure rfl) rfl sk0 ?_
        refine wpd_done zz8 ?_
        refine ex_then ?_
        refine wpc_draw 15 zz8 (fun _ h => h.drew) ?_
        refine wpd_p 0 rfl zz8 trivial (q_pure rfl) rfl sk0 ?_
        refine wpd_p 1 rfl zz8 trivial (q_pure rfl) rfl sk0 ?_
        refine wpd_p 2 rfl zz8 trivial (q_pure rfl) rfl sk0 ?_
        refine wpd_p 3 rfl zz8 trivial (q_subN (b := 7) rfl rfl zz16 zz1) rfl sk0 ?_
        refine wpd_p 4 rfl zz8 trivial (q_idxA1 Tryz.underlying139 Tryz.ti131 rfl rfl zz16) rfl sk0 ?_
        refine wpd_q 5 rfl zz8 trivial (q_ld Tryz.underlying131 rfl rfl zz32) rfl (fun _ h => h) ?_
        refine wpd_p 6 rfl zz8 trivial (q32_add rfl rfl) rfl sk0 ?_
        refine wpd_p 7 rfl zz8 trivial (q_pure rfl) rfl sk0 ?_
        refine wpd_p 8 rfl zz8 trivial (q32_add rfl rfl) rfl sk0 ?_
        refine wpd_p 9 rfl zz8 trivial (q_pure rfl) rfl sk0 ?_
        refine wpd_p 10 rfl zz8 trivial (q_subN (b := 16) rfl rfl zz16 zz1) rfl sk0 ?_
        refine wpd_p 11 rfl zz8 trivial (q_idxA1 Tryz.underlying139 Tryz.ti131 rfl rfl zz16) rfl sk0 ?_
        refine wpd_q 12 rfl zz8 trivial (q_ld Tryz.underlying131 rfl rfl zz32) rfl (fun _ h => h) ?_
        refine wpd_p 13 rfl zz8 trivial (q32_add rfl rfl) rfl sk0 ?_
        refine wpd_p 14 rfl zz8 trivial (q_idxA1 Tryz.underlying139 Tryz.ti131 rfl rfl zz16) rfl sk0 ?_
        refine wpd_t0 15 rfl zz8 trivial (t_st1 Tryz.ti131 rfl rfl rfl zz4 _ (by first | exact v32s_set _ | rfl)) (fun _ => skk rfl) (fun _ => ?_)
        refine wpd_done zz8 ?_
        refine ex_block <| ex_then <| wpc_region <| wpl_q (q_pure rfl) rfl ?_
        refine wpl_q (q_addN (b := 1) rfl rfl zz1) rfl ?_
        refine wpl_q (q_pure rfl) rfl <| wpl_nil ?_
        refine ex_again ⟨i + 1, (by first | exact ⟨zz40, zz40⟩)⟩ ?_ ?_ ?_
        ·
         exact zz10
        ·
         exact fun w h => by
           have e := stF_set (chF (padF bs) k) i zz16 _ ((mix_st (chF (padF bs) k) i zz16).trans (by rw [if_neg zz16]))
           rw [← e]; exact h
        ·
         (show 64 - (i + 1) < 64 - i); omega
       ·
        simp only [decide_eq_false_iff_not] at hc67
        obtain rfl : i = 64 := by omega
        refine wpc_exit ?_
        refine ex_then_exit ?_
        refine ex_then_exit ?_
        refine ex_block_hit ?_
        refine ex_then <| wpc_seq ?_
        refine wpc_draw 24 zz8 (fun _ h => h.drew) ?_
        refine wpd_p 0 rfl zz8 trivial (q_idxA1 (j := 0) Tryz.underlying132 Tryz.ti131 rfl rfl zz16) rfl sk0 ?_
        refine wpd_q 1 rfl zz8 trivial (q_ld Tryz.underlying131 rfl rfl zz32) rfl (fun _ h => h) ?_
        refine wpd_p 2 rfl zz8 trivial (q_idxA1 (j := 1) Tryz.underlying132 Tryz.ti131 rfl rfl zz16) rfl sk0 ?_
        refine wpd_q 3 rfl zz8 trivial (q_ld Tryz.underlying131 rfl rfl zz32) rfl (fun _ h => h) ?_
        refine wpd_p 4 rfl zz8 trivial (q_idxA1 (j := 2) Tryz.underlying132 Tryz.ti131 rfl rfl zz16) rfl sk0 ?_
        refine wpd_q 5 rfl zz8 trivial (q_ld Tryz.underlying131 rfl rfl zz32) rfl (fun _ h => h) ?_
        refine wpd_p 6 rfl zz8 trivial (q_idxA1 (j := 3) Tryz.underlying132 Tryz.ti131 rfl rfl zz16) rfl sk0 ?_
        refine wpd_q 7 rfl zz8 trivial (q_ld Tryz.underlying131 rfl rfl zz32) rfl (fun _ h => h) ?_
        refine wpd_p 8 rfl zz8 trivial (q_idxA1 (j := 4) Tryz.underlying132 Tryz.ti131 rfl rfl zz16) rfl sk0 ?_
        refine wpd_q 9 rfl zz8 trivial (q_ld Tryz.underlying131 rfl rfl zz32) rfl (fun _ h => h) ?_
        refine wpd_p 10 rfl zz8 trivial (q_idxA1 (j := 5) Tryz.underlying132 Tryz.ti131 rfl rfl zz16) rfl sk0 ?_
        refine wpd_q 11 rfl zz8 trivial (q_ld Tryz.underlying131 rfl rfl zz32) rfl (fun _ h => h) ?_
        refine wpd_p 12 rfl zz8 trivial (q_idxA1 (j := 6) Tryz.underlying132 Tryz.ti131 rfl rfl zz16) rfl sk0 ?_
        refine wpd_q 13 rfl zz8 trivial (q_ld Tryz.underlying131 rfl rfl zz32) rfl (fun _ h => h) ?_
        refine wpd_p 14 rfl zz8 trivial (q_idxA1 (j := 7) Tryz.underlying132 Tryz.ti131 rfl rfl zz16) rfl sk0 ?_
        refine wpd_q 15 rfl zz8 trivial (q_ld Tryz.underlying131 rfl rfl zz32) rfl (fun _ h => h) ?_
        refine wpd_p 16 rfl zz8 trivial (q_pure rfl) rfl sk0 ?_
        refine wpd_p 17 rfl zz8 trivial (q_pure rfl) rfl sk0 ?_
        refine wpd_p 18 rfl zz8 trivial (q_pure rfl) rfl sk0 ?_
        refine wpd_p 19 rfl zz8 trivial (q_pure rfl) rfl sk0 ?_
        refine wpd_p 20 rfl zz8 trivial (q_pure rfl) rfl sk0 ?_
        refine wpd_p 21 rfl zz8 trivial (q_pure rfl) rfl sk0 ?_
        refine wpd_p 22 rfl zz8 trivial (q_pure rfl) rfl sk0 ?_
        refine wpd_p 23 rfl zz8 trivial (q_pure rfl) rfl sk0 ?_
        refine wpd_done zz8 ?_
        refine ex_then <| wpc_seq <| wpc_seq <| wpc_region <| wpl_q (q_pure rfl) rfl <| wpl_nil <| ex_then <| wpc_block ?_
        refine wpc_loopc (ι := { x : Nat // (x ≤ 64) }) [(2, _), (3, _), (4, _), (5, _), (6, _), (7, _)] (fun x Lc => (21, .int .i64 ((x.1 : Nat) : Int)) :: (13, .int .u32 (((roundsF (wsF (chF (padF bs) k) 64) (stF2 ((chunksF (padF bs)).take k)) x.1).getD 0 0).toNat : Int)) :: (14, .int .u32 (((roundsF (wsF (chF (padF bs) k) 64) (stF2 ((chunksF (padF bs)).take k)) x.1).getD 1 0).toNat : Int)) :: (15, .int .u32 (((roundsF (wsF (chF (padF bs) k) 64) (stF2 ((chunksF (padF bs)).take k)) x.1).getD 2 0).toNat : Int)) :: (16, .int .u32 (((roundsF (wsF (chF (padF bs) k) 64) (stF2 ((chunksF (padF bs)).take k)) x.1).getD 3 0).toNat : Int)) :: (17, .int .u32 (((roundsF (wsF (chF (padF bs) k) 64) (stF2 ((chunksF (padF bs)).take k)) x.1).getD 4 0).toNat : Int)) :: (18, .int .u32 (((roundsF (wsF (chF (padF bs) k) 64) (stF2 ((chunksF (padF bs)).take k)) x.1).getD 5 0).toNat : Int)) :: (19, .int .u32 (((roundsF (wsF (chF (padF bs) k) 64) (stF2 ((chunksF (padF bs)).take k)) x.1).getD 6 0).toNat : Int)) :: (20, .int .u32 (((roundsF (wsF (chF (padF bs) k) 64) (stF2 ((chunksF (padF bs)).take k)) x.1).getD 7 0).toNat : Int)) :: Lc) (fun x => Mem w [] [.blk b7 139 (v32s (wsF (chF (padF bs) k) 64)), .row b34 (padF bs).length 5 1 (v8s (padF bs)), .blk b4 132 (v32s (stF2 ((chunksF (padF bs)).take k))), .blk b3 139 (v32s rootsL), .blk b2 121 (v8s (List.replicate 32 0))] []) (fun x => 64 - x.1) ⟨0, zz19⟩ zz10 ?_ ?_
        ·
         exact fun w h => by rw [← stF_full]; exact h
        ·
         rintro ⟨i, hi0⟩; try dsimp only
         have hi0 : i ≤ 64 := hi0
         have hwl := wsF_length (chF (padF bs) k) 64
         refine wpc_seq <| wpc_seq <| wpc_region <| wpl_q (q_pure rfl) rfl <| wpl_q (q_pure rfl) rfl <| wpl_nil <| ex_then ?_
         refine wpc_cond rfl (fun hc136 => ?_) (fun hc136 => ?_)
         ·
          try simp only [decide_eq_true_eq, decide_eq_false_iff_not, Bool.and_eq_true, Bool.or_eq_true, beq_iff_eq, bne_iff_ne, ne_eq, Bool.not_eq_true', Bool.not_eq_false', Decidable.not_not] at hc136
          refine wpc_skip <| ex_then <| wpc_seq <| wpc_block <| wpc_seq <| wpc_region <| wpl_q (q_pure rfl) rfl ?_
          refine wpl_t (t_pur Tryz.hb104 rfl fun w h => rotateR _ _ w zz22 zz22) rfl (fun b140 => ?_)
          refine wpl_q (q_pure rfl) rfl ?_
          refine wpl_t (t_pur Tryz.hb104 rfl fun w h => rotateR _ _ w zz22 zz22) rfl (fun b142 => ?_)
          refine wpl_q (q32_xor rfl rfl) rfl <| wpl_q (q_pure rfl) rfl ?_
          refine wpl_t (t_pur Tryz.hb104 rfl fun w h => rotateR _ _ w zz22 zz22) rfl (fun b145 => ?_)
          refine wpl_q (q32_xor rfl rfl) rfl <| wpl_q (q_pure rfl) rfl <| wpl_nil <| ex_then <| wpc_seq <| wpc_region <| wpl_q (q_pure rfl) rfl ?_
          refine wpl_t (t_pur Tryz.hb104 rfl fun w h => rotateR _ _ w zz22 zz22) rfl (fun b148 => ?_)
          refine wpl_q (q_pure rfl) rfl ?_
          refine wpl_t (t_pur Tryz.hb104 rfl fun w h => rotateR _ _ w zz22 zz22) rfl (fun b150 => ?_)
          refine wpl_q (q32_xor rfl rfl) rfl <| wpl_q (q_pure rfl) rfl ?_
          refine wpl_t (t_pur Tryz.hb104 rfl fun w h => rotateR _ _ w zz22 zz22) rfl (fun b153 => ?_)
          refine wpl_q (q32_xor rfl rfl) rfl <| wpl_q (q_pure rfl) rfl <| wpl_nil <| ex_then <| wpc_seq ?_
          refine wpc_draw 21 zz8 (fun _ h => h.drew) ?_
          refine wpd_p 0 rfl zz8 trivial (q_pure rfl) rfl sk0 ?_
          refine wpd_p 1 rfl zz8 trivial (q_pure rfl) rfl sk0 ?_
          refine wpd_p 2 rfl zz8 trivial (q32_add rfl rfl) rfl sk0 ?_
          refine wpd_p 3 rfl zz8 trivial (q_pure rfl) rfl sk0 ?_
          refine wpd_p 4 rfl zz8 trivial (q_pure rfl) rfl sk0 ?_
          refine wpd_p 5 rfl zz8 trivial (q32_and rfl rfl) rfl sk0 ?_
          refine wpd_p 6 rfl zz8 trivial (q_pure rfl) rfl sk0 ?_
          refine wpd_p 7 rfl zz8 trivial (q32_not rfl) rfl sk0 ?_
          refine wpd_p 8 rfl zz8 trivial (q_pure rfl) rfl sk0 ?_
          refine wpd_p 9 rfl zz8 trivial (q32_and rfl rfl) rfl sk0 ?_
          refine wpd_p 10 rfl zz8 trivial (q32_xor rfl rfl) rfl sk0 ?_
          refine wpd_p 11 rfl zz8 trivial (q32_add rfl rfl) rfl sk0 ?_
          refine wpd_p 12 rfl zz8 trivial (q_pure rfl) rfl sk0 ?_
          refine wpd_p 13 rfl zz8 trivial (q_idxA1 Tryz.underlying139 Tryz.ti131 rfl rfl zz16) rfl sk0 ?_
          refine wpd_q 14 rfl zz8 trivial (q_ld Tryz.underlying131 rfl rfl zz32) rfl (fun _ h => h) ?_
          refine wpd_p 15 rfl zz8 trivial (q32_add rfl rfl) rfl sk0 ?_
          refine wpd_p 16 rfl zz8 trivial (q_pure rfl) rfl sk0 ?_
          refine wpd_p 17 rfl zz8 trivial (q_idxA1 Tryz.underlying139 Tryz.ti131 rfl rfl zz16) rfl sk0 ?_
          refine wpd_q 18 rfl zz8 trivial (q_ld Tryz.underlying131 rfl rfl zz32) rfl (fun _ h => h) ?_
          refine wpd_p 19 rfl zz8 trivial (q32_add rfl rfl) rfl sk0 ?_
          refine wpd_p 20 rfl zz8 trivial (q_pure rfl) rfl sk0 ?_
          refine wpd_done zz8 ?_
          refine ex_then <| wpc_seq <| wpc_region <| wpl_q (q_pure rfl) rfl <| wpl_q (q_pure rfl) rfl <| wpl_q (q_pure rfl) rfl <| wpl_q (q32_and rfl rfl) rfl <| wpl_q (q_pure rfl) rfl <| wpl_q (q_pure rfl) rfl <| wpl_q (q32_and rfl rfl) rfl <| wpl_q (q32_xor rfl rfl) rfl <| wpl_q (q_pure rfl) rfl ?_
          refine wpl_q (q_pure rfl) rfl <| wpl_q (q32_and rfl rfl) rfl <| wpl_q (q32_xor rfl rfl) rfl <| wpl_q (q32_add rfl rfl) rfl <| wpl_q (q_pure rfl) rfl <| wpl_nil <| ex_then <| wpc_seq <| wpc_region <| wpl_q (q_pure rfl) rfl <| wpl_q (q_pure rfl) rfl <| wpl_nil ?_
          refine ex_then <| wpc_seq <| wpc_region <| wpl_q (q_pure rfl) rfl <| wpl_q (q_pure rfl) rfl <| wpl_nil <| ex_then <| wpc_seq <| wpc_region <| wpl_q (q_pure rfl) rfl <| wpl_q (q_pure rfl) rfl <| wpl_nil ?_
          refine ex_then <| wpc_seq <| wpc_region <| wpl_q (q_pure rfl) rfl <| wpl_q (q_pure rfl) rfl <| wpl_q (q32_add rfl rfl) rfl <| wpl_q (q_pure rfl) rfl <| wpl_nil <| ex_then <| wpc_seq <| wpc_region <| wpl_q (q_pure rfl) rfl ?_
          refine wpl_q (q_pure rfl) rfl <| wpl_nil <| ex_then <| wpc_seq <| wpc_region <| wpl_q (q_pure rfl) rfl <| wpl_q (q_pure rfl) rfl <| wpl_nil <| ex_then <| wpc_seq <| wpc_region <| wpl_q (q_pure rfl) rfl ?_
          refine wpl_q (q_pure rfl) rfl <| wpl_nil <| ex_then <| wpc_region <| wpl_q (q_pure rfl) rfl <| wpl_q (q_pure rfl) rfl <| wpl_q (q32_add rfl rfl) rfl <| wpl_q (q_pure rfl) rfl <| wpl_nil <| ex_block <| ex_then <| wpc_region ?_
          refine wpl_q (q_pure rfl) rfl ?_
          refine wpl_q (q_addN (b := 1) rfl rfl zz1) rfl ?_
          refine wpl_q (q_pure rfl) rfl <| wpl_nil ?_
          refine ex_again ⟨i + 1, zz19⟩ ?_ ?_ ?_
          ·
           exact zz10
          ·
           exact fun w h => by first | exact h | exact h.sub SubC.h SubC.h | exact h.sub zz6 zz6
          ·
           (show 64 - (i + 1) < 64 - i); omega
         ·
          simp only [decide_eq_false_iff_not] at hc136
          obtain rfl : i = 64 := by omega
          refine wpc_exit ?_
          refine ex_then_exit ?_
          refine ex_then_exit ?_
          refine ex_block_hit ?_
          refine ex_then <| wpc_seq <| wpc_region <| wpl_q (q_pure rfl) rfl <| wpl_q (q_pure rfl) rfl <| wpl_q (q_pure rfl) rfl <| wpl_q (q_pure rfl) rfl <| wpl_q (q_pure rfl) rfl <| wpl_q (q_pure rfl) rfl <| wpl_q (q_pure rfl) rfl <| wpl_q (q_pure rfl) rfl <| wpl_q (q_buildFull (v32s [(roundsF (wsF (chF (padF bs) k) 64) (stF2 ((chunksF (padF bs)).take k)) 64).getD 0 0, (roundsF (wsF (chF (padF bs) k) 64) (stF2 ((chunksF (padF bs)).take k)) 64).getD 1 0, (roundsF (wsF (chF (padF bs) k) 64) (stF2 ((chunksF (padF bs)).take k)) 64).getD 2 0, (roundsF (wsF (chF (padF bs) k) 64) (stF2 ((chunksF (padF bs)).take k)) 64).getD 3 0, (roundsF (wsF (chF (padF bs) k) 64) (stF2 ((chunksF (padF bs)).take k)) 64).getD 4 0, (roundsF (wsF (chF (padF bs) k) 64) (stF2 ((chunksF (padF bs)).take k)) 64).getD 5 0, (roundsF (wsF (chF (padF bs) k) 64) (stF2 ((chunksF (padF bs)).take k)) 64).getD 6 0, (roundsF (wsF (chF (padF bs) k) 64) (stF2 ((chunksF (padF bs)).take k)) 64).getD 7 0]) Tryz.underlying132 Tryz.ti132 Tryz.ti131 rfl rfl (v32s_one _) rfl) rfl ?_
          refine wpl_t (t_alloc Tryz.ti132 (v32s (List.replicate 8 0)) (by rfl)) rfl (fun b26 => ?_)
          refine wpl_t0 (t_stA Tryz.ti132 rfl rfl ((v32s_length _).trans rfl) (v32s_one _) ((v32s_length _).trans rfl)) (fun _ => ?_)
          refine wpl_nil <| ex_then <| wpc_seq <| wpc_region <| wpl_q (q_pure rfl) rfl <| wpl_nil <| ex_then <| wpc_block ?_
          refine wpc_loopc (ι := { x : Nat // (x ≤ 8) }) [(2, _), (3, _), (4, _), (5, _), (6, _), (26, _)] (fun x Lc => (27, .int .i64 ((x.1 : Nat) : Int)) :: Lc) (fun x => Mem w [] [.blk b26 132 (v32s (roundsF (wsF (chF (padF bs) k) 64) (stF2 ((chunksF (padF bs)).take k)) 64)), .blk b7 139 (v32s (wsF (chF (padF bs) k) 64)), .row b34 (padF bs).length 5 1 (v8s (padF bs)), .blk b4 132 (v32s (sumN (stF2 ((chunksF (padF bs)).take k)) (roundsF (wsF (chF (padF bs) k) 64) (stF2 ((chunksF (padF bs)).take k)) 64) x.1)), .blk b3 139 (v32s rootsL), .blk b2 121 (v8s (List.replicate 32 0))] []) (fun x => 8 - x.1) ⟨0, zz19⟩ zz10 ?_ ?_
          ·
           exact fun w h => by
               rw [eta8 _ (roundsF_length _ _ hs8 64)] at h; exact h
          ·
           rintro ⟨i, hi0⟩; try dsimp only
           have hi0 : i ≤ 8 := hi0
           have hrl := roundsF_length (wsF (chF (padF bs) k) 64) (stF2 ((chunksF (padF bs)).take k)) hs8 64
           have hsn : (sumN (stF2 ((chunksF (padF bs)).take k)) (roundsF (wsF (chF (padF bs) k) 64) (stF2 ((chunksF (padF bs)).take k)) 64) i).length = 8 := (sumN_length _ _ _).trans hs8
           refine wpc_seq <| wpc_seq <| wpc_region <| wpl_q (q_pure rfl) rfl <| wpl_q (q_pure rfl) rfl <| wpl_nil <| ex_then ?_
           refine wpc_cond rfl (fun hc210 => ?_) (fun hc210 => ?_)
           ·
            try simp only [decide_eq_true_eq, decide_eq_false_iff_not, Bool.and_eq_true, Bool.or_eq_true, beq_iff_eq, bne_iff_ne, ne_eq, Bool.not_eq_true', Bool.not_eq_false', Decidable.not_not] at hc210
            refine wpc_skip <| ex_then <| wpc_seq <| wpc_block ?_
            refine wpc_draw 9 zz8 (fun _ h => h.drew) ?_
            refine wpd_p 0 rfl zz8 trivial (q_pure rfl) rfl sk0 ?_
            refine wpd_p 1 rfl zz8 trivial (q_pure rfl) rfl sk0 ?_
            refine wpd_p 2 rfl zz8 trivial (q_idxA1 Tryz.underlying132 Tryz.ti131 rfl rfl zz16) rfl sk0 ?_
            refine wpd_q 3 rfl zz8 trivial (q_ld Tryz.underlying131 rfl rfl zz32) rfl (fun _ h => h) ?_
            refine wpd_p 4 rfl zz8 trivial (q_pure rfl) rfl sk0 ?_
            refine wpd_p 5 rfl zz8 trivial (q_idxA1 Tryz.underlying132 Tryz.ti131 rfl rfl zz16) rfl sk0 ?_
            refine wpd_q 6 rfl zz8 trivial (q_ld Tryz.underlying131 rfl rfl zz32) rfl (fun _ h => h) ?_
            refine wpd_p 7 rfl zz8 trivial (q32_add rfl rfl) rfl sk0 ?_
            refine wpd_p 8 rfl zz8 trivial (q_idxA1 Tryz.underlying132 Tryz.ti131 rfl rfl zz16) rfl sk0 ?_
            refine wpd_t0 9 rfl zz8 trivial (t_st1 Tryz.ti131 rfl rfl rfl zz4 _ (by first | exact v32s_set _ | rfl)) (fun _ => skk rfl) (fun _ => ?_)
            refine wpd_done zz8 ?_
            refine ex_block <| ex_then <| wpc_region <| wpl_q (q_pure rfl) rfl ?_
            refine wpl_q (q_addN (b := 1) rfl rfl zz1) rfl ?_
            refine wpl_q (q_pure rfl) rfl <| wpl_nil ?_
            refine ex_again ⟨i + 1, zz19⟩ ?_ ?_ ?_
            ·
             exact zz10
            ·
             exact fun w h => by first | exact h | exact h.sub SubC.h SubC.h | exact h.sub zz6 zz6
            ·
             (show 8 - (i + 1) < 8 - i); omega
           ·
            simp only [decide_eq_false_iff_not] at hc210
            obtain rfl : i = 8 := by omega
            have enext : sumN (stF2 ((chunksF (padF bs)).take k)) (roundsF (wsF (chF (padF bs) k) 64) (stF2 ((chunksF (padF bs)).take k)) 64) 8 = stF2 ((chunksF (padF bs)).take (k + 1)) := by rw [chunks_take _ _ hk, stF2_snoc]; rfl
            refine wpc_exit ?_
            refine ex_then_exit ?_
            refine ex_then_exit ?_
            refine ex_block_hit ?_
            refine ex_block <| ex_then <| wpc_region <| wpl_q (q_pure rfl) rfl ?_
            refine wpl_q (q_addN (b := 64) rfl rfl zz1) rfl ?_
            refine wpl_q (q_pure rfl) rfl <| wpl_nil ?_
            refine ex_again ⟨k + 1, zz16⟩ ?_ ?_ ?_
            ·
             exact zz10
            ·
             exact fun w h => by
               rw [enext] at h
               exact h.sub (.drop (.drop (Sub.refl _))) .nil
            ·
             (show (padF bs).length / 64 - (k + 1) < (padF bs).length / 64 - k); omega
   ·
    simp only [decide_eq_false_iff_not] at hc38
    obtain rfl : k = (padF bs).length / 64 := by omega
    refine wpc_exit ?_
    refine ex_then_exit ?_
    refine ex_then_exit ?_
    refine ex_block_hit ?_
    refine ex_then <| wpc_seq <| wpc_region ?_
    refine wpl_t (t_alloc Tryz.ti121 (v8s (List.replicate 32 0)) (by rfl)) rfl (fun b28 => ?_)
    refine wpl_nil <| ex_then <| wpc_seq <| wpc_seq <| wpc_region <| wpl_q (q_pure rfl) rfl <| wpl_nil <| ex_then <| wpc_block ?_
    refine wpc_loopc (ι := { x : Nat // (x ≤ 8) }) [(2, _), (4, _), (28, _)] (fun x Lc => (29, .int .i64 ((x.1 : Nat) : Int)) :: Lc) (fun x => Mem w [] [.blk b28 121 (v8s (outN (stF2 (chunksF (padF bs))) (4 * x.1))), .row b34 (padF bs).length 5 1 (v8s (padF bs)), .blk b4 132 (v32s (stF2 (chunksF (padF bs)))), .blk b3 139 (v32s rootsL), .blk b2 121 (v8s (List.replicate 32 0))] []) (fun x => 8 - x.1) ⟨0, zz19⟩ zz10 ?_ ?_
    ·
     exact fun w h => by
         rw [List.take_of_length_le (by simp [chunksF])] at h; exact h
    ·
     rintro ⟨i, hi0⟩; try dsimp only
     have hi0 : i ≤ 8 := hi0
     have hs8 := stF2_length (chunksF (padF bs))
     refine wpc_seq <| wpc_seq <| wpc_region <| wpl_q (q_pure rfl) rfl <| wpl_q (q_pure rfl) rfl <| wpl_nil <| ex_then ?_
     refine wpc_cond rfl (fun hc223 => ?_) (fun hc223 => ?_)
     ·
      try simp only [decide_eq_true_eq, decide_eq_false_iff_not, Bool.and_eq_true, Bool.or_eq_true, beq_iff_eq, bne_iff_ne, ne_eq, Bool.not_eq_true', Bool.not_eq_false', Decidable.not_not] at hc223
      refine wpc_skip <| ex_then <| wpc_seq <| wpc_block <| wpc_seq <| wpc_region <| wpl_q (q_pure rfl) rfl <| wpl_nil <| ex_then <| wpc_block ?_
      refine wpc_loopc (ι := { x : Nat // (x ≤ 4) }) [(2, _), (4, _), (28, _), (29, _)] (fun x Lc => (30, .int .i64 ((x.1 : Nat) : Int)) :: Lc) (fun x => Mem w [] [.blk b28 121 (v8s (outN (stF2 (chunksF (padF bs))) (4 * i + x.1))), .row b34 (padF bs).length 5 1 (v8s (padF bs)), .blk b4 132 (v32s (stF2 (chunksF (padF bs)))), .blk b3 139 (v32s rootsL), .blk b2 121 (v8s (List.replicate 32 0))] []) (fun x => 4 - x.1) ⟨0, zz19⟩ zz10 ?_ ?_
      ·
       exact fun w h => h
      ·
       rintro ⟨j, hi0⟩; try dsimp only
       have hi0 : j ≤ 4 := hi0
       have hol := outN_length (stF2 (chunksF (padF bs))) (4 * i + j)
       refine wpc_seq <| wpc_seq <| wpc_region <| wpl_q (q_pure rfl) rfl <| wpl_q (q_pure rfl) rfl <| wpl_nil <| ex_then ?_
       refine wpc_cond rfl (fun hc227 => ?_) (fun hc227 => ?_)
       ·
        try simp only [decide_eq_true_eq, decide_eq_false_iff_not, Bool.and_eq_true, Bool.or_eq_true, beq_iff_eq, bne_iff_ne, ne_eq, Bool.not_eq_true', Bool.not_eq_false', Decidable.not_not] at hc227
        refine wpc_skip <| ex_then <| wpc_seq <| wpc_block <| wpc_region <| wpl_q (q_pure rfl) rfl ?_
        refine wpl_q (q_mulN (a := 4) rfl rfl zz1) rfl ?_
        refine wpl_q (q_pure rfl) rfl ?_
        refine wpl_q (q_addN rfl rfl zz1) rfl ?_
        refine wpl_q (q_pure rfl) rfl ?_
        refine wpl_q (q_idxA1 Tryz.underlying132 Tryz.ti131 rfl rfl zz16) rfl ?_
        refine wpl_q (q_ld Tryz.underlying131 rfl rfl zz32) rfl ?_
        refine wpl_q (q_pure rfl) rfl ?_
        refine wpl_q (q_mulN (a := 8) rfl rfl zz1) rfl ?_
        refine wpl_q (q_subN (a := 24) rfl rfl zz16 zz1) rfl ?_
        refine wpl_q (q64_conv Tryz.underlying3 Tryz.underlying119 rfl) rfl ?_
        refine wpl_q (q32_shrC rfl rfl zz16) rfl ?_
        refine wpl_q (q8_conv Tryz.underlying131 Tryz.underlying5 rfl) rfl ?_
        refine wpl_q (q_idxA1 Tryz.underlying121 Tryz.ti5 rfl rfl zz16) rfl ?_
        refine wpl_t0 (t_st1 Tryz.ti5 rfl rfl rfl zz4 _ (by first | exact v8s_set _ | rfl)) (fun _ => ?_)
        refine wpl_nil <| ex_block <| ex_then <| wpc_region <| wpl_q (q_pure rfl) rfl ?_
        refine wpl_q (q_addN (b := 1) rfl rfl zz1) rfl ?_
        refine wpl_q (q_pure rfl) rfl <| wpl_nil ?_
        refine ex_again ⟨j + 1, zz19⟩ ?_ ?_ ?_
        ·
         exact zz10
        ·
         exact fun w h => by
           rw [outN_step _ _ _ zz16] at h; exact h
        ·
         (show 4 - (j + 1) < 4 - j); omega
       ·
        simp only [decide_eq_false_iff_not] at hc227
        obtain rfl : j = 4 := by omega
        refine wpc_exit ?_
        refine ex_then_exit ?_
        refine ex_then_exit ?_
        refine ex_block_hit ?_
        refine ex_block <| ex_then <| wpc_region <| wpl_q (q_pure rfl) rfl ?_
        refine wpl_q (q_addN (b := 1) rfl rfl zz1) rfl ?_
        refine wpl_q (q_pure rfl) rfl <| wpl_nil ?_
        refine ex_again ⟨i + 1, zz19⟩ ?_ ?_ ?_
        ·
         exact zz10
        ·
         exact fun w h => by first | exact h | exact h.sub SubC.h SubC.h | exact h.sub zz6 zz6
        ·
         (show 8 - (i + 1) < 8 - i); omega
     ·
      simp only [decide_eq_false_iff_not] at hc223
      obtain rfl : i = 8 := by omega
      have hol := outN_length (stF2 (chunksF (padF bs))) 32
      refine wpc_exit ?_
      refine ex_then_exit ?_
      refine ex_then_exit ?_
      refine ex_block_hit ?_
      refine ex_then <| wpc_seq <| wpc_region <| wpl_q (q_ldN Tryz.underlying121 rfl Tryz.ti121 rfl ((v8s_length _).trans hol)) rfl ?_
      refine wpl_t0 (t_stA Tryz.ti121 rfl rfl ((v8s_length _).trans hol) (v8s_one _) ((v8s_length _).trans rfl)) (fun _ => ?_)
      refine wpl_nil <| ex_then <| wpc_ret ?_
      refine retv1 (.inl rfl) rfl (rv_agg Tryz.underlying121 rfl Tryz.ti121 rfl (fun w h => h.atB) ((v8s_length _).trans (sumF_length bs))) ?_
      exact fun w h => ⟨rfl, h.below⟩
end Go.Proofs.YtgnablliekgbgaaGreatDoor
namespace Go.Proofs.YtgnablliekgbgaaGreatDoor
open Go Go.PL Go.RowKit
theorem lenN_eq (ps : List (List UInt8)) : ∀ i, i ≤ ps.length → lenN ps i = of64 ((ps.take i).flatten.length : Nat)
  | 0, _ => by simp [lenN, of64]
  | i + 1, h => by
    rw [lenN, lenN_eq ps i zz16, take_succ_flatMm ps i zz16, List.length_append]
    apply UInt64.toNat_inj.1
    have h1 := of64_toNat (((ps.take i).flatten.length : Nat) : Int)
    have h2 := of64_toNat (((ps.getD i []).length : Nat) : Int)
    have h3 := of64_toNat ((((ps.take i).flatten.length + (ps.getD i []).length : Nat) : Nat) : Int)
    rw [UInt64.toNat_add]
    omega
theorem setLen_eq (buf : List UInt8) (x : UInt64) (h : buf.length = 64) : ∀ i, i ≤ 8 → setLen buf x i = buf.take 56 ++ lenBMm x i ++ buf.drop (56 + i)
  | 0, _ => by simp [setLen, lenBMm]
  | i + 1, hi => by
    rw [setLen, setLen_eq buf x h i zz16]
    have hl : (buf.take 56 ++ lenBMm x i).length = 56 + i := by simp [lenB_lengthMm]; omega
    have hd : buf.drop (56 + i) = buf.getD (56 + i) 0 :: buf.drop (56 + (i + 1)) := by
      rw [List.drop_eq_getElem_cons zz16, List.getD_eq_getElem?_getD, List.getElem?_eq_getElem zz16]; rfl
    rw [List.set_append_right (56 + i) _ zz16, hl, Nat.sub_self, hd, List.set_cons_zero, lenBMm]
    simp [show 56 - 8 * i = 8 * (7 - i) from zz16]
theorem blocks_pad (ps : List (List UInt8)) : blocksF ps = chunksF (padF ps.flatten) := by
  unfold blocksF
  rw [lenN_eq ps _ (Nat.le_refl _), List.take_length]
  generalize ps.flatten = a
  have hc : a ++ [(128 : UInt8)] ++ List.replicate (zc a.length) 0 = cF a ++ List.replicate (56 - (cF a).length % 64) 0 ∧ (cF a).length % 64 ≤ 56 := by
    by_cases h : (a ++ [(128 : UInt8)]).length % 64 > 56
    · rw [cF_full a h]
      have hl : (a ++ [(128 : UInt8)] ++ List.replicate (64 - (a ++ [(128 : UInt8)]).length % 64) (0 : UInt8)).length % 64 = 0 := by
        rw [List.length_append, List.length_replicate]; omega
      refine ⟨?_, zz16⟩
      rw [hl, List.append_assoc, List.append_assoc, List.append_assoc, List.replicate_append_replicate]
      congr 3
      simp [zc] at h ⊢; omega
    · rw [cF_room a h]
      refine ⟨?_, zz16⟩
      congr 2
      simp [zc] at h ⊢; omega
  unfold padF
  rw [hc.1]
  generalize cF a = c at hc
  obtain ⟨_, hr⟩ := hc
  rw [setLen_eq _ _ (bufF_length c) 8 zz16, List.append_assoc c]
  have hx : c.length % 64 + (List.replicate (56 - c.length % 64) (0 : UInt8) ++ lenBMm (of64 (a.length : Nat) * 8) 8).length = 64 := by
    rw [List.length_append, List.length_replicate, lenB_lengthMm]; omega
  rw [(put_full c _ hx).1, hx]
  congr 2
  have e1 : (bufF c).drop (56 + 8) = [] := List.drop_of_length_le (by rw [bufF_length]; omega)
  rw [e1, List.append_nil, List.append_nil, ← List.append_assoc]
  congr 1
  rw [buf_take]
  unfold bufF
  have e3 : (c.drop (64 * (c.length / 64))).length = c.length % 64 := by rw [List.length_drop]; omega
  rw [List.take_append, List.take_of_length_le zz16, e3, List.take_replicate]
  congr 2; omega
theorem join_sum (ps : List (List UInt8)) : joinF ps = sumF ps.flatten := by unfold joinF sumF; rw [blocks_pad]
def shortF (bs : List UInt8) : List UInt8 := (sumF bs).take 16
theorem shortF_length (bs : List UInt8) : (shortF bs).length = 16 := by rw [shortF, List.length_take, sumF_length]; rfl
theorem one_flat (bs : List UInt8) : [bs].flatten = bs := by simp
theorem copy_step (h s : List UInt8) (i : Nat) (hi : i < 16) (hh : h.length = 32) (hs : s = h.take i ++ List.replicate (16 - i) 0) : s.set i (h.getD i 0) = h.take (i + 1) ++ List.replicate (16 - (i + 1)) 0 := by
  subst hs
  have e : List.replicate (16 - i) (0 : UInt8) = 0 :: List.replicate (16 - (i + 1)) 0 := by
    rw [show 16 - i = (16 - (i + 1)) + 1 from zz16, List.replicate_succ]
  rw [e, List.set_append_right _ _ (by rw [List.length_take]; omega), List.length_take, show i - min i h.length = 0 from zz16, List.set_cons_zero]
  have e2 : h.take (i + 1) = h.take i ++ [h.getD i 0] := by
    rw [List.take_add_one, List.getD_eq_getElem?_getD, List.getElem?_eq_getElem zz16]; rfl
  rw [e2, List.append_assoc]; rfl
theorem refShort (bv : Value) (bs : List UInt8) (w : World) (hbv : Seen w.cell? bv bs.length 1 (v8s bs)) (hlb : bs.length ≤ 1000000000) :
    Calls Tryz.prog 69 [bv].toArray w (Pur w (.agg (v8s (shortF bs)).toArray)) := by
  have sbv := hbv.sv
  have lbv := sbv.le
  simp only [maxLen] at lbv
  refine enter (m := 18) (R := Mem w [] [] []) Tryz.func69 rfl rfl (Nat.le_of_ble_eq_true rfl) (Mem.start w) ?_
  refine wpc_seq <| wpc_region ?_
  refine wpl_t (t_alloc Tryz.ti32 (v8s (List.replicate 16 0)) (by rfl)) rfl (fun b2 => ?_)
  refine wpl_nil <| ex_then <| wpc_seq <| wpc_region <| wpl_q (q_pure rfl) rfl ?_
  refine wpl_t (t_pur Tryz.hb92 rfl fun w h => refSum _ bs w (by first | exact h.seen_old hbv) zz16) rfl (fun b7 => ?_)
  refine wpl_t (t_alloc Tryz.ti121 (v8s (List.replicate 32 0)) (by rfl)) rfl (fun b3 => ?_)
  refine wpl_t0 (t_stA Tryz.ti121 rfl rfl ((v8s_length _).trans (sumF_length bs)) (v8s_one _) ((v8s_length _).trans rfl)) (fun _ => ?_)
  refine wpl_nil <| ex_then <| wpc_seq <| wpc_region ?_
  refine wpl_t (t_alloc Tryz.ti32 (v8s (List.replicate 16 0)) (by rfl)) rfl (fun b4 => ?_)
  refine wpl_nil <| ex_then <| wpc_seq <| wpc_seq <| wpc_region <| wpl_q (q_pure rfl) rfl <| wpl_nil <| ex_then <| wpc_block ?_
  refine wpc_loopc (ι := { x : Nat // (x ≤ 16) }) [(2, _), (3, _), (4, _)] (fun x Lc => (5, .int .i64 ((x.1 : Nat) : Int)) :: Lc) (fun x => Mem w [] [.blk b4 32 (v8s ((sumF bs).take x.1 ++ List.replicate (16 - x.1) 0)), .blk b3 121 (v8s (sumF bs)), .blk b2 32 (v8s (List.replicate 16 0))] []) (fun x => 16 - x.1) ⟨0, zz19⟩ zz10 ?_ ?_
  ·
   exact fun w h => h
  ·
   rintro ⟨i, hi0⟩; try dsimp only
   have hi0 : i ≤ 16 := hi0
   have hsl := sumF_length bs
   have hll : ((sumF bs).take i ++ List.replicate (16 - i) 0).length = 16 := by rw [List.length_append, List.length_take, List.length_replicate]; omega
   refine wpc_seq <| wpc_seq <| wpc_region <| wpl_q (q_pure rfl) rfl <| wpl_q (q_pure rfl) rfl <| wpl_nil <| ex_then ?_
   refine wpc_cond rfl (fun hc9 => ?_) (fun hc9 => ?_)
   ·
    try simp only [decide_eq_true_eq, decide_eq_false_iff_not, Bool.and_eq_true, Bool.or_eq_true, beq_iff_eq, bne_iff_ne, ne_eq, Bool.not_eq_true', Bool.not_eq_false', Decidable.not_not] at hc9
    refine wpc_skip <| ex_then <| wpc_seq <| wpc_block <| wpc_region <| wpl_q (q_pure rfl) rfl <| wpl_q (q_pure rfl) rfl ?_
    refine wpl_q (q_idxA1 Tryz.underlying121 Tryz.ti5 rfl rfl zz16) rfl ?_
    refine wpl_q (q_ld Tryz.underlying5 rfl rfl zz38) rfl ?_
    refine wpl_q (q_idxA1 Tryz.underlying32 Tryz.ti5 rfl rfl zz16) rfl ?_
    refine wpl_t0 (t_st1 Tryz.ti5 rfl rfl rfl zz4 _ (by first | exact v8s_set _ | rfl)) (fun _ => ?_)
    refine wpl_nil <| ex_block <| ex_then <| wpc_region <| wpl_q (q_pure rfl) rfl ?_
    refine wpl_q (q_addN (b := 1) rfl rfl zz1) rfl ?_
    refine wpl_q (q_pure rfl) rfl <| wpl_nil ?_
    refine ex_again ⟨i + 1, zz19⟩ ?_ ?_ ?_
    ·
     exact zz10
    ·
     exact fun w h => by
       rw [copy_step (sumF bs) _ i zz16 hsl rfl] at h; exact h
    ·
     (show 16 - (i + 1) < 16 - i); omega
   ·
    simp only [decide_eq_false_iff_not] at hc9
    obtain rfl : i = 16 := by omega
    have e16 : (sumF bs).take 16 ++ List.replicate (16 - 16) 0 = shortF bs := by simp [shortF]
    simp only [e16]
    refine wpc_exit ?_
    refine ex_then_exit ?_
    refine ex_then_exit ?_
    refine ex_block_hit ?_
    refine ex_then <| wpc_seq <| wpc_region <| wpl_q (q_ldN Tryz.underlying32 rfl Tryz.ti32 rfl ((v8s_length _).trans (shortF_length bs))) rfl ?_
    refine wpl_t0 (t_stA Tryz.ti32 rfl rfl ((v8s_length _).trans (shortF_length bs)) (v8s_one _) ((v8s_length _).trans rfl)) (fun _ => ?_)
    refine wpl_nil <| ex_then <| wpc_ret ?_
    refine retv1 (.inl rfl) rfl (rv_agg Tryz.underlying32 rfl Tryz.ti32 rfl (fun w h => h.atB) ((v8s_length _).trans (shortF_length bs))) ?_
    exact fun w h => ⟨rfl, h.below⟩
theorem flat_le (l : List (List UInt8)) (i : Nat) : (l.take i).flatten.length ≤ l.flatten.length := by
  have : (l.take i).flatten.length + (l.drop i).flatten.length = l.flatten.length := by rw [← List.length_append, ← List.flatten_append, List.take_append_drop]
  omega
end Go.Proofs.YtgnablliekgbgaaGreatDoor
namespace Go.Proofs.YtgnablliekgbgaaGreatDoor
open Go Go.PL Go.RowKit
def Glb (w : World) : Prop := CellsAt w.cell? ⟨0, 0, none⟩ (v32s rootsL) ∧ 0 < w.heap.size
theorem glob {w0 w : World} {M : List Ent} {S : List Fact} (h : Mem w0 [] M S w) (hG : Glb w0) : Glb w := ⟨h.at_old hG.1, Nat.lt_of_lt_of_le hG.2 h.size⟩
theorem shortW (bv : Value) (bs : List UInt8) (w : World) (hb : Seen w.cell? bv bs.length 1 (v8s bs)) (hG : Glb w) : Calls Tryz.prog 61 [bv].toArray w (Pur w (.agg (v8s (shortF bs)).toArray)) := by
  have := short bv bs w hb hG.1 hG.2
  rwa [join_sum, one_flat] at this
theorem eq8_32Mm : Eq8 Tryz.prog 32 16 := eqc_array Tryz.underlying32 Tryz.ti32 Tryz.ti5 rfl (eqc_int Tryz.underlying5 Tryz.ti5)
end Go.Proofs.YtgnablliekgbgaaGreatDoor
namespace Go.Proofs.YtgnablliekgbgaaGreatDoor
open Go Go.PL Go.RowKit
def stepF (x : List UInt8) (i j : Nat) : List UInt8 := shortF (x ++ [of8 (i : Int), of8 (j : Int)])
def climbF (x : List UInt8) (i f : Nat) : Nat → List UInt8
  | 0 => x
  | n + 1 => stepF (climbF x i f n) i (f + n)
def beginF (s : List UInt8) (i : Nat) : List UInt8 := stepF s i 255
def chainF (s : List UInt8) (i h : Nat) : List UInt8 := climbF (beginF s i) i 0 h
def digN (s : List UInt8) (k : Nat) : Nat := if k % 2 = 0 then (s.getD (k / 2) 0).toNat / 16 else (s.getD (k / 2) 0).toNat % 16
def digs (s : List UInt8) (n : Nat) : List Nat := (List.range n).map (digN s)
def dsum (s : List UInt8) : Nat → Nat
  | 0 => 0
  | n + 1 => dsum s n + (15 - digN s n)
def digsF (s : List UInt8) : List Nat := digs s 32 ++ [dsum s 32 / 256, dsum s 32 / 16 % 16, dsum s 32 % 16]
theorem stepF_length (x : List UInt8) (i j : Nat) : (stepF x i j).length = 16 := by rw [stepF]; exact shortF_length _
theorem climbF_length (x : List UInt8) (hx : x.length = 16) (i f : Nat) : ∀ n, (climbF x i f n).length = 16
  | 0 => hx
  | n + 1 => by rw [climbF]; exact stepF_length _ _ _
theorem beginF_length (s : List UInt8) (i : Nat) : (beginF s i).length = 16 := by rw [beginF]; exact stepF_length _ _ _
theorem chainF_length (s : List UInt8) (i h : Nat) : (chainF s i h).length = 16 := by rw [chainF]; exact climbF_length _ (beginF_length _ _) _ _ _
theorem digN_le (s : List UInt8) (k : Nat) : digN s k ≤ 15 := by
  have := (s.getD (k / 2) 0).toNat_lt
  unfold digN; split <;> omega
theorem digs_length (s : List UInt8) (n : Nat) : (digs s n).length = n := by simp [digs]
theorem digsF_length (s : List UInt8) : (digsF s).length = 35 := by simp [digsF, digs_length]
theorem digs_succ (s : List UInt8) (n : Nat) : digs s (n + 1) = digs s n ++ [digN s n] := by simp [digs, List.range_succ]
theorem dsum_le (s : List UInt8) : ∀ n, dsum s n ≤ 15 * n
  | 0 => Nat.le_refl _
  | n + 1 => by have := dsum_le s n; unfold dsum; omega
theorem sr4 (x : UInt8) : (sr8 x 4).toNat = x.toNat / 16 := by
  have := x.toNat_lt
  simp only [sr8, UInt8.toNat_ofNat']
  have : min 4 8 = 4 := rfl
  rw [this]; omega
theorem and15 (x : UInt8) : (x &&& 15).toNat = x.toNat % 16 := by
  rw [UInt8.toNat_and]; exact Nat.and_two_pow_sub_one_eq_mod _ 4
theorem nand15 (x : Nat) : x &&& 15 = x % 16 := Nat.and_two_pow_sub_one_eq_mod _ 4
theorem digs_two (s : List UInt8) (i : Nat) : digs s (2 * i) ++ [(sr8 (s.getD i 0) 4).toNat, (s.getD i 0 &&& 15).toNat] = digs s (2 * (i + 1)) := by
  rw [show 2 * (i + 1) = 2 * i + 1 + 1 from zz16, digs_succ, digs_succ, List.append_assoc]
  congr 1
  simp only [digN, sr4, and15]
  rw [if_pos zz16, if_neg zz16, show 2 * i / 2 = i from zz16, show (2 * i + 1) / 2 = i from zz16]; rfl
theorem dsum_two (s : List UInt8) (i : Nat) : dsum s (2 * i) + ((30 - (sr8 (s.getD i 0) 4).toNat) - (s.getD i 0 &&& 15).toNat) = dsum s (2 * (i + 1)) := by
  have h1 := digN_le s (2 * i)
  have h2 := digN_le s (2 * i + 1)
  rw [show 2 * (i + 1) = 2 * i + 1 + 1 from zz16, dsum, dsum]
  have e1 : digN s (2 * i) = (s.getD i 0).toNat / 16 := by unfold digN; rw [if_pos zz16, show 2 * i / 2 = i from zz16]
  have e2 : digN s (2 * i + 1) = (s.getD i 0).toNat % 16 := by unfold digN; rw [if_neg zz16, show (2 * i + 1) / 2 = i from zz16]
  rw [sr4, and15, ← e1, ← e2]; omega
theorem last3 (s : List UInt8) : digs s 32 ++ [dsum s 32 / 2 ^ 8, (dsum s 32 / 2 ^ 4) &&& 15, dsum s 32 &&& 15] = digsF s := by
  rw [nand15, nand15]; rfl
theorem digits (bv : Value) (bs : List UInt8) (w : World) (hbv : Seen w.cell? bv bs.length 1 (v8s bs)) (hG : Glb w) :
    Calls Tryz.prog 58 [bv].toArray w (GivesP w (fun v => SV v 35) (fun v : Value => v) (fun v => [.row v 35 3 1 (vns (digsF (shortF bs)))]) (fun _ => [])) := by
  have sbv := hbv.sv
  have lbv := sbv.le
  simp only [maxLen] at lbv
  refine enter (m := 42) (R := Mem w [] [] []) Tryz.func58 rfl rfl (Nat.le_of_ble_eq_true rfl) (Mem.start w) ?_
  refine wpc_seq <| wpc_region <| wpl_q (q_pure rfl) rfl <| wpl_nil <| ex_then <| wpc_seq <| wpc_region <| wpl_q (q_pure rfl) rfl <| wpl_nil <| ex_then <| wpc_seq <| wpc_region ?_
  refine wpl_q (q_pure rfl) rfl <| wpl_nil <| ex_then <| wpc_seq <| wpc_seq <| wpc_region <| wpl_q (q_pure rfl) rfl ?_
  refine wpl_t (t_pur Tryz.hb61 rfl fun w h => shortW _ _ w zz15 (glob h hG)) rfl (fun b10 => ?_)
  refine wpl_q (q_pure rfl) rfl <| wpl_nil <| ex_then <| wpc_block ?_
  refine wpc_loopc (ι := { x : Nat × Value // (x.1 ≤ 16) ∧ (SV x.2 (2 * x.1)) }) [(10, _)] (fun x Lc => (11, .int .i64 ((x.1.1 : Nat) : Int)) :: (3, x.1.2) :: (4, .int .i64 ((dsum (shortF bs) (2 * x.1.1) : Nat) : Int)) :: Lc) (fun x => Mem w [] [.row x.1.2 (2 * x.1.1) 3 1 (vns (digs (shortF bs) (2 * x.1.1)))] []) (fun x => 16 - x.1.1) ⟨(0, .slice none 0 0), ⟨Nat.zero_le _, SV.nil⟩⟩ zz10 ?_ ?_
  ·
   exact fun w h => h.nilRow 3 1
  ·
   rintro ⟨⟨i, v⟩, ⟨hi0, hi1⟩⟩; try dsimp only
   have hi0 : i ≤ 16 := hi0; have hi1 : SV v (2 * i) := hi1
   have hds := dsum_le (shortF bs) (2 * i)
   have hsl := shortF_length bs
   have hx1 := sr4 ((shortF bs).getD i 0)
   have hx2 := and15 ((shortF bs).getD i 0)
   have hx3 := ((shortF bs).getD i 0).toNat_lt
   refine wpc_seq <| wpc_region <| wpl_q (q_pure rfl) rfl <| wpl_nil <| ex_then <| wpc_seq ?_
   refine wpc_cond rfl (fun hc12 => ?_) (fun hc12 => ?_)
   ·
    try simp only [decide_eq_true_eq, decide_eq_false_iff_not, Bool.and_eq_true, Bool.or_eq_true, beq_iff_eq, bne_iff_ne, ne_eq, Bool.not_eq_true', Bool.not_eq_false', Decidable.not_not] at hc12
    refine wpc_skip <| ex_then <| wpc_seq <| wpc_block <| wpc_seq <| wpc_region ?_
    refine wpl_q (q_idxVN Tryz.underlying32 Tryz.ti5 Tryz.underlying5 rfl rfl rfl zz16 zz38) rfl ?_
    refine wpl_q (q_pure rfl) rfl <| wpl_nil <| ex_then <| wpc_seq <| wpc_region <| wpl_q (q_pure rfl) rfl ?_
    refine wpl_q (q8_shr rfl rfl zz26 4 rfl) rfl ?_
    refine wpl_q (q8_int Tryz.underlying5 Tryz.underlying3 rfl) rfl <| wpl_q (q_pure rfl) rfl ?_
    refine wpl_q (q8_and (b := (15 : UInt8)) rfl rfl) rfl ?_
    refine wpl_q (q8_int Tryz.underlying5 Tryz.underlying3 rfl) rfl <| wpl_q (q_pure rfl) rfl <| wpl_q (q_pure rfl) rfl <| wpl_nil <| ex_then <| wpc_seq <| wpc_region <| wpl_q (q_pure rfl) rfl <| wpl_q (q_pure rfl) rfl <| wpl_q (q_pure rfl) rfl ?_
    refine wpl_tp (t_bsV (vns [_, _]) Tryz.underlying97 Tryz.ti3 rfl rfl zz22 zz22 rfl (vns_one _)) rfl (fun b23 p23 => ?_)
    refine wpl_tp (t_apW Tryz.underlying97 Tryz.ti3 rfl zz22 rfl rfl (fun w h => zz12) (vns_one _) zz1 zz1 _ zz18) rfl (fun b24 p24 => ?_)
    refine wpl_q (q_pure rfl) rfl <| wpl_nil <| ex_then <| wpc_region <| wpl_q (q_pure rfl) rfl <| wpl_q (q_pure rfl) rfl ?_
    refine wpl_q (q_subN (a := 30) rfl rfl zz16 zz1) rfl ?_
    refine wpl_q (q_pure rfl) rfl ?_
    refine wpl_q (q_subN rfl rfl zz16 zz1) rfl ?_
    refine wpl_q (qop_eq (q_addN rfl rfl zz1) (by rw [dsum_two])) rfl ?_
    refine wpl_q (q_pure rfl) rfl <| wpl_nil <| ex_block <| ex_then <| wpc_region ?_
    refine wpl_q (q_addN (b := 1) rfl rfl zz1) rfl ?_
    refine wpl_q (q_pure rfl) rfl <| wpl_nil ?_
    refine ex_again ⟨(i + 1, b24), ⟨zz16, by rw [show 2 * (i + 1) = 2 * i + 2 from zz16]; exact p24⟩⟩ ?_ ?_ ?_
    ·
     exact zz10
    ·
     exact fun w h => by
       dsimp only
       rw [← digs_two, show 2 * (i + 1) = 2 * i + 2 from zz16]
       first | exact h.sub SubC.h SubC.h | exact h.sub zz6 zz6
    ·
     (show 16 - (i + 1) < 16 - i); omega
   ·
    simp only [decide_eq_false_iff_not] at hc12
    obtain rfl : i = 16 := by omega
    refine wpc_exit ?_
    refine ex_then_exit ?_
    refine ex_then_exit ?_
    refine ex_block_hit ?_
    refine ex_then <| wpc_seq <| wpc_region <| wpl_q (q_pure rfl) rfl <| wpl_q (q_pure rfl) rfl ?_
    refine wpl_q (q_shrN (b := 8) rfl rfl zz26) rfl ?_
    refine wpl_q (q_pure rfl) rfl ?_
    refine wpl_q (q_shrN (b := 4) rfl rfl zz26) rfl ?_
    refine wpl_q (q_andN (b := 15) rfl rfl zz1 zz1) rfl ?_
    refine wpl_q (q_pure rfl) rfl ?_
    refine wpl_q (q_andN (b := 15) rfl rfl zz1 zz1) rfl ?_
    refine wpl_tp (t_bsV (vns [_, _, _]) Tryz.underlying97 Tryz.ti3 rfl rfl zz22 zz22 rfl (vns_one _)) rfl (fun b40 p40 => ?_)
    refine wpl_tp (t_apW Tryz.underlying97 Tryz.ti3 rfl zz22 rfl rfl (fun w h => zz12) (vns_one _) zz1 zz1 (vns (digsF (shortF bs))) (by rw [← vns_append]; exact congrArg vns (last3 (shortF bs)))) rfl (fun b41 p41 => ?_)
    refine wpl_q (q_pure rfl) rfl <| wpl_nil <| ex_then <| wpc_ret ?_
    refine ret1 (.inl rfl) rfl rfl ?_
    exact fun w h => ⟨b41, p41, rfl, h.below, h.made SubC.h SubC.h⟩
end Go.Proofs.YtgnablliekgbgaaGreatDoor
namespace Go.Proofs.YtgnablliekgbgaaGreatDoor
open Go Go.PL Go.RowKit
def accF (E : Nat → List UInt8) : Nat → List UInt8
  | 0 => []
  | i + 1 => accF E i ++ E i
theorem accF_length (E : Nat → List UInt8) (h : ∀ i, (E i).length = 16) : ∀ n, (accF E n).length = 16 * n
  | 0 => rfl
  | n + 1 => by rw [accF, List.length_append, accF_length E h n, h]; omega
theorem accF_flat (E : Nat → List UInt8) : ∀ n, ((List.range n).map E).flatten = accF E n
  | 0 => rfl
  | n + 1 => by rw [List.range_succ, List.map_append, List.flatten_append, accF_flat E n, accF]; simp
def publicF (s : List UInt8) : List UInt8 := shortF (accF (fun i => chainF s i 15) 35)
def dig (m : List UInt8) (i : Nat) : Nat := (digsF (shortF m)).getD i 0
def sg (s m : List UInt8) (n : Nat) : List (List UInt8) := (List.range n).map fun i => chainF s i (dig m i)
def signF (s m : List UInt8) : List (List UInt8) := sg s m 35
def recE (m : List UInt8) (chs : List (List UInt8)) (i : Nat) : List UInt8 := climbF (chs.getD i []) i (dig m i) (15 - dig m i)
def recF (m : List UInt8) (chs : List (List UInt8)) : List UInt8 := if chs.length = 35 then shortF (accF (recE m chs) 35) else List.replicate 16 0
def recEr (chs : List (List UInt8)) : Int := if chs.length = 35 then 0 else 12
theorem sg_all (s m : List UInt8) (n : Nat) : ∀ x ∈ sg s m n, x.length = 16 := by
  intro x hx
  obtain ⟨i, _, rfl⟩ := List.mem_map.1 hx
  exact chainF_length _ _ _
theorem signF_all (s m : List UInt8) : ∀ x ∈ signF s m, x.length = 16 := sg_all s m 35
theorem sg_length (s m : List UInt8) (n : Nat) : (sg s m n).length = n := by simp [sg]
theorem signF_length (s m : List UInt8) : (signF s m).length = 35 := sg_length s m 35
theorem sg_succ (s m : List UInt8) (n : Nat) : sg s m (n + 1) = sg s m n ++ [chainF s n (dig m n)] := by simp [sg, List.range_succ]
theorem dig_le (m : List UInt8) (i : Nat) : dig m i ≤ 15 := by
  have hd := dsum_le (shortF m) 32
  have : ∀ x ∈ digsF (shortF m), x ≤ 15 := by
    intro x hx
    unfold digsF at hx
    rcases List.mem_append.1 hx with hx | hx
    · obtain ⟨k, _, rfl⟩ := List.mem_map.1 hx
      exact digN_le _ _
    · simp only [List.mem_cons, List.not_mem_nil, or_false] at hx
      omega
  unfold dig
  rw [List.getD_eq_getElem?_getD]
  cases h : (digsF (shortF m))[i]? with
  | none => exact Nat.zero_le _
  | some x => exact this x (List.mem_of_getElem? h)
theorem recE_length (m : List UInt8) (chs : List (List UInt8)) (h : ∀ x ∈ chs, x.length = 16) (i : Nat) (hi : i < chs.length) : (recE m chs i).length = 16 := by
  rw [recE]; exact climbF_length _ (getD_mem_len h hi) _ _ _
theorem recF_length (m : List UInt8) (chs : List (List UInt8)) : (recF m chs).length = 16 := by
  unfold recF
  split
  · exact shortF_length _
  · exact List.length_replicate
theorem publicF_length (s : List UInt8) : (publicF s).length = 16 := by rw [publicF]; exact shortF_length _
theorem accF_len16 (E : Nat → List UInt8) (n : Nat) (h : ∀ i, i < n → (E i).length = 16) : ∀ k, k ≤ n → (accF E k).length = 16 * k
  | 0, _ => rfl
  | k + 1, hk => by rw [accF, List.length_append, accF_len16 E n h k zz16, h k zz16]; omega
theorem step (xs : List UInt8) (i : Nat) (j : Nat) (w : World) (hxs : xs.length = 16) (hG : Glb w) :
    Calls Tryz.prog 87 [.agg (v8s xs).toArray, .int .i64 ((i : Nat) : Int), .int .i64 ((j : Nat) : Int)].toArray w (Pur w (.agg (v8s (stepF xs i j)).toArray)) := by
  refine enter (m := 15) (R := Mem w [] [] []) Tryz.func87 rfl rfl (Nat.le_of_ble_eq_true rfl) (Mem.start w) ?_
  refine wpc_seq <| wpc_region ?_
  refine wpl_t (t_box rfl (v8s xs) rfl) rfl (fun b3 => ?_)
  refine wpl_t (t_alloc Tryz.ti32 (v8s (List.replicate 16 0)) (by rfl)) rfl (fun b6 => ?_)
  refine wpl_nil <| ex_then <| wpc_seq <| wpc_region <| wpl_q (q_arAll Tryz.underlying32 Tryz.ti5 rfl rfl) rfl <| wpl_q (q_pure rfl) rfl <| wpl_q (q8_conv Tryz.underlying3 Tryz.underlying5 rfl) rfl <| wpl_q (q_pure rfl) rfl <| wpl_q (q8_conv Tryz.underlying3 Tryz.underlying5 rfl) rfl ?_
  refine wpl_tp (t_bsV (v8s [_, _]) Tryz.underlying49 Tryz.ti5 rfl rfl zz22 zz22 rfl (v8s_one _)) rfl (fun b12 p12 => ?_)
  refine wpl_tp (t_apF Tryz.underlying49 Tryz.ti5 rfl rfl rfl (fun w h => zz12) (fun w h => zz12) zz1 zz1 zz1 _ zz18) rfl (fun b13 p13 => ?_)
  refine wpl_t (t_pur Tryz.hb61 rfl fun w h => shortW _ _ w zz15 (glob h hG)) rfl (fun b14 => ?_)
  refine wpl_t0 (t_stA Tryz.ti32 rfl rfl zz0 (v8s_one _) zz0) (fun _ => ?_)
  refine wpl_nil <| ex_then <| wpc_ret ?_
  refine retv1 (.inl rfl) rfl (rv_agg Tryz.underlying32 rfl Tryz.ti32 rfl (fun w h => h.atB) zz0) ?_
  exact fun w h => ⟨rfl, h.below⟩
theorem climb (xs : List UInt8) (i : Nat) (f : Nat) (t : Nat) (w : World) (hxs : xs.length = 16) (hG : Glb w) (hf : f ≤ 1000) (ht : t ≤ 1000) :
    Calls Tryz.prog 59 [.agg (v8s xs).toArray, .int .i64 ((i : Nat) : Int), .int .i64 ((f : Nat) : Int), .int .i64 ((t : Nat) : Int)].toArray w (Pur w (.agg (v8s (climbF xs i f (t - f))).toArray)) := by
  refine enter (m := 21) (R := Mem w [] [] []) Tryz.func59 rfl rfl (Nat.le_of_ble_eq_true rfl) (Mem.start w) ?_
  refine wpc_seq <| wpc_region ?_
  refine wpl_t (t_box rfl (v8s xs) rfl) rfl (fun b4 => ?_)
  refine wpl_t (t_alloc Tryz.ti32 (v8s (List.replicate 16 0)) (by rfl)) rfl (fun b8 => ?_)
  refine wpl_nil <| ex_then <| wpc_seq <| wpc_seq <| wpc_region <| wpl_q (q_pure rfl) rfl <| wpl_q (q_pure rfl) rfl <| wpl_nil <| ex_then <| wpc_block ?_
  refine wpc_loopc (ι := { x : Nat // (x ≤ t - f) }) [(1, _), (3, _), (4, _), (8, _)] (fun x Lc => (9, .int .i64 ((f + x.1 : Nat) : Int)) :: Lc) (fun x => Mem w [] [.blk b8 32 (v8s (List.replicate 16 0)), .blk b4 32 (v8s (climbF xs i f x.1))] []) (fun x => t - f - x.1) ⟨0, zz19⟩ zz10 ?_ ?_
  ·
   exact fun w h => h
  ·
   rintro ⟨n, hi0⟩; try dsimp only
   have hi0 : n ≤ t - f := hi0
   have hcl := climbF_length xs hxs i f n
   refine wpc_seq <| wpc_seq <| wpc_region <| wpl_q (q_pure rfl) rfl <| wpl_q (q_pure rfl) rfl <| wpl_q (q_pure rfl) rfl <| wpl_nil <| ex_then ?_
   refine wpc_cond rfl (fun hc13 => ?_) (fun hc13 => ?_)
   ·
    simp only [decide_eq_true_eq] at hc13
    refine wpc_skip <| ex_then <| wpc_seq <| wpc_block <| wpc_region ?_
    refine wpl_q (q_ldN Tryz.underlying32 rfl Tryz.ti32 rfl zz0) rfl ?_
    refine wpl_q (q_pure rfl) rfl <| wpl_q (q_pure rfl) rfl ?_
    refine wpl_t (t_pur Tryz.hb87 rfl fun w h => step _ _ _ w zz11 (glob h hG)) rfl (fun b19 => ?_)
    refine wpl_t0 (t_stA Tryz.ti32 rfl rfl zz0 (v8s_one _) zz0) (fun _ => ?_)
    refine wpl_nil <| ex_block <| ex_then <| wpc_region <| wpl_q (q_pure rfl) rfl ?_
    refine wpl_q (q_addN (b := 1) rfl rfl zz1) rfl ?_
    refine wpl_q (q_pure rfl) rfl <| wpl_nil ?_
    refine ex_again ⟨n + 1, zz19⟩ ?_ ?_ ?_
    ·
     exact zz10
    ·
     exact fun w h => by first | exact h | exact h.sub SubC.h SubC.h | exact h.sub zz6 zz6
    ·
     (show t - f - (n + 1) < t - f - n); omega
   ·
    simp only [decide_eq_false_iff_not] at hc13
    obtain rfl : n = t - f := by omega
    refine wpc_exit ?_
    refine ex_then_exit ?_
    refine ex_then_exit ?_
    refine ex_block_hit ?_
    refine ex_then <| wpc_seq <| wpc_region ?_
    refine wpl_q (q_ldN Tryz.underlying32 rfl Tryz.ti32 rfl zz0) rfl ?_
    refine wpl_t0 (t_stA Tryz.ti32 rfl rfl zz0 (v8s_one _) zz0) (fun _ => ?_)
    refine wpl_nil <| ex_then <| wpc_ret ?_
    refine retv1 (.inl rfl) rfl (rv_agg Tryz.underlying32 rfl Tryz.ti32 rfl (fun w h => h.atB) zz0) ?_
    exact fun w h => ⟨rfl, h.below⟩
theorem begin_ (xs : List UInt8) (i : Nat) (w : World) (hxs : xs.length = 16) (hG : Glb w) :
    Calls Tryz.prog 60 [.agg (v8s xs).toArray, .int .i64 ((i : Nat) : Int)].toArray w (Pur w (.agg (v8s (beginF xs i)).toArray)) := by
  refine enter (m := 8) (R := Mem w [] [] []) Tryz.func60 rfl rfl (Nat.le_of_ble_eq_true rfl) (Mem.start w) ?_
  refine wpc_seq <| wpc_region ?_
  refine wpl_t (t_box rfl (v8s xs) rfl) rfl (fun b2 => ?_)
  refine wpl_t (t_alloc Tryz.ti32 (v8s (List.replicate 16 0)) (by rfl)) rfl (fun b4 => ?_)
  refine wpl_nil <| ex_then <| wpc_seq <| wpc_region ?_
  refine wpl_q (q_ldN Tryz.underlying32 rfl Tryz.ti32 rfl zz0) rfl ?_
  refine wpl_q (q_pure rfl) rfl ?_
  refine wpl_t (t_pur Tryz.hb87 rfl fun w h => step _ _ 255 w zz11 (glob h hG)) rfl (fun b7 => ?_)
  refine wpl_t0 (t_stA Tryz.ti32 rfl rfl zz0 (v8s_one _) zz0) (fun _ => ?_)
  refine wpl_nil <| ex_then <| wpc_ret ?_
  refine retv1 (.inl rfl) rfl (rv_agg Tryz.underlying32 rfl Tryz.ti32 rfl (fun w h => h.atB) zz0) ?_
  exact fun w h => ⟨rfl, h.below⟩
theorem ends (cf : Nat) (cap : Array Value) (E : Nat → List UInt8) (w : World)  (hG : Glb w) (hcb : HasBody Tryz.prog cf) (hE : ∀ i, i < 35 → (E i).length = 16) (hcl : ∀ (i : Nat) (w1 : World), i < 35 → Mem w [] [] [] w1 → Calls Tryz.prog cf (#[.int .i64 ((i : Nat) : Int)] ++ cap) w1 (Pur w1 (.agg (v8s (E i)).toArray))) :
    Calls Tryz.prog 89 [.func (.func cf) #[] cap].toArray w (Pur w (.agg (v8s (shortF (accF E 35))).toArray)) := by
  refine enter (m := 18) (R := Mem w [] [] []) Tryz.func89 rfl rfl (Nat.le_of_ble_eq_true rfl) (Mem.start w) ?_
  refine wpc_seq <| wpc_region ?_
  refine wpl_t (t_alloc Tryz.ti32 (v8s (List.replicate 16 0)) (by rfl)) rfl (fun b2 => ?_)
  refine wpl_nil <| ex_then <| wpc_seq <| wpc_region <| wpl_q (q_pure rfl) rfl <| wpl_nil <| ex_then <| wpc_seq <| wpc_seq <| wpc_region <| wpl_q (q_pure rfl) rfl <| wpl_nil ?_
  refine ex_then <| wpc_block ?_
  refine wpc_loopc (ι := { x : Nat × Value // (x.1 ≤ 35) ∧ (SV x.2 (accF E x.1).length) }) [(0, _), (2, _)] (fun x Lc => (6, .int .i64 ((x.1.1 : Nat) : Int)) :: (3, x.1.2) :: Lc) (fun x => Mem w [] [.row x.1.2 (accF E x.1.1).length 5 1 (v8s (accF E x.1.1)), .blk b2 32 (v8s (List.replicate 16 0))] []) (fun x => 35 - x.1.1) ⟨(0, .slice none 0 0), ⟨Nat.zero_le _, SV.nil⟩⟩ zz10 ?_ ?_
  ·
   exact fun w h => h.nilRow 5 1
  ·
   rintro ⟨⟨i, v⟩, ⟨hi0, hi1⟩⟩; try dsimp only
   have hi0 : i ≤ 35 := hi0; have hi1 : SV v (accF E i).length := hi1
   have hal : i ≤ 35 → (accF E i).length ≤ 16 * 35 := fun hi => by rw [accF_len16 E 35 hE i hi]; omega
   have hal2 := hal hi0
   refine wpc_seq <| wpc_region <| wpl_q (q_pure rfl) rfl <| wpl_nil <| ex_then <| wpc_seq ?_
   refine wpc_cond rfl (fun hc7 => ?_) (fun hc7 => ?_)
   ·
    simp only [decide_eq_true_eq] at hc7
    have hEi := hE i zz16
    refine wpc_skip <| ex_then <| wpc_seq <| wpc_block <| wpc_seq <| wpc_region <| wpl_q (q_pure rfl) rfl <| wpl_q (q_pure rfl) rfl <| wpl_nil <| ex_then <| wpc_seq <| wpc_region ?_
    refine wpl_q (q_pure rfl) rfl <| wpl_q (q_pure rfl) rfl ?_
    refine wpl_t (t_purV rfl hcb rfl fun w h => hcl i w zz16 (h.sub .nil .nil)) rfl (fun b11 => ?_)
    refine wpl_t (t_alloc Tryz.ti32 (v8s (List.replicate 16 0)) (by rfl)) rfl (fun b5 => ?_)
    refine wpl_t0 (t_stA Tryz.ti32 rfl rfl zz0 (v8s_one _) zz0) (fun _ => ?_)
    refine wpl_nil <| ex_then <| wpc_region <| wpl_q (q_pure rfl) rfl <| wpl_q (q_arAll Tryz.underlying32 Tryz.ti5 rfl rfl) rfl ?_
    refine wpl_tp (t_apW Tryz.underlying49 Tryz.ti5 rfl zz22 rfl rfl (fun w h => zz12) (v8s_one _) zz1 zz1 _ zz18) rfl (fun b14 p14 => ?_)
    refine wpl_q (q_pure rfl) rfl <| wpl_nil <| ex_block <| ex_then <| wpc_region ?_
    refine wpl_q (q_addN (b := 1) rfl rfl zz1) rfl ?_
    refine wpl_q (q_pure rfl) rfl <| wpl_nil ?_
    refine ex_again ⟨(i + 1, b14), ⟨zz16, by rw [accF, List.length_append, hEi]; exact p14⟩⟩ ?_ ?_ ?_
    ·
     exact zz10
    ·
     exact fun w h => by
       dsimp only
       rw [accF, List.length_append, hEi]
       first | exact h.sub SubC.h SubC.h | exact h.sub zz6 zz6
    ·
     (show 35 - (i + 1) < 35 - i); omega
   ·
    simp only [decide_eq_false_iff_not] at hc7
    obtain rfl : i = 35 := by omega
    refine wpc_exit ?_
    refine ex_then_exit ?_
    refine ex_then_exit ?_
    refine ex_block_hit ?_
    refine ex_then <| wpc_seq <| wpc_region <| wpl_q (q_pure rfl) rfl ?_
    refine wpl_t (t_pur Tryz.hb61 rfl fun w h => shortW _ _ w zz15 (glob h hG)) rfl (fun b17 => ?_)
    refine wpl_t0 (t_stA Tryz.ti32 rfl rfl zz0 (v8s_one _) zz0) (fun _ => ?_)
    refine wpl_nil <| ex_then <| wpc_ret ?_
    refine retv1 (.inl rfl) rfl (rv_agg Tryz.underlying32 rfl Tryz.ti32 rfl (fun w h => h.atB) zz0) ?_
    exact fun w h => ⟨rfl, h.below⟩
theorem public1 (i : Nat) (b : Nat) (xs : List UInt8) (w : World) (hxs : xs.length = 16) (hb : CellsAt w.cell? ⟨b, 0, none⟩ (v8s xs)) (hG : Glb w) :
    Calls Tryz.prog 90 [.int .i64 ((i : Nat) : Int), .pointer (some ⟨b, 0, none⟩)].toArray w (Pur w (.agg (v8s (chainF xs i 15)).toArray)) := by
  refine enter (m := 9) (R := Mem w [] [] []) Tryz.func90 rfl rfl (Nat.le_of_ble_eq_true rfl) (Mem.start w) ?_
  refine wpc_seq <| wpc_region ?_
  refine wpl_t (t_alloc Tryz.ti32 (v8s (List.replicate 16 0)) (by rfl)) rfl (fun b3 => ?_)
  refine wpl_nil <| ex_then <| wpc_seq <| wpc_region ?_
  refine wpl_q (q_loadN Tryz.underlying32 rfl Tryz.ti32 rfl (fun w h => h.at_old hb) zz0) rfl ?_
  refine wpl_q (q_pure rfl) rfl ?_
  refine wpl_t (t_pur Tryz.hb60 rfl fun w h => begin_ _ _ w zz11 (glob h hG)) rfl (fun b6 => ?_)
  refine wpl_q (q_pure rfl) rfl ?_
  refine wpl_t (t_pur Tryz.hb59 rfl fun w h => climb _ _ 0 15 w zz11 (glob h hG) zz16 zz16) rfl (fun b8 => ?_)
  refine wpl_t0 (t_stA Tryz.ti32 rfl rfl zz0 (v8s_one _) zz0) (fun _ => ?_)
  refine wpl_nil <| ex_then <| wpc_ret ?_
  refine retv1 (.inl rfl) rfl (rv_agg Tryz.underlying32 rfl Tryz.ti32 rfl (fun w h => h.atB) zz0) ?_
  exact fun w h => ⟨rfl, h.below⟩
theorem public_ (xs : List UInt8) (w : World) (hxs : xs.length = 16) (hG : Glb w) :
    Calls Tryz.prog 62 [.agg (v8s xs).toArray].toArray w (Pur w (.agg (v8s (publicF xs)).toArray)) := by
  refine enter (m := 5) (R := Mem w [] [] []) Tryz.func62 rfl rfl (Nat.le_of_ble_eq_true rfl) (Mem.start w) ?_
  refine wpc_seq <| wpc_region ?_
  refine wpl_t (t_box rfl (v8s xs) rfl) rfl (fun b1 => ?_)
  refine wpl_t (t_alloc Tryz.ti32 (v8s (List.replicate 16 0)) (by rfl)) rfl (fun b2 => ?_)
  refine wpl_nil <| ex_then <| wpc_seq <| wpc_region ?_
  refine wpl_q (q_fn (us := []) (vs := [_]) rfl rfl) rfl ?_
  refine wpl_t (t_pur Tryz.hb89 rfl fun w h => ends 90 _ (fun i => chainF xs i 15) w (glob h hG) Tryz.hb90 (fun _ _ => chainF_length _ _ _) fun i w1 _ h1 => public1 i b1 xs w1 hxs (h1.at_old h.atB) (glob h1 (glob h hG))) rfl (fun b4 => ?_)
  refine wpl_t0 (t_stA Tryz.ti32 rfl rfl zz0 (v8s_one _) zz0) (fun _ => ?_)
  refine wpl_nil <| ex_then <| wpc_ret ?_
  refine retv1 (.inl rfl) rfl (rv_agg Tryz.underlying32 rfl Tryz.ti32 rfl (fun w h => h.atB) zz0) ?_
  exact fun w h => ⟨rfl, h.below⟩
theorem sign1 (xs : List UInt8) (bv : Value) (bs : List UInt8) (w : World) (hxs : xs.length = 16) (hbv : Seen w.cell? bv bs.length 1 (v8s bs)) (hG : Glb w) :
    Calls Tryz.prog 31 [.agg (v8s xs).toArray, bv].toArray w (GivesP w (fun v => SV v 35) (fun v : Value => v) (fun v => [.row v 35 32 16 (v8s (signF xs bs).flatten)]) (fun _ => [])) := by
  have sbv := hbv.sv
  have lbv := sbv.le
  simp only [maxLen] at lbv
  refine enter (m := 27) (R := Mem w [] [] []) Tryz.func31 rfl rfl (Nat.le_of_ble_eq_true rfl) (Mem.start w) ?_
  refine wpc_seq <| wpc_region ?_
  refine wpl_t (t_box rfl (v8s xs) rfl) rfl (fun b2 => ?_)
  refine wpl_q (q_pure rfl) rfl <| wpl_nil <| ex_then <| wpc_seq <| wpc_region <| wpl_q (q_pure rfl) rfl <| wpl_nil <| ex_then <| wpc_seq <| wpc_seq <| wpc_region <| wpl_q (q_pure rfl) rfl ?_
  refine wpl_tp (t_callP1 Tryz.hb58 rfl fun w h => digits _ _ w zz15 (glob h hG)) rfl (fun b9 p9 => ?_)
  refine wpl_q (q_lenW Tryz.underlying97 rfl zz5) rfl ?_
  refine wpl_q (q_pure rfl) rfl <| wpl_nil <| ex_then <| wpc_block ?_
  refine wpc_loopc (ι := { x : Nat × Value // (x.1 ≤ 35) ∧ (SV x.2 x.1) }) [(2, _), (9, _), (10, _)] (fun x Lc => (11, .int .i64 ((x.1.1 : Nat) : Int)) :: (5, x.1.2) :: Lc) (fun x => Mem w [] [.row x.1.2 x.1.1 32 16 (v8s (sg xs bs x.1.1).flatten), .row b9 35 3 1 (vns (digsF (shortF bs))), .blk b2 32 (v8s xs)] []) (fun x => 35 - x.1.1) ⟨(0, .slice none 0 0), ⟨Nat.zero_le _, SV.nil⟩⟩ zz10 ?_ ?_
  ·
   exact fun w h => h.nilRow 32 16
  ·
   rintro ⟨⟨i, v⟩, ⟨hi0, hi1⟩⟩; try dsimp only
   have hi0 : i ≤ 35 := hi0; have hi1 : SV v i := hi1
   have hdl := digsF_length (shortF bs)
   have hdg : (digsF (shortF bs)).getD i 0 ≤ 15 := dig_le bs i
   refine wpc_seq <| wpc_region <| wpl_q (q_pure rfl) rfl <| wpl_nil <| ex_then <| wpc_seq ?_
   refine wpc_cond rfl (fun hc12 => ?_) (fun hc12 => ?_)
   ·
    try simp only [decide_eq_true_eq, decide_eq_false_iff_not, Bool.and_eq_true, Bool.or_eq_true, beq_iff_eq, bne_iff_ne, ne_eq, Bool.not_eq_true', Bool.not_eq_false', Decidable.not_not] at hc12
    refine wpc_skip <| ex_then <| wpc_seq <| wpc_block <| wpc_seq <| wpc_region <| wpl_q (q_pure rfl) rfl ?_
    refine wpl_q (q_idxW1 Tryz.underlying97 Tryz.ti3 rfl rfl zz5 zz1) rfl ?_
    refine wpl_q (q_ldW Tryz.underlying3 rfl rfl (fun w h => zz12) zz27) rfl ?_
    refine wpl_q (q_pure rfl) rfl <| wpl_q (q_pure rfl) rfl <| wpl_nil <| ex_then <| wpc_region <| wpl_q (q_pure rfl) rfl ?_
    refine wpl_q (q_ldN Tryz.underlying32 rfl Tryz.ti32 rfl zz0) rfl ?_
    refine wpl_q (q_pure rfl) rfl ?_
    refine wpl_t (t_pur Tryz.hb60 rfl fun w h => begin_ _ _ w zz11 (glob h hG)) rfl (fun b19 => ?_)
    refine wpl_q (q_pure rfl) rfl <| wpl_q (q_pure rfl) rfl ?_
    refine wpl_t (t_pur Tryz.hb59 rfl fun w h => climb _ _ 0 _ w zz11 (glob h hG) zz16 zz16) rfl (fun b22 => ?_)
    refine wpl_tp (t_bsS [_] Tryz.underlying26 Tryz.ti32 rfl zz22 rfl zz22 zz22 rfl (all_one zz11)) rfl (fun b23 p23 => ?_)
    refine wpl_tp (t_apW Tryz.underlying26 Tryz.ti32 rfl zz22 rfl rfl (fun w h => zz12) zz17 zz1 zz1 _ zz18) rfl (fun b24 p24 => ?_)
    refine wpl_q (q_pure rfl) rfl <| wpl_nil <| ex_block <| ex_then <| wpc_region ?_
    refine wpl_q (q_addN (b := 1) rfl rfl zz1) rfl ?_
    refine wpl_q (q_pure rfl) rfl <| wpl_nil ?_
    refine ex_again ⟨(i + 1, b24), ⟨zz16, p24⟩⟩ ?_ ?_ ?_
    ·
     exact zz10
    ·
     exact fun w h => by
       dsimp only
       rw [sg_succ, List.flatten_append]
       first | exact h.sub SubC.h SubC.h | exact h.sub zz6 zz6
    ·
     (show 35 - (i + 1) < 35 - i); omega
   ·
    simp only [decide_eq_false_iff_not] at hc12
    obtain rfl : i = 35 := by omega
    refine wpc_exit ?_
    refine ex_then_exit ?_
    refine ex_then_exit ?_
    refine ex_block_hit ?_
    refine ex_then <| wpc_seq <| wpc_region <| wpl_q (q_pure rfl) rfl <| wpl_q (q_pure rfl) rfl <| wpl_nil <| ex_then <| wpc_ret ?_
    refine ret1 (.inl rfl) rfl rfl ?_
    exact fun w h => ⟨v, hi1, rfl, h.below, h.made (.keep .nil) .nil⟩
theorem recover1 (i : Nat) (b1 b2 : Nat) (cv dv : Value) (chs : List (List UInt8)) (bs : List UInt8) (w : World) (hb1 : w.cell? ⟨b1, 0, none⟩ = some cv) (hb2 : w.cell? ⟨b2, 0, none⟩ = some dv) (hcv : Seen w.cell? cv chs.length 16 (v8s chs.flatten)) (hlc : ∀ x ∈ chs, x.length = 16) (hdv : Seen w.cell? dv 35 1 (vns (digsF (shortF bs)))) (hi : i < 35) (hcl : chs.length = 35) (hG : Glb w) :
    Calls Tryz.prog 94 [.int .i64 ((i : Nat) : Int), .pointer (some ⟨b1, 0, none⟩), .pointer (some ⟨b2, 0, none⟩)].toArray w (Pur w (.agg (v8s (recE bs chs i)).toArray)) := by
  have scv := hcv.sv
  have sdv := hdv.sv
  have hdl := digsF_length (shortF bs)
  have hdg : (digsF (shortF bs)).getD i 0 ≤ 15 := dig_le bs i
  have hgl := getD_mem_len hlc (i := i) zz16
  refine enter (m := 15) (R := Mem w [] [] []) Tryz.func94 rfl rfl (Nat.le_of_ble_eq_true rfl) (Mem.start w) ?_
  refine wpc_seq <| wpc_region ?_
  refine wpl_t (t_alloc Tryz.ti32 (v8s (List.replicate 16 0)) (by rfl)) rfl (fun b4 => ?_)
  refine wpl_nil <| ex_then <| wpc_seq ?_
  refine wpc_draw 10 zz8 (fun _ h => h.drew) ?_
  refine wpd_q 0 rfl zz8 trivial (q_load1 Tryz.underlying26 rfl rfl (fun w h => h.cell_old hb1)) rfl (fun _ h => h) ?_
  refine wpd_p 1 rfl zz8 trivial (q_pure rfl) rfl sk0 ?_
  refine wpd_p 2 rfl zz8 trivial (q_idxW Tryz.underlying26 Tryz.ti32 rfl rfl zz5 zz1) rfl sk0 ?_
  refine wpd_q 3 rfl zz8 trivial (q_ldWN Tryz.underlying32 rfl Tryz.ti32 rfl (fun w h => zz12) (v8s (chs.getD i [])) (part8 hlc zz16) ((v8s_length _).trans (getD_mem_len hlc zz16))) rfl (fun _ h => h) ?_
  refine wpd_p 4 rfl zz8 trivial (q_pure rfl) rfl sk0 ?_
  refine wpd_q 5 rfl zz8 trivial (q_load1 Tryz.underlying97 rfl rfl (fun w h => h.cell_old hb2)) rfl (fun _ h => h) ?_
  refine wpd_p 6 rfl zz8 trivial (q_pure rfl) rfl sk0 ?_
  refine wpd_p 7 rfl zz8 trivial (q_idxW1 Tryz.underlying97 Tryz.ti3 rfl rfl zz5 zz1) rfl sk0 ?_
  refine wpd_q 8 rfl zz8 trivial (q_ldW Tryz.underlying3 rfl rfl (fun w h => zz12) zz27) rfl (fun _ h => h) ?_
  refine wpd_t 9 rfl zz8 trivial (t_pur Tryz.hb59 rfl fun w h => climb _ _ _ 15 w zz11 (glob h hG) zz16 zz16) rfl (fun _ => sk0) (fun b14 => ?_)
  refine wpd_t0 10 rfl zz8 trivial (t_stA Tryz.ti32 rfl rfl zz0 (v8s_one _) zz0) (fun _ => skk rfl) (fun _ => ?_)
  refine wpd_done zz8 ?_
  refine ex_then <| wpc_ret ?_
  refine retv1 (.inl rfl) rfl (rv_agg Tryz.underlying32 rfl Tryz.ti32 rfl (fun w h => h.atB) ((v8s_length _).trans (recE_length bs chs hlc i zz16))) ?_
  exact fun w h => ⟨rfl, h.below⟩
theorem recover (bv : Value) (bs : List UInt8) (cv : Value) (chs : List (List UInt8)) (w : World) (hbv : Seen w.cell? bv bs.length 1 (v8s bs)) (hcv : Seen w.cell? cv chs.length 16 (v8s chs.flatten)) (hlchs : ∀ x ∈ chs, x.length = 16) (hG : Glb w) :
    Calls Tryz.prog 75 [bv, cv].toArray w (Pur w (.tuple #[.agg (v8s (recF bs chs)).toArray, .int .i64 (recEr chs)])) := by
  have sbv := hbv.sv
  have lbv := sbv.le
  simp only [maxLen] at lbv
  have scv := hcv.sv
  have lcv := scv.le
  simp only [maxLen] at lcv
  refine enter (m := 15) (R := Mem w [] [] []) Tryz.func75 rfl rfl (Nat.le_of_ble_eq_true rfl) (Mem.start w) ?_
  refine wpc_seq <| wpc_region ?_
  refine wpl_t (t_box rfl [cv] scv.cells) rfl (fun b3 => ?_)
  refine wpl_t (t_alloc Tryz.ti32 (v8s (List.replicate 16 0)) (by rfl)) rfl (fun b4 => ?_)
  refine wpl_q (q_pure rfl) rfl <| wpl_nil <| ex_then <| wpc_seq <| wpc_seq <| wpc_region ?_
  refine wpl_q (q_load1 Tryz.underlying26 rfl rfl (fun w h => h.cell_blk zz7 rfl)) rfl ?_
  refine wpl_q (q_lenW Tryz.underlying26 rfl zz5) rfl ?_
  refine wpl_q (q_pure rfl) rfl <| wpl_nil <| ex_then ?_
  refine wpc_cond rfl (fun hc9 => ?_) (fun hc9 => ?_)
  ·
   simp only [bne_iff_ne, ne_eq, decide_eq_true_eq] at hc9
   have hne : chs.length ≠ 35 := by omega
   have hr : recF bs chs = List.replicate 16 0 := if_neg hne
   have he : recEr chs = 12 := if_neg hne
   refine wpc_seq <| wpc_region ?_
   refine wpl_q (q_build (cs := (v8s (List.replicate 16 0))) rfl (built_array Tryz.underlying32 Tryz.ti32 Tryz.ti5 rfl)) rfl ?_
   refine wpl_t0 (t_stA Tryz.ti32 rfl rfl zz0 (v8s_one _) zz0) (fun _ => ?_)
   refine wpl_q (q_pure rfl) rfl <| wpl_nil <| ex_then <| wpc_ret ?_
   refine ex_then_ret ?_
   refine retv2 (.inl rfl) rfl (rv_agg Tryz.underlying32 rfl Tryz.ti32 rfl (fun w h => h.atB) zz0) (rv_tmp rfl) ?_
   exact fun w h => ⟨by rw [hr, he], h.below⟩
  ·
   simp only [bne_eq_false_iff_eq, decide_eq_false_iff_not, ne_eq, Decidable.not_not] at hc9
   have heq : chs.length = 35 := by omega
   have hr : recF bs chs = shortF (accF (recE bs chs) 35) := if_pos heq
   have he : recEr chs = 0 := if_pos heq
   refine wpc_skip <| ex_then <| wpc_seq <| wpc_region <| wpl_q (q_pure rfl) rfl ?_
   refine wpl_tp (t_callP1 Tryz.hb58 rfl fun w h => digits _ _ w zz15 (glob h hG)) rfl (fun b12 p12 => ?_)
   refine wpl_t (t_alloc Tryz.ti97 [.slice none 0 0] rfl) rfl (fun b6 => ?_)
   refine wpl_t0 (t_st1 Tryz.ti97 rfl rfl (SV.one zz5) zz4 _ rfl) (fun _ => ?_)
   refine wpl_nil <| ex_then <| wpc_seq <| wpc_region ?_
   refine wpl_q (q_fn (us := []) (vs := [_, _]) rfl rfl) rfl ?_
   refine wpl_t (t_pur Tryz.hb89 rfl fun w h => ends 94 _ (recE bs chs) w (glob h hG) Tryz.hb94 (fun i hi => recE_length bs chs hlchs i zz16) fun i w1 hi h1 => recover1 i b3 b6 cv b12 chs bs w1 (h1.cell_old (h.cell_blk zz7 rfl)) (h1.cell_old (h.cell_blk zz7 rfl)) (h1.seen_old (h.seen_old hcv)) hlchs (h1.seen_old h.seenV) hi heq (glob h1 (glob h hG))) rfl (fun b14 => ?_)
   refine wpl_t0 (t_stA Tryz.ti32 rfl rfl zz0 (v8s_one _) zz0) (fun _ => ?_)
   refine wpl_q (q_pure rfl) rfl <| wpl_nil <| ex_then <| wpc_ret ?_
   refine retv2 (.inl rfl) rfl (rv_agg Tryz.underlying32 rfl Tryz.ti32 rfl (fun w h => h.atB) zz0) (rv_tmp rfl) ?_
   exact fun w h => ⟨by rw [hr, he], h.below⟩
end Go.Proofs.YtgnablliekgbgaaGreatDoor
