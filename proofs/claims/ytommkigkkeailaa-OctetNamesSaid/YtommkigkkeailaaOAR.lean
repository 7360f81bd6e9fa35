/- Values of the last law. -/
import Derived.Test.YtommkigkkeailaaOAQ
namespace Go.Proofs.Ytommkigkkeailaa
set_option linter.unusedSimpArgs false
set_option linter.unusedVariables false
open Go Go.PL Go.RowKit

/-- Lists in each other. -/
def nestF : Nat → Tr
  | 0 => .nd 1 [] []
  | 1 => .nd 1 [] []
  | k + 2 => .nd 128 [] [nestF (k + 1)]
theorem nestF_succ {i : Nat} (h : 1 ≤ i) : nestF (i + 1) = .nd 128 [] [nestF i] := by
  obtain ⟨k, rfl⟩ : ∃ k, i = k + 1 := ⟨i - 1, by omega⟩
  rfl
theorem cntL_rep (n : Nat) (t : Tr) : cntL (List.replicate n t) = n * t.cnt := by
  induction n with
  | zero => simp [cntL]
  | succ n ih => rw [List.replicate_succ, cntL, ih, Nat.succ_mul]; omega
theorem sizL_rep (n : Nat) (t : Tr) : sizL (List.replicate n t) = n * t.siz := by
  induction n with
  | zero => simp [sizL]
  | succ n ih => rw [List.replicate_succ, sizL, ih, Nat.succ_mul]; omega
theorem bytL_rep (n : Nat) (t : Tr) : bytL (List.replicate n t) = n * t.byt := by
  induction n with
  | zero => simp [bytL]
  | succ n ih => rw [List.replicate_succ, bytL, ih, Nat.succ_mul]; omega
theorem depL_rep (n : Nat) (t : Tr) : depL (List.replicate n t) ≤ t.dep := by
  induction n with
  | zero => exact Nat.zero_le _
  | succ n ih => rw [List.replicate_succ, depL]; omega
theorem shpL_rep {n : Nat} {t : Tr} (h : t.shp = true) : shpL (List.replicate n t) = true := by
  induction n with
  | zero => rfl
  | succ n ih => rw [List.replicate_succ, shpL, h, ih]; rfl
theorem trs_rep (n : Nat) (t : HT) : trs (List.replicate n t) = List.replicate n t.tr := by
  induction n with
  | zero => rfl
  | succ n ih => rw [List.replicate_succ, trs, ih, List.replicate_succ]
theorem shp_leaf {g : UInt8} {bs : List UInt8} (h0 : g ≠ 0) (h1 : g.toNat < 128) : (Tr.nd g bs []).shp = true := by
  have h2 : ¬ (128 : UInt8) ≤ g := fun h => by
    have h : (128 : Nat) ≤ g.toNat := h
    omega
  rw [Tr.shp, badT, shpL]
  simp [h0, h2]
theorem check_leaf {g : UInt8} {bs : List UInt8} (h0 : g ≠ 0) (h1 : g.toNat < 128) {n : Nat} (hn : bs.length = n) (h2 : 1 + wideF (n + 0) + (n + 0) ≤ 65536) : checkF (.nd g bs []) = 0 := by
  subst hn
  exact checkF_mk (by show 1 + 0 ≤ 4000; omega) (by show 0 + 1 ≤ 12; omega) (shp_leaf h0 h1) h2
theorem check_long {g : UInt8} {bs : List UInt8} (h0 : g ≠ 0) (h1 : g.toNat < 128) {n : Nat} (hn : bs.length = n) (h2 : 65536 < 1 + wideF (n + 0) + (n + 0)) : checkF (.nd g bs []) = 4 := by
  subst hn
  rw [checkF, if_neg (by show ¬ (4000 < 1 + 0 ∨ 12 < 0 + 1); omega), if_neg (by rw [shp_leaf h0 h1]; simp)]
  exact if_pos h2
theorem enc_leaf (g : UInt8) (bs : List UInt8) {n : Nat} (hn : bs.length = n) : enc (.nd g bs []) = g :: (lenB n ++ bs) := by
  subst hn
  rw [enc, encL, List.append_nil]; rfl
theorem hseen_rep {r : Rd} {t : HT} (h : HSeen r t) (n : Nat) : HSeenL r (List.replicate n t) := HSeenL_iff.2 fun x hx => by rw [(List.mem_replicate.1 hx).2]; exact h
theorem hseen_z (r : Rd) : HSeen r HT.z := ⟨seen_nil _ 0 _, seen_nil _ 0 _, trivial⟩
theorem hseen_0 (r : Rd) (g : UInt8) : HSeen r (.nd g nl [] nl []) := ⟨seen_nil _ 0 _, seen_nil _ 0 _, trivial⟩
theorem hcs_rep (n : Nat) (t : HT) : (List.replicate n t.c).flatten = hcs (List.replicate n t) := by rw [hcs, List.map_replicate]
theorem hcs_snocR (n : Nat) (t : HT) : hcs (List.replicate n t) ++ t.c = hcs (List.replicate (n + 1) t) := by rw [List.replicate_succ']; exact cat_snoc HT.c _ t

set_option maxRecDepth 100000 in
theorem nested (n : Nat) (w : World)  (hn1 : 1 ≤ n) (hn2 : n ≤ 100) :
    Calls Try.prog 39 [.int .i64 ((n : Nat) : Int)].toArray w (GivesP w (fun y : HT => y.tr = nestF n ∧ y.sv) (fun y => .agg y.c.toArray) (fun y => y.ents) (fun _ => [])) := by
  refine enter (m := 15) (R := Mem w [] [] []) Try.func39 rfl rfl (Nat.le_of_ble_eq_true rfl) (Mem.start w) ?_
  refine wpc_seq ?_
  refine wpc_region ?_
  refine wpl_t (t_alloc Try.ti25 HT.z.c rfl) rfl (fun b2 => ?_)
  refine wpl_nil ?_
  refine ex_then ?_
  refine wpc_seq ?_
  refine wpc_region ?_
  refine wpl_q (q_build (cs := [.int .u8 ((1 : UInt8).toNat : Int), nl, nl]) rfl (built_o0 1)) rfl ?_
  refine wpl_t (t_alloc Try.ti25 HT.z.c rfl) rfl (fun b3 => ?_)
  refine wpl_t0 (t_stA Try.ti25 rfl rfl LenC.h OneC.h LenC.h) (fun _ => ?_)
  refine wpl_nil ?_
  refine ex_then ?_
  refine wpc_seq ?_
  refine wpc_seq ?_
  refine wpc_region ?_
  refine wpl_q (q_pure rfl) rfl ?_
  refine wpl_nil ?_
  refine ex_then ?_
  refine wpc_block ?_
  refine wpc_loopc (ι := { x : Nat × HT // (1 ≤ x.1) ∧ (x.1 ≤ n) ∧ (x.2.tr = nestF x.1) ∧ (x.2.sv) }) [(0, _), (2, _), (3, _)] (fun x Lc => (4, .int .i64 ((x.1.1 : Nat) : Int)) :: Lc) (fun x => Mem w [] (.blk b3 25 x.1.2.c :: .blk b2 25 HT.z.c :: x.1.2.ents) []) (fun x => n - x.1.1) ⟨(1, .nd 1 nl [] nl []), ⟨Nat.le_refl _, hn1, rfl, SV.nil, SV.nil⟩⟩ (by repeat (first | exact trivial | refine ⟨rfl, ?_⟩)) ?_ ?_
  ·
   exact fun w1 h => by
     have h2 : Mem w [] [.blk b3 25 [.int .u8 ((1 : UInt8).toNat : Int), nl, nl], .blk b2 25 HT.z.c, .row nl 0 5 1 [], .row nl 0 25 3 []] [] w1 := ((h.nilRow 25 3).nilRow 5 1).sel
     exact h2
  ·
   rintro ⟨⟨i, y⟩, ⟨hi0, hi1, hi2, hi3⟩⟩; try dsimp only
   have hi0 : 1 ≤ i := hi0; have hi1 : i ≤ n := hi1; have hi2 : y.tr = nestF i := hi2; have hi3 : y.sv := hi3
   haveI := hi3.one
   refine wpc_seq ?_
   refine wpc_seq ?_
   refine wpc_region ?_
   refine wpl_q (q_pure rfl) rfl ?_
   refine wpl_q (q_pure rfl) rfl ?_
   refine wpl_q (q_pure rfl) rfl ?_
   refine wpl_nil ?_
   refine ex_then ?_
   refine wpc_cond rfl (fun hc8 => ?_) (fun hc8 => ?_)
   ·
    simp only [decide_eq_true_eq] at hc8
    refine wpc_skip ?_
    refine ex_then ?_
    refine wpc_seq ?_
    refine wpc_block ?_
    refine wpc_region ?_
    refine wpl_q (q_ldN Try.underlying25 rfl Try.ti25 rfl LenC.h) rfl ?_
    refine wpl_tp (t_bsG [.agg y.c.toArray] (hcs [y]) Try.underlying23 Try.ti25 rfl (by decide) rfl (by decide) (by decide) rfl (by intro v hv; rw [List.mem_singleton] at hv; subst hv; exact HT.c_length _) rfl) rfl (fun b12 p12 => ?_)
    haveI := oneH (t := 128) SV.nil p12
    refine wpl_q (q_build (cs := [.int .u8 ((128 : UInt8).toNat : Int), nl, b12]) rfl (built_o2 128 p12)) rfl ?_
    refine wpl_t0 (t_stA Try.ti25 rfl rfl LenC.h OneC.h LenC.h) (fun _ => ?_)
    refine wpl_nil ?_
    refine ex_block ?_
    refine ex_then ?_
    refine wpc_region ?_
    refine wpl_q (q_pure rfl) rfl ?_
    refine wpl_q (q_addN (b := 1) rfl rfl (by first | omega | (simp only [maxLen]; omega) | (simp only [List.length_append, List.length_cons, List.length_nil, List.length_take, maxLen]; omega) | (simp only [List.length_append, List.length_cons, List.length_nil, List.length_take]; omega))) rfl ?_
    refine wpl_q (q_pure rfl) rfl ?_
    refine wpl_nil ?_
    refine ex_again ⟨(i + 1, .nd 128 nl [] b12 [y]), ⟨by dsimp only; omega, by dsimp only; omega, by rw [nestF_succ hi0, ← hi2]; rfl, SV.nil, p12⟩⟩ ?_ ?_ ?_
    ·
     exact (by repeat (first | exact trivial | refine ⟨rfl, ?_⟩))
    ·
     exact fun w1 h => by
       have q : Mem w [] (.blk b3 25 [.int .u8 ((128 : UInt8).toNat : Int), nl, b12] :: .blk b2 25 HT.z.c :: .row nl 0 5 1 [] :: .row b12 1 25 3 (hcs [y]) :: y.ents) [] w1 := (h.nilRow 5 1).sel
       have e : entsL [y] = y.ents := List.append_nil _
       show Mem w [] (.blk b3 25 [.int .u8 ((128 : UInt8).toNat : Int), nl, b12] :: .blk b2 25 HT.z.c :: .row nl 0 5 1 [] :: .row b12 1 25 3 (hcs [y]) :: entsL [y]) [] w1
       rw [e]; exact q
    ·
     (show n - (i + 1) < n - i); omega
   ·
    simp only [decide_eq_false_iff_not] at hc8
    obtain rfl : i = n := by omega
    refine wpc_exit ?_
    refine ex_then_exit ?_
    refine ex_then_exit ?_
    refine ex_block_hit ?_
    refine ex_then ?_
    refine wpc_seq ?_
    refine wpc_region ?_
    refine wpl_q (q_ldN Try.underlying25 rfl Try.ti25 rfl LenC.h) rfl ?_
    refine wpl_t0 (t_stA Try.ti25 rfl rfl LenC.h OneC.h LenC.h) (fun _ => ?_)
    refine wpl_nil ?_
    refine ex_then ?_
    refine wpc_ret ?_
    refine retv1 (.inl rfl) rfl (rv_agg Try.underlying25 rfl Try.ti25 rfl (fun w h => h.atB) LenC.h) ?_
    exact fun w h => ⟨y, ⟨hi2, hi3⟩, rfl, h.below, h.made SubC.h .nil⟩

end Go.Proofs.Ytommkigkkeailaa
