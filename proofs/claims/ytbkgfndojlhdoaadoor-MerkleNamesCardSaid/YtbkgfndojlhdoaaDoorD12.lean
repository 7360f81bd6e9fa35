/- One-time signatures: digits. -/
import Derived.Test.YtbkgfndojlhdoaaDoorD11
import Derived.Test.YtbkgfndojlhdoaaDoorPLZ
namespace Go.Proofs.YtbkgfndojlhdoaaDoor
set_option linter.unusedSimpArgs false
set_option linter.unusedVariables false
open Go Go.PL Go.RowKit

def stepF (x : List UInt8) (i j : Nat) : List UInt8 := shortF (x ++ [of8 (i : Int), of8 (j : Int)])
def climbF (x : List UInt8) (i f : Nat) : Nat → List UInt8
  | 0 => x
  | n + 1 => stepF (climbF x i f n) i (f + n)
def beginF (s : List UInt8) (i : Nat) : List UInt8 := stepF s i 255
def chainF (s : List UInt8) (i h : Nat) : List UInt8 := climbF (beginF s i) i 0 h
def digN (s : List UInt8) (k : Nat) : Nat := if k % 2 = 0 then (s.getD (k / 2) 0).toNat / 16 else (s.getD (k / 2) 0).toNat % 16
def digs (s : List UInt8) (n : Nat) : List Nat := (List.range n).map (digN s)
def dsum (s : List UInt8) : Nat → Nat
  | 0 => 0
  | n + 1 => dsum s n + (15 - digN s n)
def digsF (s : List UInt8) : List Nat := digs s 32 ++ [dsum s 32 / 256, dsum s 32 / 16 % 16, dsum s 32 % 16]
theorem stepF_length (x : List UInt8) (i j : Nat) : (stepF x i j).length = 16 := by rw [stepF]; exact shortF_length _
theorem climbF_length (x : List UInt8) (hx : x.length = 16) (i f : Nat) : ∀ n, (climbF x i f n).length = 16
  | 0 => hx
  | n + 1 => by rw [climbF]; exact stepF_length _ _ _
theorem beginF_length (s : List UInt8) (i : Nat) : (beginF s i).length = 16 := by rw [beginF]; exact stepF_length _ _ _
theorem chainF_length (s : List UInt8) (i h : Nat) : (chainF s i h).length = 16 := by rw [chainF]; exact climbF_length _ (beginF_length _ _) _ _ _
theorem digN_le (s : List UInt8) (k : Nat) : digN s k ≤ 15 := by
  have := (s.getD (k / 2) 0).toNat_lt
  unfold digN; split <;> omega
theorem digs_length (s : List UInt8) (n : Nat) : (digs s n).length = n := by simp [digs]
theorem digsF_length (s : List UInt8) : (digsF s).length = 35 := by simp [digsF, digs_length]
theorem digs_succ (s : List UInt8) (n : Nat) : digs s (n + 1) = digs s n ++ [digN s n] := by simp [digs, List.range_succ]
theorem dsum_le (s : List UInt8) : ∀ n, dsum s n ≤ 15 * n
  | 0 => Nat.le_refl _
  | n + 1 => by have := dsum_le s n; unfold dsum; omega
theorem sr4 (x : UInt8) : (sr8 x 4).toNat = x.toNat / 16 := by
  have := x.toNat_lt
  simp only [sr8, UInt8.toNat_ofNat']
  have : min 4 8 = 4 := rfl
  rw [this]; omega
theorem and15 (x : UInt8) : (x &&& 15).toNat = x.toNat % 16 := by
  rw [UInt8.toNat_and]; exact Nat.and_two_pow_sub_one_eq_mod _ 4
theorem nand15 (x : Nat) : x &&& 15 = x % 16 := Nat.and_two_pow_sub_one_eq_mod _ 4
theorem digs_two (s : List UInt8) (i : Nat) : digs s (2 * i) ++ [(sr8 (s.getD i 0) 4).toNat, (s.getD i 0 &&& 15).toNat] = digs s (2 * (i + 1)) := by
  rw [show 2 * (i + 1) = 2 * i + 1 + 1 by omega, digs_succ, digs_succ, List.append_assoc]
  congr 1
  simp only [digN, sr4, and15]
  rw [if_pos (by omega), if_neg (by omega), show 2 * i / 2 = i by omega, show (2 * i + 1) / 2 = i by omega]; rfl
theorem dsum_two (s : List UInt8) (i : Nat) : dsum s (2 * i) + ((30 - (sr8 (s.getD i 0) 4).toNat) - (s.getD i 0 &&& 15).toNat) = dsum s (2 * (i + 1)) := by
  have h1 := digN_le s (2 * i)
  have h2 := digN_le s (2 * i + 1)
  rw [show 2 * (i + 1) = 2 * i + 1 + 1 by omega, dsum, dsum]
  have e1 : digN s (2 * i) = (s.getD i 0).toNat / 16 := by unfold digN; rw [if_pos (by omega), show 2 * i / 2 = i by omega]
  have e2 : digN s (2 * i + 1) = (s.getD i 0).toNat % 16 := by unfold digN; rw [if_neg (by omega), show (2 * i + 1) / 2 = i by omega]
  rw [sr4, and15, ← e1, ← e2]; omega
theorem last3 (s : List UInt8) : digs s 32 ++ [dsum s 32 / 2 ^ 8, (dsum s 32 / 2 ^ 4) &&& 15, dsum s 32 &&& 15] = digsF s := by
  rw [nand15, nand15]; rfl

set_option maxRecDepth 100000 in
theorem digits (bv : Value) (bs : List UInt8) (w : World) (hbv : Seen w.cell? bv bs.length 1 (v8s bs)) (hG : Glb w) :
    Calls Tryd.prog 42 [bv].toArray w (GivesP w (fun v => SV v 35) (fun v : Value => v) (fun v => [.row v 35 3 1 (vns (digsF (shortF bs)))]) (fun _ => [])) := by
  have sbv := hbv.sv
  have lbv := sbv.le
  simp only [maxLen] at lbv
  refine enter (m := 42) (R := Mem w [] [] []) Tryd.func42 rfl rfl (Nat.le_of_ble_eq_true rfl) (Mem.start w) ?_
  refine wpc_seq ?_
  refine wpc_region ?_
  refine wpl_q (q_pure rfl) rfl ?_
  refine wpl_nil ?_
  refine ex_then ?_
  refine wpc_seq ?_
  refine wpc_region ?_
  refine wpl_q (q_pure rfl) rfl ?_
  refine wpl_nil ?_
  refine ex_then ?_
  refine wpc_seq ?_
  refine wpc_region ?_
  refine wpl_q (q_pure rfl) rfl ?_
  refine wpl_nil ?_
  refine ex_then ?_
  refine wpc_seq ?_
  refine wpc_seq ?_
  refine wpc_region ?_
  refine wpl_q (q_pure rfl) rfl ?_
  refine wpl_t (t_pur Tryd.hb28 rfl fun w h => shortW _ _ w (by first | exact h.seenV | exact h.seenA (by first | decide | (simp only [maxLen]; omega)) (by first | rfl | (simp only [v8s_length, v32s_length, vis_length, vns_length, v64s_length, List.length_replicate]; first | done | assumption | omega)) | exact h.seen_old (by assumption) | exact h.seen_oldL (by assumption) (by assumption) | exact h.seen_fact (by repeat (first | exact List.mem_cons_self .. | apply List.mem_cons_of_mem))) (glob h hG)) rfl (fun b10 => ?_)
  refine wpl_q (q_pure rfl) rfl ?_
  refine wpl_nil ?_
  refine ex_then ?_
  refine wpc_block ?_
  refine wpc_loopc (ι := { x : Nat × Value // (x.1 ≤ 16) ∧ (SV x.2 (2 * x.1)) }) [(10, _)] (fun x Lc => (11, .int .i64 ((x.1.1 : Nat) : Int)) :: (3, x.1.2) :: (4, .int .i64 ((dsum (shortF bs) (2 * x.1.1) : Nat) : Int)) :: Lc) (fun x => Mem w [] [.row x.1.2 (2 * x.1.1) 3 1 (vns (digs (shortF bs) (2 * x.1.1)))] []) (fun x => 16 - x.1.1) ⟨(0, .slice none 0 0), ⟨Nat.zero_le _, SV.nil⟩⟩ (by repeat (first | exact trivial | refine ⟨rfl, ?_⟩)) ?_ ?_
  · exact fun w h => h.nilRow 3 1
  · rintro ⟨⟨i, v⟩, ⟨hi0, hi1⟩⟩; dsimp only
    have hi0 : i ≤ 16 := hi0; have hi1 : SV v (2 * i) := hi1
    have hds := dsum_le (shortF bs) (2 * i)
    have hsl := shortF_length bs
    have hx1 := sr4 ((shortF bs).getD i 0)
    have hx2 := and15 ((shortF bs).getD i 0)
    have hx3 := ((shortF bs).getD i 0).toNat_lt
    refine wpc_seq ?_
    refine wpc_region ?_
    refine wpl_q (q_pure rfl) rfl ?_
    refine wpl_nil ?_
    refine ex_then ?_
    refine wpc_seq ?_
    refine wpc_cond rfl (fun hc12 => ?_) (fun hc12 => ?_)
    ·
      try simp only [decide_eq_true_eq, decide_eq_false_iff_not, Bool.and_eq_true, Bool.or_eq_true, beq_iff_eq, bne_iff_ne, ne_eq, Bool.not_eq_true', Bool.not_eq_false', Decidable.not_not] at hc12
      refine wpc_skip ?_
      refine ex_then ?_
      refine wpc_seq ?_
      refine wpc_block ?_
      refine wpc_seq ?_
      refine wpc_region ?_
      refine wpl_q (q_idxVN Tryd.underlying23 Tryd.ti5 Tryd.underlying5 rfl rfl rfl (by omega) (by first | exact v8s_get (by first | decide | omega | (simp; omega) | (simp only [v8s_length, v32s_length, vis_length, vns_length, v64s_length]; omega)) | rfl)) rfl ?_
      refine wpl_q (q_pure rfl) rfl ?_
      refine wpl_nil ?_
      refine ex_then ?_
      refine wpc_seq ?_
      refine wpc_region ?_
      refine wpl_q (q_pure rfl) rfl ?_
      refine wpl_q (q8_shr rfl rfl (by first | decide | omega) 4 rfl) rfl ?_
      refine wpl_q (q8_int Tryd.underlying5 Tryd.underlying3 rfl) rfl ?_
      refine wpl_q (q_pure rfl) rfl ?_
      refine wpl_q (q8_and (b := (15 : UInt8)) rfl rfl) rfl ?_
      refine wpl_q (q8_int Tryd.underlying5 Tryd.underlying3 rfl) rfl ?_
      refine wpl_q (q_pure rfl) rfl ?_
      refine wpl_q (q_pure rfl) rfl ?_
      refine wpl_nil ?_
      refine ex_then ?_
      refine wpc_seq ?_
      refine wpc_region ?_
      refine wpl_q (q_pure rfl) rfl ?_
      refine wpl_q (q_pure rfl) rfl ?_
      refine wpl_q (q_pure rfl) rfl ?_
      refine wpl_tp (t_bsV (vns [_, _]) Tryd.underlying75 Tryd.ti3 rfl rfl (by decide) (by decide) rfl (vns_one _)) rfl (fun b23 p23 => ?_)
      refine wpl_tp (t_apW Tryd.underlying75 Tryd.ti3 rfl (by decide) rfl rfl (fun w h => by first | exact h.seenV | exact h.seenA (by first | decide | (simp only [maxLen]; omega)) (by first | rfl | (simp only [v8s_length, v32s_length, vis_length, vns_length, v64s_length, List.length_replicate]; first | done | assumption | omega)) | exact h.seen_old (by assumption) | exact h.seen_oldL (by assumption) (by assumption) | exact h.seen_fact (by repeat (first | exact List.mem_cons_self .. | apply List.mem_cons_of_mem))) (vns_one _) (by first | omega | (simp only [maxLen]; omega)) (by first | omega | (simp only [maxLen]; omega)) _ (by first | with_reducible exact List.nil_append _ | exact (v8s_append _ _).symm | exact (vis_append _ _).symm | exact (vns_append _ _).symm | exact (v64s_append _ _).symm | exact (v32s_append _ _).symm | rfl)) rfl (fun b24 p24 => ?_)
      refine wpl_q (q_pure rfl) rfl ?_
      refine wpl_nil ?_
      refine ex_then ?_
      refine wpc_region ?_
      refine wpl_q (q_pure rfl) rfl ?_
      refine wpl_q (q_pure rfl) rfl ?_
      refine wpl_q (q_subN (a := 30) rfl rfl (by omega) (by first | omega | (simp only [maxLen]; omega))) rfl ?_
      refine wpl_q (q_pure rfl) rfl ?_
      refine wpl_q (q_subN rfl rfl (by omega) (by first | omega | (simp only [maxLen]; omega))) rfl ?_
      refine wpl_q (qop_eq (q_addN rfl rfl (by first | omega | (simp only [maxLen]; omega))) (by rw [dsum_two])) rfl ?_
      refine wpl_q (q_pure rfl) rfl ?_
      refine wpl_nil ?_
      refine ex_block ?_
      refine ex_then ?_
      refine wpc_region ?_
      refine wpl_q (q_addN (b := 1) rfl rfl (by first | omega | (simp only [maxLen]; omega))) rfl ?_
      refine wpl_q (q_pure rfl) rfl ?_
      refine wpl_nil ?_
      refine ex_again ⟨(i + 1, b24), ⟨by omega, by rw [show 2 * (i + 1) = 2 * i + 2 by omega]; exact p24⟩⟩ ?_ ?_ ?_
      · exact (by repeat (first | exact trivial | refine ⟨rfl, ?_⟩))
      · exact fun w h => by
          dsimp only
          rw [← digs_two, show 2 * (i + 1) = 2 * i + 2 by omega]
          exact h.sub (by repeat (first | exact Sub.nil | exact Sub.refl _ | with_reducible refine Sub.keep ?_ | refine Sub.drop ?_)) (by repeat (first | exact Sub.nil | exact Sub.refl _ | with_reducible refine Sub.keep ?_ | refine Sub.drop ?_))
      · (show 16 - (i + 1) < 16 - i); omega
    ·
      simp only [decide_eq_false_iff_not] at hc12
      obtain rfl : i = 16 := by omega
      refine wpc_exit ?_
      refine ex_then_exit ?_
      refine ex_then_exit ?_
      refine ex_block_hit ?_
      refine ex_then ?_
      refine wpc_seq ?_
      refine wpc_region ?_
      refine wpl_q (q_pure rfl) rfl ?_
      refine wpl_q (q_pure rfl) rfl ?_
      refine wpl_q (q_shrN (b := 8) rfl rfl (by first | decide | omega)) rfl ?_
      refine wpl_q (q_pure rfl) rfl ?_
      refine wpl_q (q_shrN (b := 4) rfl rfl (by first | decide | omega)) rfl ?_
      refine wpl_q (q_andN (b := 15) rfl rfl (by first | omega | (simp only [maxLen]; omega)) (by first | omega | (simp only [maxLen]; omega))) rfl ?_
      refine wpl_q (q_pure rfl) rfl ?_
      refine wpl_q (q_andN (b := 15) rfl rfl (by first | omega | (simp only [maxLen]; omega)) (by first | omega | (simp only [maxLen]; omega))) rfl ?_
      refine wpl_tp (t_bsV (vns [_, _, _]) Tryd.underlying75 Tryd.ti3 rfl rfl (by decide) (by decide) rfl (vns_one _)) rfl (fun b40 p40 => ?_)
      refine wpl_tp (t_apW Tryd.underlying75 Tryd.ti3 rfl (by decide) rfl rfl (fun w h => by first | exact h.seenV | exact h.seenA (by first | decide | (simp only [maxLen]; omega)) (by first | rfl | (simp only [v8s_length, v32s_length, vis_length, vns_length, v64s_length, List.length_replicate]; first | done | assumption | omega)) | exact h.seen_old (by assumption) | exact h.seen_oldL (by assumption) (by assumption) | exact h.seen_fact (by repeat (first | exact List.mem_cons_self .. | apply List.mem_cons_of_mem))) (vns_one _) (by first | omega | (simp only [maxLen]; omega)) (by first | omega | (simp only [maxLen]; omega)) (vns (digsF (shortF bs))) (by rw [← vns_append]; exact congrArg vns (last3 (shortF bs)))) rfl (fun b41 p41 => ?_)
      refine wpl_q (q_pure rfl) rfl ?_
      refine wpl_nil ?_
      refine ex_then ?_
      refine wpc_ret ?_
      refine ret1 (.inl rfl) rfl rfl ?_
      exact fun w h => ⟨b41, p41, rfl, h.below, h.made (by repeat (first | exact Sub.nil | exact Sub.refl _ | with_reducible refine Sub.keep ?_ | refine Sub.drop ?_)) (by repeat (first | exact Sub.nil | exact Sub.refl _ | with_reducible refine Sub.keep ?_ | refine Sub.drop ?_))⟩

end Go.Proofs.YtbkgfndojlhdoaaDoor
