/- merkle: nodes, paths, the check. -/
import Derived.Test.YtbkgfndojlhdoaaDoorD14
import Derived.Test.YtbkgfndojlhdoaaDoorPLW
namespace Go.Proofs.YtbkgfndojlhdoaaDoor
set_option linter.unusedSimpArgs false
set_option linter.unusedVariables false
open Go Go.PL Go.RowKit

def joinedF (a b : List UInt8) : List UInt8 := shortF ([1] ++ a ++ b)
theorem joinedF_length (a b : List UInt8) : (joinedF a b).length = 16 := by rw [joinedF]; exact shortF_length _
def checkF (ht idx : Int) (nc np : Nat) : Int := if 0 ≤ ht ∧ ht ≤ 4 then (if 0 ≤ idx ∧ idx < ((2 ^ ht.toNat : Nat) : Int) ∧ nc = 35 ∧ (np : Int) = ht then 0 else 12) else 2
theorem check_2 {ht idx : Int} {nc np : Nat} (h : ¬ (0 ≤ ht ∧ ht ≤ 4)) : checkF ht idx nc np = 2 := if_neg h
theorem check_in {m : Nat} {idx : Int} {nc np : Nat} (h : (m : Int) ≤ 4) : checkF m idx nc np = if 0 ≤ idx ∧ idx < ((2 ^ m : Nat) : Int) ∧ nc = 35 ∧ np = m then 0 else 12 := by
  unfold checkF
  rw [if_pos ⟨Int.natCast_nonneg m, h⟩, Int.toNat_natCast]
  simp only [Int.ofNat_inj]
theorem check_12 {m : Nat} {idx : Int} {nc np : Nat} (h : (m : Int) ≤ 4) (hn : ¬ (0 ≤ idx ∧ idx < ((2 ^ m : Nat) : Int) ∧ nc = 35 ∧ np = m)) : checkF m idx nc np = 12 := (check_in h).trans (if_neg hn)
theorem check_0 {m : Nat} {idx : Int} {nc np : Nat} (h : (m : Int) ≤ 4) (hn : 0 ≤ idx ∧ idx < ((2 ^ m : Nat) : Int) ∧ nc = 35 ∧ np = m) : checkF m idx nc np = 0 := (check_in h).trans (if_pos hn)
theorem check_spec {ht idx : Int} {nc np : Nat} (h : checkF ht idx nc np = 0) : ∃ m k : Nat, ht = (m : Int) ∧ idx = (k : Int) ∧ m ≤ 4 ∧ k < 2 ^ m ∧ nc = 35 ∧ np = m := by
  unfold checkF at h
  split at h
  · rename_i h1
    split at h
    · rename_i h2
      exact ⟨ht.toNat, idx.toNat, by omega, by omega, by omega, by omega, h2.2.2.1, by omega⟩
    · cases h
  · cases h
def stepU (x : List UInt8) (j : Nat) (p : List UInt8) : List UInt8 := if j % 2 = 0 then joinedF x p else joinedF p x
theorem stepU_length (x : List UInt8) (j : Nat) (p : List UInt8) : (stepU x j p).length = 16 := by unfold stepU; split <;> exact joinedF_length _ _
def upF (x : List UInt8) (k : Nat) (ps : List (List UInt8)) : Nat → List UInt8
  | 0 => x
  | i + 1 => stepU (upF x k ps i) (k / 2 ^ i) (ps.getD i [])
theorem upF_length {x : List UInt8} (hx : x.length = 16) (k : Nat) (ps : List (List UInt8)) : ∀ i, (upF x k ps i).length = 16
  | 0 => hx
  | i + 1 => by rw [upF]; exact stepU_length _ _ _
theorem pow_le16 {m : Nat} (h : m ≤ 4) : 2 ^ m ≤ 16 := Nat.le_trans (Nat.pow_le_pow_right (by decide) h) (by decide)

set_option maxRecDepth 100000 in
theorem good (ht : Int) (w : World)   :
    Calls Tryd.prog 32 [.int .i64 ht].toArray w (Pur w (.bool (decide (0 ≤ ht ∧ ht ≤ 4)))) := by
  refine enter (m := 9) (R := Mem w [] [] []) Tryd.func32 rfl rfl (Nat.le_of_ble_eq_true rfl) (Mem.start w) ?_
  refine wpc_seq ?_
  refine wpc_region ?_
  refine wpl_q (q_pure rfl) rfl ?_
  refine wpl_nil ?_
  refine ex_then ?_
  refine wpc_seq ?_
  refine wpc_region ?_
  refine wpl_q (q_pure rfl) rfl ?_
  refine wpl_q (q_pure rfl) rfl ?_
  refine wpl_q (q_pure rfl) rfl ?_
  refine wpl_bool2 5 4 rfl rfl (fun hb5 => ?_) (fun hb5 => ?_)
  ·
    try simp only [decide_eq_true_eq, decide_eq_false_iff_not, Bool.and_eq_true, Bool.or_eq_true, beq_iff_eq, bne_iff_ne, ne_eq, Bool.not_eq_true', Bool.not_eq_false', Decidable.not_not] at hb5
    refine wpl_on rfl rfl ?_
    refine wpl_q (q_pure rfl) rfl ?_
    refine wpl_on rfl rfl ?_
    refine wpl_q (q_pure rfl) rfl ?_
    refine wpl_q (q_pure rfl) rfl ?_
    refine wpl_q (q_pure rfl) rfl ?_
    refine wpl_nil ?_
    refine ex_then ?_
    refine wpc_ret ?_
    refine ret1 (.inl rfl) rfl rfl ?_
    exact fun w h => ⟨by simp; omega, h.below⟩
  ·
    try simp only [decide_eq_true_eq, decide_eq_false_iff_not, Bool.and_eq_true, Bool.or_eq_true, beq_iff_eq, bne_iff_ne, ne_eq, Bool.not_eq_true', Bool.not_eq_false', Decidable.not_not] at hb5
    refine wpl_off rfl rfl rfl rfl ?_
    refine wpl_off rfl rfl rfl rfl ?_
    refine wpl_q (q_pure rfl) rfl ?_
    refine wpl_q (q_pure rfl) rfl ?_
    refine wpl_nil ?_
    refine ex_then ?_
    refine wpc_ret ?_
    refine ret1 (.inl rfl) rfl rfl ?_
    exact fun w h => ⟨by simp; omega, h.below⟩

set_option maxRecDepth 100000 in
theorem joined7 (xs : List UInt8) (ys : List UInt8) (w : World) (hxs : xs.length = 16) (hys : ys.length = 16) (hG : Glb w) :
    Calls Tryd.prog 48 [.agg (v8s xs).toArray, .agg (v8s ys).toArray].toArray w (Pur w (.agg (v8s (joinedF xs ys)).toArray)) := by
  refine enter (m := 11) (R := Mem w [] [] []) Tryd.func48 rfl rfl (Nat.le_of_ble_eq_true rfl) (Mem.start w) ?_
  refine wpc_seq ?_
  refine wpc_region ?_
  refine wpl_t (t_box rfl (v8s xs) rfl) rfl (fun b2 => ?_)
  refine wpl_t (t_box rfl (v8s ys) rfl) rfl (fun b3 => ?_)
  refine wpl_t (t_alloc Tryd.ti23 (v8s (List.replicate 16 0)) (by rfl)) rfl (fun b4 => ?_)
  refine wpl_nil ?_
  refine ex_then ?_
  refine wpc_seq ?_
  refine wpc_draw 2 (by kernel_rfl) (fun _ h => h.drew) ?_
  refine wpd_p 1 rfl (by kernel_rfl) trivial (q_arAll Tryd.underlying23 Tryd.ti5 rfl rfl) rfl sk0 ?_
  refine wpd_p 3 rfl (by kernel_rfl) trivial (q_arAll Tryd.underlying23 Tryd.ti5 rfl rfl) rfl sk0 ?_
  refine wpd_tp 0 rfl (by kernel_rfl) trivial (t_bsV (v8s [(1 : UInt8)]) Tryd.underlying26 Tryd.ti5 rfl rfl (by decide) (by decide) rfl (v8s_one _)) rfl (fun _ => (fun w h => .inr (h.sub (by repeat (first | exact Sub.nil | exact Sub.refl _ | with_reducible refine Sub.keep ?_ | refine Sub.drop ?_)) (by repeat (first | exact Sub.nil | exact Sub.refl _ | with_reducible refine Sub.keep ?_ | refine Sub.drop ?_))))) (fun b5 p5 => ?_)
  refine wpd_tp 2 rfl (by kernel_rfl) trivial (t_apW Tryd.underlying26 Tryd.ti5 rfl (by decide) rfl rfl (fun w h => by first | exact h.seenV | exact h.seenA (by first | decide | (simp only [maxLen]; omega)) (by first | with_reducible rfl | (simp only [v8s_length, v32s_length, vis_length, vns_length, v64s_length, List.length_replicate]; first | done | with_reducible assumption | omega) | (rw [v8s_length]; (first | with_reducible assumption | with_reducible exact shortF_length _ | with_reducible exact stepF_length _ _ _ | with_reducible exact sumF_length _ | with_reducible exact climbF_length _ (by first | with_reducible assumption | with_reducible exact shortF_length _ | with_reducible exact beginF_length _ _ | with_reducible exact getD_mem_len (by assumption) (by omega)) _ _ _ | with_reducible exact beginF_length _ _ | with_reducible exact chainF_length _ _ _ | with_reducible exact recF_length _ _ | with_reducible exact publicF_length _ | with_reducible exact getD_mem_len (by assumption) (by omega) | (with_reducible exact List.length_replicate))) | rfl) | exact h.seen_old (by assumption) | exact h.seen_oldL (by assumption) (by assumption) | exact h.seen_fact (by repeat (first | exact List.mem_cons_self .. | apply List.mem_cons_of_mem))) (v8s_one _) (by first | omega | (simp only [maxLen]; omega) | (simp only [List.length_append, List.length_cons, List.length_nil, List.length_take, maxLen]; omega) | (simp only [List.length_append, List.length_cons, List.length_nil, List.length_take]; omega)) (by first | omega | (simp only [maxLen]; omega) | (simp only [List.length_append, List.length_cons, List.length_nil, List.length_take, maxLen]; omega) | (simp only [List.length_append, List.length_cons, List.length_nil, List.length_take]; omega)) _ (by first | with_reducible exact List.nil_append _ | exact (v8s_append _ _).symm | exact (vis_append _ _).symm | exact (vns_append _ _).symm | exact (v64s_append _ _).symm | exact (v32s_append _ _).symm | rfl)) rfl (fun _ => skk rfl) (fun b7 p7 => ?_)
  refine wpd_tp 4 rfl (by kernel_rfl) trivial (t_apW Tryd.underlying26 Tryd.ti5 rfl (by decide) rfl rfl (fun w h => by first | exact h.seenV | exact h.seenA (by first | decide | (simp only [maxLen]; omega)) (by first | with_reducible rfl | (simp only [v8s_length, v32s_length, vis_length, vns_length, v64s_length, List.length_replicate]; first | done | with_reducible assumption | omega) | (rw [v8s_length]; (first | with_reducible assumption | with_reducible exact shortF_length _ | with_reducible exact stepF_length _ _ _ | with_reducible exact sumF_length _ | with_reducible exact climbF_length _ (by first | with_reducible assumption | with_reducible exact shortF_length _ | with_reducible exact beginF_length _ _ | with_reducible exact getD_mem_len (by assumption) (by omega)) _ _ _ | with_reducible exact beginF_length _ _ | with_reducible exact chainF_length _ _ _ | with_reducible exact recF_length _ _ | with_reducible exact publicF_length _ | with_reducible exact getD_mem_len (by assumption) (by omega) | (with_reducible exact List.length_replicate))) | rfl) | exact h.seen_old (by assumption) | exact h.seen_oldL (by assumption) (by assumption) | exact h.seen_fact (by repeat (first | exact List.mem_cons_self .. | apply List.mem_cons_of_mem))) (v8s_one _) (by first | omega | (simp only [maxLen]; omega) | (simp only [List.length_append, List.length_cons, List.length_nil, List.length_take, maxLen]; omega) | (simp only [List.length_append, List.length_cons, List.length_nil, List.length_take]; omega)) (by first | omega | (simp only [maxLen]; omega) | (simp only [List.length_append, List.length_cons, List.length_nil, List.length_take, maxLen]; omega) | (simp only [List.length_append, List.length_cons, List.length_nil, List.length_take]; omega)) _ (by first | with_reducible exact List.nil_append _ | exact (v8s_append _ _).symm | exact (vis_append _ _).symm | exact (vns_append _ _).symm | exact (v64s_append _ _).symm | exact (v32s_append _ _).symm | rfl)) rfl (fun _ => skk rfl) (fun b9 p9 => ?_)
  refine wpd_t 5 rfl (by kernel_rfl) trivial (t_pur Tryd.hb28 rfl fun w h => shortW _ _ w (by first | exact Seen.re8 h.seenV | exact Seen.reS h.seenV (by first | assumption | exact signF_all _ _ | exact sg_all _ _) (by decide) | exact Seen.reN h.seenV | exact h.seenV | exact h.seenA (by first | decide | (simp only [maxLen]; omega)) (by first | with_reducible rfl | (simp only [v8s_length, v32s_length, vis_length, vns_length, v64s_length, List.length_replicate]; first | done | with_reducible assumption | omega) | (rw [v8s_length]; (first | with_reducible assumption | with_reducible exact shortF_length _ | with_reducible exact stepF_length _ _ _ | with_reducible exact sumF_length _ | with_reducible exact climbF_length _ (by first | with_reducible assumption | with_reducible exact shortF_length _ | with_reducible exact beginF_length _ _ | with_reducible exact getD_mem_len (by assumption) (by omega)) _ _ _ | with_reducible exact beginF_length _ _ | with_reducible exact chainF_length _ _ _ | with_reducible exact recF_length _ _ | with_reducible exact publicF_length _ | with_reducible exact getD_mem_len (by assumption) (by omega) | (with_reducible exact List.length_replicate))) | rfl) | exact h.seen_old (by assumption) | exact h.seen_oldL (by assumption) (by assumption) | exact Seen.re8 (h.seen_fact (by repeat (first | exact List.mem_cons_self .. | apply List.mem_cons_of_mem))) | exact h.seen_fact (by repeat (first | exact List.mem_cons_self .. | apply List.mem_cons_of_mem))) (glob h hG)) rfl (fun _ => skk rfl) (fun b10 => ?_)
  refine wpd_t0 6 rfl (by kernel_rfl) trivial (t_stA Tryd.ti23 rfl rfl (by first | with_reducible rfl | (simp only [v8s_length, v32s_length, vis_length, vns_length, v64s_length, List.length_replicate]; first | done | with_reducible assumption | omega) | (rw [v8s_length]; (first | with_reducible assumption | with_reducible exact shortF_length _ | with_reducible exact stepF_length _ _ _ | with_reducible exact sumF_length _ | with_reducible exact climbF_length _ (by first | with_reducible assumption | with_reducible exact shortF_length _ | with_reducible exact beginF_length _ _ | with_reducible exact getD_mem_len (by assumption) (by omega)) _ _ _ | with_reducible exact beginF_length _ _ | with_reducible exact chainF_length _ _ _ | with_reducible exact recF_length _ _ | with_reducible exact publicF_length _ | with_reducible exact getD_mem_len (by assumption) (by omega) | (with_reducible exact List.length_replicate))) | rfl) (v8s_one _) (by first | with_reducible rfl | (simp only [v8s_length, v32s_length, vis_length, vns_length, v64s_length, List.length_replicate]; first | done | with_reducible assumption | omega) | (rw [v8s_length]; (first | with_reducible assumption | with_reducible exact shortF_length _ | with_reducible exact stepF_length _ _ _ | with_reducible exact sumF_length _ | with_reducible exact climbF_length _ (by first | with_reducible assumption | with_reducible exact shortF_length _ | with_reducible exact beginF_length _ _ | with_reducible exact getD_mem_len (by assumption) (by omega)) _ _ _ | with_reducible exact beginF_length _ _ | with_reducible exact chainF_length _ _ _ | with_reducible exact recF_length _ _ | with_reducible exact publicF_length _ | with_reducible exact getD_mem_len (by assumption) (by omega) | (with_reducible exact List.length_replicate))) | rfl)) (fun _ => skk rfl) (fun _ => ?_)
  refine wpd_done (by kernel_rfl) ?_
  refine ex_then ?_
  refine wpc_ret ?_
  refine retv1 (.inl rfl) rfl (rv_agg Tryd.underlying23 rfl Tryd.ti23 rfl (fun w h => h.atB) (by first | with_reducible rfl | (simp only [v8s_length, v32s_length, vis_length, vns_length, v64s_length, List.length_replicate]; first | done | with_reducible assumption | omega) | (rw [v8s_length]; (first | with_reducible assumption | with_reducible exact shortF_length _ | with_reducible exact stepF_length _ _ _ | with_reducible exact sumF_length _ | with_reducible exact climbF_length _ (by first | with_reducible assumption | with_reducible exact shortF_length _ | with_reducible exact beginF_length _ _ | with_reducible exact getD_mem_len (by assumption) (by omega)) _ _ _ | with_reducible exact beginF_length _ _ | with_reducible exact chainF_length _ _ _ | with_reducible exact recF_length _ _ | with_reducible exact publicF_length _ | with_reducible exact getD_mem_len (by assumption) (by omega) | (with_reducible exact List.length_replicate))) | rfl)) ?_
  exact fun w h => ⟨rfl, h.below⟩

set_option maxRecDepth 100000 in
theorem check7 (ht : Int) (cv pv : Value) (chs ps : List (List UInt8)) (idx : Int) (w : World) (hcv : Seen w.cell? cv chs.length 16 (v8s chs.flatten)) (hlchs : ∀ x ∈ chs, x.length = 16) (hpv : Seen w.cell? pv ps.length 16 (v8s ps.flatten)) (hlps : ∀ x ∈ ps, x.length = 16)  :
    Calls Tryd.prog 14 [.int .i64 ht, .agg #[.int .i64 idx, cv, pv]].toArray w (Pur w (.int .i64 (checkF ht idx chs.length ps.length))) := by
  have scv := hcv.sv
  have lcv := scv.le
  simp only [maxLen] at lcv
  have spv := hpv.sv
  have lpv := spv.le
  simp only [maxLen] at lpv
  refine enter (m := 31) (R := Mem w [] [] []) Tryd.func14 rfl rfl (Nat.le_of_ble_eq_true rfl) (Mem.start w) ?_
  refine wpc_seq ?_
  refine wpc_region ?_
  refine wpl_t (t_box rfl [.int .i64 idx, cv, pv] rfl) rfl (fun b3 => ?_)
  refine wpl_q (q_pure rfl) rfl ?_
  refine wpl_nil ?_
  refine ex_then ?_
  refine wpc_seq ?_
  refine wpc_seq ?_
  refine wpc_region ?_
  refine wpl_q (q_pure rfl) rfl ?_
  refine wpl_t (t_pur Tryd.hb32 rfl fun w h => good _ w) rfl (fun b6 => ?_)
  refine wpl_q (q_pure rfl) rfl ?_
  refine wpl_nil ?_
  refine ex_then ?_
  refine wpc_cond rfl (fun hc7 => ?_) (fun hc7 => ?_)
  ·
    try simp only [decide_eq_true_eq, decide_eq_false_iff_not, Bool.and_eq_true, Bool.or_eq_true, beq_iff_eq, bne_iff_ne, ne_eq, Bool.not_eq_true', Bool.not_eq_false', Decidable.not_not] at hc7
    refine wpc_seq ?_
    refine wpc_region ?_
    refine wpl_q (q_pure rfl) rfl ?_
    refine wpl_nil ?_
    refine ex_then ?_
    refine wpc_ret ?_
    refine ex_then_ret ?_
    refine ret1 (.inl rfl) rfl rfl ?_
    exact fun w h => ⟨by rw [check_2 hc7], h.below⟩
  ·
    simp only [Bool.not_eq_false', decide_eq_true_eq] at hc7
    obtain ⟨m, rfl⟩ : ∃ m : Nat, ht = (m : Int) := ⟨ht.toNat, by omega⟩
    have hpw := pow_le16 (m := m) (by omega)
    refine wpc_skip ?_
    refine ex_then ?_
    refine wpc_seq ?_
    refine wpc_seq ?_
    refine wpc_draw 23 (by kernel_rfl) (fun _ h => h.drew) ?_
    refine wpd_p 0 rfl (by kernel_rfl) trivial (q_field Tryd.underlying29 rfl Tryd.ti3 rfl rfl _ rfl) rfl sk0 ?_
    refine wpd_q 1 rfl (by kernel_rfl) trivial (q_ld Tryd.underlying3 rfl rfl (by first | exact vns_get (by first | decide | omega | (simp; omega) | (simp only [v8s_length, v32s_length, vis_length, vns_length, v64s_length]; omega)) | rfl)) rfl (fun _ h => h) ?_
    refine wpd_p 2 rfl (by kernel_rfl) trivial (q_pure rfl) rfl sk0 ?_
    refine wpd_p 3 rfl (by kernel_rfl) trivial (q_pure rfl) rfl sk0 ?_
    refine wpd_bool2 11 10 rfl rfl (fun hb11 => ?_) (fun hb11 => ?_)
    ·
      try simp only [decide_eq_true_eq, decide_eq_false_iff_not, Bool.and_eq_true, Bool.or_eq_true, beq_iff_eq, bne_iff_ne, ne_eq, Bool.not_eq_true', Bool.not_eq_false', Decidable.not_not] at hb11
      refine wpd_off 4 rfl (by kernel_rfl) ⟨_, _, rfl, rfl, rfl⟩ rfl sk0 ?_
      refine wpd_off 5 rfl (by kernel_rfl) ⟨_, _, rfl, rfl, rfl⟩ rfl sk0 ?_
      refine wpd_off 6 rfl (by kernel_rfl) ⟨_, _, rfl, rfl, rfl⟩ rfl sk0 ?_
      refine wpd_off 7 rfl (by kernel_rfl) ⟨_, _, rfl, rfl, rfl⟩ rfl sk0 ?_
      refine wpd_off 8 rfl (by kernel_rfl) ⟨_, _, rfl, rfl, rfl⟩ rfl sk0 ?_
      refine wpd_p 9 rfl (by kernel_rfl) trivial (q_pure rfl) rfl sk0 ?_
      refine wpd_p 10 rfl (by kernel_rfl) trivial (q_pure rfl) rfl sk0 ?_
      refine wpd_off 11 rfl (by kernel_rfl) ⟨_, _, rfl, rfl, rfl⟩ rfl sk0 ?_
      refine wpd_off 12 rfl (by kernel_rfl) ⟨_, _, rfl, rfl, rfl⟩ rfl sk0 ?_
      refine wpd_off 13 rfl (by kernel_rfl) ⟨_, _, rfl, rfl, rfl⟩ rfl sk0 ?_
      refine wpd_off 14 rfl (by kernel_rfl) ⟨_, _, rfl, rfl, rfl⟩ rfl sk0 ?_
      refine wpd_p 15 rfl (by kernel_rfl) trivial (q_pure rfl) rfl sk0 ?_
      refine wpd_p 16 rfl (by kernel_rfl) trivial (q_pure rfl) rfl sk0 ?_
      refine wpd_off 17 rfl (by kernel_rfl) ⟨_, _, rfl, rfl, rfl⟩ rfl sk0 ?_
      refine wpd_off 18 rfl (by kernel_rfl) ⟨_, _, rfl, rfl, rfl⟩ rfl sk0 ?_
      refine wpd_off 19 rfl (by kernel_rfl) ⟨_, _, rfl, rfl, rfl⟩ rfl sk0 ?_
      refine wpd_off 20 rfl (by kernel_rfl) ⟨_, _, rfl, rfl, rfl⟩ rfl sk0 ?_
      refine wpd_off 21 rfl (by kernel_rfl) ⟨_, _, rfl, rfl, rfl⟩ rfl sk0 ?_
      refine wpd_p 22 rfl (by kernel_rfl) trivial (q_pure rfl) rfl sk0 ?_
      refine wpd_done (by kernel_rfl) ?_
      refine ex_then ?_
      refine wpc_cond_t rfl ?_
      refine wpc_seq ?_
      refine wpc_region ?_
      refine wpl_q (q_pure rfl) rfl ?_
      refine wpl_nil ?_
      refine ex_then ?_
      refine wpc_ret ?_
      refine ex_then_ret ?_
      refine ret1 (.inl rfl) rfl rfl ?_
      exact fun w h => ⟨by rw [check_12 (by omega) (by first | omega | (simp only [bne_iff_ne, ne_eq] at *; omega))], h.below⟩
    ·
      try simp only [decide_eq_true_eq, decide_eq_false_iff_not, Bool.and_eq_true, Bool.or_eq_true, beq_iff_eq, bne_iff_ne, ne_eq, Bool.not_eq_true', Bool.not_eq_false', Decidable.not_not] at hb11
      refine wpd_p 4 rfl (by kernel_rfl) ⟨_, rfl, rfl⟩ (q_field Tryd.underlying29 rfl Tryd.ti3 rfl rfl _ rfl) rfl sk0 ?_
      refine wpd_q 5 rfl (by kernel_rfl) ⟨_, rfl, rfl⟩ (q_ld Tryd.underlying3 rfl rfl (by first | exact vns_get (by first | decide | omega | (simp; omega) | (simp only [v8s_length, v32s_length, vis_length, vns_length, v64s_length]; omega)) | rfl)) rfl (fun _ h => h) ?_
      refine wpd_p 6 rfl (by kernel_rfl) ⟨_, rfl, rfl⟩ (q_pure rfl) rfl sk0 ?_
      refine wpd_p 7 rfl (by kernel_rfl) ⟨_, rfl, rfl⟩ (q_shlN (a := 1) rfl rfl (by first | decide | omega) (by first | omega | (simp only [maxLen]; omega) | (simp only [List.length_append, List.length_cons, List.length_nil, List.length_take, maxLen]; omega) | (simp only [List.length_append, List.length_cons, List.length_nil, List.length_take]; omega))) rfl sk0 ?_
      refine wpd_p 8 rfl (by kernel_rfl) ⟨_, rfl, rfl⟩ (q_pure rfl) rfl sk0 ?_
      refine wpd_p 9 rfl (by kernel_rfl) trivial (q_pure rfl) rfl sk0 ?_
      refine wpd_p 10 rfl (by kernel_rfl) trivial (q_pure rfl) rfl sk0 ?_
      refine wpd_bool2 18 16 rfl rfl (fun hb18 => ?_) (fun hb18 => ?_)
      ·
        try simp only [decide_eq_true_eq, decide_eq_false_iff_not, Bool.and_eq_true, Bool.or_eq_true, beq_iff_eq, bne_iff_ne, ne_eq, Bool.not_eq_true', Bool.not_eq_false', Decidable.not_not] at hb18
        refine wpd_off 11 rfl (by kernel_rfl) ⟨_, _, rfl, rfl, rfl⟩ rfl sk0 ?_
        refine wpd_off 12 rfl (by kernel_rfl) ⟨_, _, rfl, rfl, rfl⟩ rfl sk0 ?_
        refine wpd_off 13 rfl (by kernel_rfl) ⟨_, _, rfl, rfl, rfl⟩ rfl sk0 ?_
        refine wpd_off 14 rfl (by kernel_rfl) ⟨_, _, rfl, rfl, rfl⟩ rfl sk0 ?_
        refine wpd_p 15 rfl (by kernel_rfl) trivial (q_pure rfl) rfl sk0 ?_
        refine wpd_p 16 rfl (by kernel_rfl) trivial (q_pure rfl) rfl sk0 ?_
        refine wpd_off 17 rfl (by kernel_rfl) ⟨_, _, rfl, rfl, rfl⟩ rfl sk0 ?_
        refine wpd_off 18 rfl (by kernel_rfl) ⟨_, _, rfl, rfl, rfl⟩ rfl sk0 ?_
        refine wpd_off 19 rfl (by kernel_rfl) ⟨_, _, rfl, rfl, rfl⟩ rfl sk0 ?_
        refine wpd_off 20 rfl (by kernel_rfl) ⟨_, _, rfl, rfl, rfl⟩ rfl sk0 ?_
        refine wpd_off 21 rfl (by kernel_rfl) ⟨_, _, rfl, rfl, rfl⟩ rfl sk0 ?_
        refine wpd_p 22 rfl (by kernel_rfl) trivial (q_pure rfl) rfl sk0 ?_
        refine wpd_done (by kernel_rfl) ?_
        refine ex_then ?_
        refine wpc_cond_t rfl ?_
        refine wpc_seq ?_
        refine wpc_region ?_
        refine wpl_q (q_pure rfl) rfl ?_
        refine wpl_nil ?_
        refine ex_then ?_
        refine wpc_ret ?_
        refine ex_then_ret ?_
        refine ret1 (.inl rfl) rfl rfl ?_
        exact fun w h => ⟨by rw [check_12 (by omega) (by first | omega | (simp only [bne_iff_ne, ne_eq] at *; omega))], h.below⟩
      ·
        try simp only [decide_eq_true_eq, decide_eq_false_iff_not, Bool.and_eq_true, Bool.or_eq_true, beq_iff_eq, bne_iff_ne, ne_eq, Bool.not_eq_true', Bool.not_eq_false', Decidable.not_not] at hb18
        refine wpd_p 11 rfl (by kernel_rfl) ⟨_, rfl, rfl⟩ (q_field Tryd.underlying29 rfl Tryd.ti27 rfl rfl _ rfl) rfl sk0 ?_
        refine wpd_q 12 rfl (by kernel_rfl) ⟨_, rfl, rfl⟩ (q_ld Tryd.underlying27 rfl rfl rfl) rfl (fun _ h => h) ?_
        refine wpd_p 13 rfl (by kernel_rfl) ⟨_, rfl, rfl⟩ (q_lenW Tryd.underlying27 rfl (by first | assumption | exact SV.nil | exact SV.slv (by assumption) (by omega) (by omega) | exact arv_sv (by first | decide | (simp only [maxLen]; omega)))) rfl sk0 ?_
        refine wpd_p 14 rfl (by kernel_rfl) ⟨_, rfl, rfl⟩ (q_pure rfl) rfl sk0 ?_
        refine wpd_p 15 rfl (by kernel_rfl) trivial (q_pure rfl) rfl sk0 ?_
        refine wpd_p 16 rfl (by kernel_rfl) trivial (q_pure rfl) rfl sk0 ?_
        refine wpd_bool2 24 22 rfl rfl (fun hb24 => ?_) (fun hb24 => ?_)
        ·
          try simp only [decide_eq_true_eq, decide_eq_false_iff_not, Bool.and_eq_true, Bool.or_eq_true, beq_iff_eq, bne_iff_ne, ne_eq, Bool.not_eq_true', Bool.not_eq_false', Decidable.not_not] at hb24
          refine wpd_off 17 rfl (by kernel_rfl) ⟨_, _, rfl, rfl, rfl⟩ rfl sk0 ?_
          refine wpd_off 18 rfl (by kernel_rfl) ⟨_, _, rfl, rfl, rfl⟩ rfl sk0 ?_
          refine wpd_off 19 rfl (by kernel_rfl) ⟨_, _, rfl, rfl, rfl⟩ rfl sk0 ?_
          refine wpd_off 20 rfl (by kernel_rfl) ⟨_, _, rfl, rfl, rfl⟩ rfl sk0 ?_
          refine wpd_off 21 rfl (by kernel_rfl) ⟨_, _, rfl, rfl, rfl⟩ rfl sk0 ?_
          refine wpd_p 22 rfl (by kernel_rfl) trivial (q_pure rfl) rfl sk0 ?_
          refine wpd_done (by kernel_rfl) ?_
          refine ex_then ?_
          refine wpc_cond_t rfl ?_
          refine wpc_seq ?_
          refine wpc_region ?_
          refine wpl_q (q_pure rfl) rfl ?_
          refine wpl_nil ?_
          refine ex_then ?_
          refine wpc_ret ?_
          refine ex_then_ret ?_
          refine ret1 (.inl rfl) rfl rfl ?_
          exact fun w h => ⟨by rw [check_12 (by omega) (by first | omega | (simp only [bne_iff_ne, ne_eq] at *; omega))], h.below⟩
        ·
          try simp only [decide_eq_true_eq, decide_eq_false_iff_not, Bool.and_eq_true, Bool.or_eq_true, beq_iff_eq, bne_iff_ne, ne_eq, Bool.not_eq_true', Bool.not_eq_false', Decidable.not_not] at hb24
          refine wpd_p 17 rfl (by kernel_rfl) ⟨_, rfl, rfl⟩ (q_field Tryd.underlying29 rfl Tryd.ti27 rfl rfl _ rfl) rfl sk0 ?_
          refine wpd_q 18 rfl (by kernel_rfl) ⟨_, rfl, rfl⟩ (q_ld Tryd.underlying27 rfl rfl rfl) rfl (fun _ h => h) ?_
          refine wpd_p 19 rfl (by kernel_rfl) ⟨_, rfl, rfl⟩ (q_lenW Tryd.underlying27 rfl (by first | assumption | exact SV.nil | exact SV.slv (by assumption) (by omega) (by omega) | exact arv_sv (by first | decide | (simp only [maxLen]; omega)))) rfl sk0 ?_
          refine wpd_p 20 rfl (by kernel_rfl) ⟨_, rfl, rfl⟩ (q_pure rfl) rfl sk0 ?_
          refine wpd_p 21 rfl (by kernel_rfl) ⟨_, rfl, rfl⟩ (q_pure rfl) rfl sk0 ?_
          refine wpd_p 22 rfl (by kernel_rfl) trivial (q_pure rfl) rfl sk0 ?_
          refine wpd_done (by kernel_rfl) ?_
          refine ex_then ?_
          refine wpc_cond rfl (fun hc30 => ?_) (fun hc30 => ?_)
          ·
            try simp only [decide_eq_true_eq, decide_eq_false_iff_not, Bool.and_eq_true, Bool.or_eq_true, beq_iff_eq, bne_iff_ne, ne_eq, Bool.not_eq_true', Bool.not_eq_false', Decidable.not_not] at hc30
            refine wpc_seq ?_
            refine wpc_region ?_
            refine wpl_q (q_pure rfl) rfl ?_
            refine wpl_nil ?_
            refine ex_then ?_
            refine wpc_ret ?_
            refine ex_then_ret ?_
            refine ret1 (.inl rfl) rfl rfl ?_
            exact fun w h => ⟨by rw [check_12 (by omega) (by first | omega | (simp only [bne_iff_ne, ne_eq] at *; omega))], h.below⟩
          ·
            simp only [bne_eq_false_iff_eq, decide_eq_false_iff_not, ne_eq, Decidable.not_not] at hc30 hb24
            refine wpc_skip ?_
            refine ex_then ?_
            refine wpc_seq ?_
            refine wpc_region ?_
            refine wpl_q (q_pure rfl) rfl ?_
            refine wpl_nil ?_
            refine ex_then ?_
            refine wpc_ret ?_
            refine ret1 (.inl rfl) rfl rfl ?_
            exact fun w h => ⟨by rw [check_0 (by omega) (by omega)], h.below⟩

end Go.Proofs.YtbkgfndojlhdoaaDoor
