/- What the statement reaches, in order. -/
import Derived.Test.YtjpfhkjmjnjggaaDoorMNTI
import Derived.Test.YtjpfhkjmjnjggaaDoorMNPLI
import Derived.Test.YtjpfhkjmjnjggaaDoorMNPLZ
import Derived.Test.YtjpfhkjmjnjggaaDoorMNPLL
import Derived.Test.YtjpfhkjmjnjggaaDoorMNPLN
import Derived.Test.YtjpfhkjmjnjggaaDoorMNPLP
import Derived.WalkKit
import Derived.ProofKit
import Derived.OpenShut
import Derived.ChangeOld
import Derived.Below
import Derived.Carry
import Derived.LaidMore
import Derived.Deep.DeepHandedRow
import Derived.Deep.DeepWitnessRowRef
import Derived.Lib.LaidTab
import Derived.Stop.Joined
import Derived.Test.YtjpfhkjmjnjggaaDoorMN1
set_option linter.unusedSimpArgs false
set_option linter.unusedVariables false
set_option maxRecDepth 100000
namespace Go.Proofs.YtjpfhkjmjnjggaaDoor
open Go Go.PL Go.RowKit
def joinedF (a b : List UInt8) : List UInt8 := shortF ([1] ++ a ++ b)
instance l16_short {s : List UInt8} : L16 (shortF s) := ⟨shortF_length s⟩
instance l16_rec {m : List UInt8} {c : List (List UInt8)} : L16 (recF m c) := ⟨recF_length m c⟩
instance l16_pub {s : List UInt8} : L16 (publicF s) := ⟨publicF_length s⟩
theorem joinedF_length (a b : List UInt8) : (joinedF a b).length = 16 := by rw [joinedF]; exact shortF_length _
instance l16_joined {a b : List UInt8} : L16 (joinedF a b) := ⟨joinedF_length a b⟩
def checkF (ht idx : Int) (nc np : Nat) : Int := if 0 ≤ ht ∧ ht ≤ 4 then (if 0 ≤ idx ∧ idx < ((2 ^ ht.toNat : Nat) : Int) ∧ nc = 35 ∧ (np : Int) = ht then 0 else 12) else 2
theorem check_2 {ht idx : Int} {nc np : Nat} (h : ¬ (0 ≤ ht ∧ ht ≤ 4)) : checkF ht idx nc np = 2 := if_neg h
theorem check_in {m : Nat} {idx : Int} {nc np : Nat} (h : (m : Int) ≤ 4) : checkF m idx nc np = if 0 ≤ idx ∧ idx < ((2 ^ m : Nat) : Int) ∧ nc = 35 ∧ np = m then 0 else 12 := by
  unfold checkF
  rw [if_pos ⟨Int.natCast_nonneg m, h⟩, Int.toNat_natCast]
  simp only [Int.ofNat_inj]
theorem check_12 {m : Nat} {idx : Int} {nc np : Nat} (h : (m : Int) ≤ 4) (hn : ¬ (0 ≤ idx ∧ idx < ((2 ^ m : Nat) : Int) ∧ nc = 35 ∧ np = m)) : checkF m idx nc np = 12 := (check_in h).trans (if_neg hn)
theorem check_0 {m : Nat} {idx : Int} {nc np : Nat} (h : (m : Int) ≤ 4) (hn : 0 ≤ idx ∧ idx < ((2 ^ m : Nat) : Int) ∧ nc = 35 ∧ np = m) : checkF m idx nc np = 0 := (check_in h).trans (if_pos hn)
theorem check_spec {ht idx : Int} {nc np : Nat} (h : checkF ht idx nc np = 0) : ∃ m k : Nat, ht = (m : Int) ∧ idx = (k : Int) ∧ m ≤ 4 ∧ k < 2 ^ m ∧ nc = 35 ∧ np = m := by
  unfold checkF at h
  split at h
  · rename_i h1
    split at h
    · rename_i h2
      exact ⟨ht.toNat, idx.toNat, zz13, zz13, zz13, zz13, h2.2.2.1, zz13⟩
    · cases h
  · cases h
def stepU (x : List UInt8) (j : Nat) (p : List UInt8) : List UInt8 := if j % 2 = 0 then joinedF x p else joinedF p x
theorem stepU_length (x : List UInt8) (j : Nat) (p : List UInt8) : (stepU x j p).length = 16 := by unfold stepU; split <;> exact joinedF_length _ _
def upF (x : List UInt8) (k : Nat) (ps : List (List UInt8)) : Nat → List UInt8
  | 0 => x
  | i + 1 => stepU (upF x k ps i) (k / 2 ^ i) (ps.getD i [])
theorem upF_length {x : List UInt8} (hx : x.length = 16) (k : Nat) (ps : List (List UInt8)) : ∀ i, (upF x k ps i).length = 16
  | 0 => hx
  | i + 1 => by rw [upF]; exact stepU_length _ _ _
theorem pow_le16 {m : Nat} (h : m ≤ 4) : 2 ^ m ≤ 16 := Nat.le_trans (Nat.pow_le_pow_right zz17 h) zz17
theorem good (ht : Int) (w : World)   :
    Calls Tryd.prog 65 [.int .i64 ht].toArray w (Pur w (.bool (decide (0 ≤ ht ∧ ht ≤ 4)))) := by
  refine enter (m := 9) (R := Mem w [] [] []) Tryd.func65 rfl rfl (Nat.le_of_ble_eq_true rfl) (Mem.start w) ?_
  refine wpc_seq <| wpc_region <| wpl_q (q_pure rfl) rfl <| wpl_nil <| ex_then <| wpc_seq <| wpc_region <| wpl_q (q_pure rfl) rfl <| wpl_q (q_pure rfl) rfl <| wpl_q (q_pure rfl) rfl ?_
  refine wpl_bool2 5 4 rfl rfl (fun hb5 => ?_) (fun hb5 => ?_)
  ·
   try simp only [decide_eq_true_eq, decide_eq_false_iff_not, Bool.and_eq_true, Bool.or_eq_true, beq_iff_eq, bne_iff_ne, ne_eq, Bool.not_eq_true', Bool.not_eq_false', Decidable.not_not] at hb5
   refine wpl_on rfl rfl <| wpl_q (q_pure rfl) rfl <| wpl_on rfl rfl <| wpl_q (q_pure rfl) rfl <| wpl_q (q_pure rfl) rfl <| wpl_q (q_pure rfl) rfl <| wpl_nil <| ex_then <| wpc_ret ?_
   refine ret1 (.inl rfl) rfl rfl ?_
   exact fun w h => ⟨by simp; omega, h.below⟩
  ·
   try simp only [decide_eq_true_eq, decide_eq_false_iff_not, Bool.and_eq_true, Bool.or_eq_true, beq_iff_eq, bne_iff_ne, ne_eq, Bool.not_eq_true', Bool.not_eq_false', Decidable.not_not] at hb5
   refine wpl_off rfl rfl rfl rfl <| wpl_off rfl rfl rfl rfl <| wpl_q (q_pure rfl) rfl <| wpl_q (q_pure rfl) rfl <| wpl_nil <| ex_then <| wpc_ret ?_
   refine ret1 (.inl rfl) rfl rfl ?_
   exact fun w h => ⟨by simp; omega, h.below⟩
theorem joined7 (xs : List UInt8) (ys : List UInt8) (w : World) (hxs : xs.length = 16) (hys : ys.length = 16) (hG : Glb w) :
    Calls Tryd.prog 103 [.agg (v8s xs).toArray, .agg (v8s ys).toArray].toArray w (Pur w (.agg (v8s (joinedF xs ys)).toArray)) := by
  refine enter (m := 11) (R := Mem w [] [] []) Tryd.func103 rfl rfl (Nat.le_of_ble_eq_true rfl) (Mem.start w) ?_
  refine wpc_seq <| wpc_region ?_
  refine wpl_t (t_box rfl (v8s xs) rfl) rfl (fun b2 => ?_)
  refine wpl_t (t_box rfl (v8s ys) rfl) rfl (fun b3 => ?_)
  refine wpl_t (t_alloc Tryd.ti61 (v8s (List.replicate 16 0)) (by rfl)) rfl (fun b4 => ?_)
  refine wpl_nil <| ex_then <| wpc_seq ?_
  refine wpc_draw 2 zz6 (fun _ h => h.drew) ?_
  refine wpd_p 1 rfl zz6 trivial (q_arAll Tryd.underlying61 Tryd.ti5 rfl rfl) rfl sk0 ?_
  refine wpd_p 3 rfl zz6 trivial (q_arAll Tryd.underlying61 Tryd.ti5 rfl rfl) rfl sk0 ?_
  refine wpd_tp 0 rfl zz6 trivial (t_bsV (v8s [(1 : UInt8)]) Tryd.underlying32 Tryd.ti5 rfl rfl zz17 zz17 rfl (v8s_one _)) rfl (fun _ => (fun w h => .inr (h.sub SubC.h SubC.h))) (fun b5 p5 => ?_)
  refine wpd_tp 2 rfl zz6 trivial (t_apW Tryd.underlying32 Tryd.ti5 rfl zz17 rfl rfl (fun w h => zz9) (v8s_one _) zz2 zz2 _ zz14) rfl (fun _ => skk rfl) (fun b7 p7 => ?_)
  refine wpd_tp 4 rfl zz6 trivial (t_apW Tryd.underlying32 Tryd.ti5 rfl zz17 rfl rfl (fun w h => zz9) (v8s_one _) zz2 zz2 _ zz14) rfl (fun _ => skk rfl) (fun b9 p9 => ?_)
  refine wpd_t 5 rfl zz6 trivial (t_pur Tryd.hb118 rfl fun w h => shortW _ _ w zz11 (glob h hG)) rfl (fun _ => skk rfl) (fun b10 => ?_)
  refine wpd_t0 6 rfl zz6 trivial (t_stA Tryd.ti61 rfl rfl zz0 (v8s_one _) zz0) (fun _ => skk rfl) (fun _ => ?_)
  refine wpd_done zz6 ?_
  refine ex_then <| wpc_ret ?_
  refine retv1 (.inl rfl) rfl (rv_agg Tryd.underlying61 rfl Tryd.ti61 rfl (fun w h => h.atB) zz0) ?_
  exact fun w h => ⟨rfl, h.below⟩
theorem check7 (ht : Int) (cv pv : Value) (chs ps : List (List UInt8)) (idx : Int) (w : World) (hcv : Seen w.cell? cv chs.length 16 (v8s chs.flatten)) (hlchs : ∀ x ∈ chs, x.length = 16) (hpv : Seen w.cell? pv ps.length 16 (v8s ps.flatten)) (hlps : ∀ x ∈ ps, x.length = 16)  :
    Calls Tryd.prog 43 [.int .i64 ht, .agg #[.int .i64 idx, cv, pv]].toArray w (Pur w (.int .i64 (checkF ht idx chs.length ps.length))) := by
  have scv := hcv.sv
  have lcv := scv.le
  simp only [maxLen] at lcv
  have spv := hpv.sv
  have lpv := spv.le
  simp only [maxLen] at lpv
  refine enter (m := 31) (R := Mem w [] [] []) Tryd.func43 rfl rfl (Nat.le_of_ble_eq_true rfl) (Mem.start w) ?_
  refine wpc_seq <| wpc_region ?_
  refine wpl_t (t_box rfl [.int .i64 idx, cv, pv] rfl) rfl (fun b3 => ?_)
  refine wpl_q (q_pure rfl) rfl <| wpl_nil <| ex_then <| wpc_seq <| wpc_seq <| wpc_region <| wpl_q (q_pure rfl) rfl ?_
  refine wpl_t (t_pur Tryd.hb65 rfl fun w h => good _ w) rfl (fun b6 => ?_)
  refine wpl_q (q_pure rfl) rfl <| wpl_nil <| ex_then ?_
  refine wpc_cond rfl (fun hc7 => ?_) (fun hc7 => ?_)
  ·
   try simp only [decide_eq_true_eq, decide_eq_false_iff_not, Bool.and_eq_true, Bool.or_eq_true, beq_iff_eq, bne_iff_ne, ne_eq, Bool.not_eq_true', Bool.not_eq_false', Decidable.not_not] at hc7
   refine wpc_seq <| wpc_region <| wpl_q (q_pure rfl) rfl <| wpl_nil <| ex_then <| wpc_ret ?_
   refine ex_then_ret ?_
   refine ret1 (.inl rfl) rfl rfl ?_
   exact fun w h => ⟨by rw [check_2 hc7], h.below⟩
  ·
   simp only [Bool.not_eq_false', decide_eq_true_eq] at hc7
   obtain ⟨m, rfl⟩ : ∃ m : Nat, ht = (m : Int) := ⟨ht.toNat, zz13⟩
   have hpw := pow_le16 (m := m) zz13
   refine wpc_skip <| ex_then <| wpc_seq <| wpc_seq ?_
   refine wpc_draw 23 zz6 (fun _ h => h.drew) ?_
   refine wpd_p 0 rfl zz6 trivial (q_field Tryd.underlying66 rfl Tryd.ti3 rfl rfl _ rfl) rfl sk0 ?_
   refine wpd_q 1 rfl zz6 trivial (q_ld Tryd.underlying3 rfl rfl zz33) rfl (fun _ h => h) ?_
   refine wpd_p 2 rfl zz6 trivial (q_pure rfl) rfl sk0 ?_
   refine wpd_p 3 rfl zz6 trivial (q_pure rfl) rfl sk0 ?_
   refine wpd_bool2 11 10 rfl rfl (fun hb11 => ?_) (fun hb11 => ?_)
   ·
    try simp only [decide_eq_true_eq, decide_eq_false_iff_not, Bool.and_eq_true, Bool.or_eq_true, beq_iff_eq, bne_iff_ne, ne_eq, Bool.not_eq_true', Bool.not_eq_false', Decidable.not_not] at hb11
    refine wpd_off 4 rfl zz6 ⟨_, _, rfl, rfl, rfl⟩ rfl sk0 ?_
    refine wpd_off 5 rfl zz6 ⟨_, _, rfl, rfl, rfl⟩ rfl sk0 ?_
    refine wpd_off 6 rfl zz6 ⟨_, _, rfl, rfl, rfl⟩ rfl sk0 ?_
    refine wpd_off 7 rfl zz6 ⟨_, _, rfl, rfl, rfl⟩ rfl sk0 ?_
    refine wpd_off 8 rfl zz6 ⟨_, _, rfl, rfl, rfl⟩ rfl sk0 ?_
    refine wpd_p 9 rfl zz6 trivial (q_pure rfl) rfl sk0 ?_
    refine wpd_p 10 rfl zz6 trivial (q_pure rfl) rfl sk0 ?_
    refine wpd_off 11 rfl zz6 ⟨_, _, rfl, rfl, rfl⟩ rfl sk0 ?_
    refine wpd_off 12 rfl zz6 ⟨_, _, rfl, rfl, rfl⟩ rfl sk0 ?_
    refine wpd_off 13 rfl zz6 ⟨_, _, rfl, rfl, rfl⟩ rfl sk0 ?_
    refine wpd_off 14 rfl zz6 ⟨_, _, rfl, rfl, rfl⟩ rfl sk0 ?_
    refine wpd_p 15 rfl zz6 trivial (q_pure rfl) rfl sk0 ?_
    refine wpd_p 16 rfl zz6 trivial (q_pure rfl) rfl sk0 ?_
    refine wpd_off 17 rfl zz6 ⟨_, _, rfl, rfl, rfl⟩ rfl sk0 ?_
    refine wpd_off 18 rfl zz6 ⟨_, _, rfl, rfl, rfl⟩ rfl sk0 ?_
    refine wpd_off 19 rfl zz6 ⟨_, _, rfl, rfl, rfl⟩ rfl sk0 ?_
    refine wpd_off 20 rfl zz6 ⟨_, _, rfl, rfl, rfl⟩ rfl sk0 ?_
    refine wpd_off 21 rfl zz6 ⟨_, _, rfl, rfl, rfl⟩ rfl sk0 ?_
    refine wpd_p 22 rfl zz6 trivial (q_pure rfl) rfl sk0 ?_
    refine wpd_done zz6 ?_
    refine ex_then ?_
    refine wpc_cond_t rfl ?_
    refine wpc_seq <| wpc_region <| wpl_q (q_pure rfl) rfl <| wpl_nil <| ex_then <| wpc_ret ?_
    refine ex_then_ret ?_
    refine ret1 (.inl rfl) rfl rfl ?_
    exact fun w h => ⟨zz40, h.below⟩
   ·
    try simp only [decide_eq_true_eq, decide_eq_false_iff_not, Bool.and_eq_true, Bool.or_eq_true, beq_iff_eq, bne_iff_ne, ne_eq, Bool.not_eq_true', Bool.not_eq_false', Decidable.not_not] at hb11
    refine wpd_p 4 rfl zz6 ⟨_, rfl, rfl⟩ (q_field Tryd.underlying66 rfl Tryd.ti3 rfl rfl _ rfl) rfl sk0 ?_
    refine wpd_q 5 rfl zz6 ⟨_, rfl, rfl⟩ (q_ld Tryd.underlying3 rfl rfl zz33) rfl (fun _ h => h) ?_
    refine wpd_p 6 rfl zz6 ⟨_, rfl, rfl⟩ (q_pure rfl) rfl sk0 ?_
    refine wpd_p 7 rfl zz6 ⟨_, rfl, rfl⟩ (q_shlN (a := 1) rfl rfl zz30 zz2) rfl sk0 ?_
    refine wpd_p 8 rfl zz6 ⟨_, rfl, rfl⟩ (q_pure rfl) rfl sk0 ?_
    refine wpd_p 9 rfl zz6 trivial (q_pure rfl) rfl sk0 ?_
    refine wpd_p 10 rfl zz6 trivial (q_pure rfl) rfl sk0 ?_
    refine wpd_bool2 18 16 rfl rfl (fun hb18 => ?_) (fun hb18 => ?_)
    ·
     try simp only [decide_eq_true_eq, decide_eq_false_iff_not, Bool.and_eq_true, Bool.or_eq_true, beq_iff_eq, bne_iff_ne, ne_eq, Bool.not_eq_true', Bool.not_eq_false', Decidable.not_not] at hb18
     refine wpd_off 11 rfl zz6 ⟨_, _, rfl, rfl, rfl⟩ rfl sk0 ?_
     refine wpd_off 12 rfl zz6 ⟨_, _, rfl, rfl, rfl⟩ rfl sk0 ?_
     refine wpd_off 13 rfl zz6 ⟨_, _, rfl, rfl, rfl⟩ rfl sk0 ?_
     refine wpd_off 14 rfl zz6 ⟨_, _, rfl, rfl, rfl⟩ rfl sk0 ?_
     refine wpd_p 15 rfl zz6 trivial (q_pure rfl) rfl sk0 ?_
     refine wpd_p 16 rfl zz6 trivial (q_pure rfl) rfl sk0 ?_
     refine wpd_off 17 rfl zz6 ⟨_, _, rfl, rfl, rfl⟩ rfl sk0 ?_
     refine wpd_off 18 rfl zz6 ⟨_, _, rfl, rfl, rfl⟩ rfl sk0 ?_
     refine wpd_off 19 rfl zz6 ⟨_, _, rfl, rfl, rfl⟩ rfl sk0 ?_
     refine wpd_off 20 rfl zz6 ⟨_, _, rfl, rfl, rfl⟩ rfl sk0 ?_
     refine wpd_off 21 rfl zz6 ⟨_, _, rfl, rfl, rfl⟩ rfl sk0 ?_
     refine wpd_p 22 rfl zz6 trivial (q_pure rfl) rfl sk0 ?_
     refine wpd_done zz6 ?_
     refine ex_then ?_
     refine wpc_cond_t rfl ?_
     refine wpc_seq <| wpc_region <| wpl_q (q_pure rfl) rfl <| wpl_nil <| ex_then <| wpc_ret ?_
     refine ex_then_ret ?_
     refine ret1 (.inl rfl) rfl rfl ?_
     exact fun w h => ⟨zz40, h.below⟩
    ·
     try simp only [decide_eq_true_eq, decide_eq_false_iff_not, Bool.and_eq_true, Bool.or_eq_true, beq_iff_eq, bne_iff_ne, ne_eq, Bool.not_eq_true', Bool.not_eq_false', Decidable.not_not] at hb18
     refine wpd_p 11 rfl zz6 ⟨_, rfl, rfl⟩ (q_field Tryd.underlying66 rfl Tryd.ti64 rfl rfl _ rfl) rfl sk0 ?_
     refine wpd_q 12 rfl zz6 ⟨_, rfl, rfl⟩ (q_ld Tryd.underlying64 rfl rfl rfl) rfl (fun _ h => h) ?_
     refine wpd_p 13 rfl zz6 ⟨_, rfl, rfl⟩ (q_lenW Tryd.underlying64 rfl zz4) rfl sk0 ?_
     refine wpd_p 14 rfl zz6 ⟨_, rfl, rfl⟩ (q_pure rfl) rfl sk0 ?_
     refine wpd_p 15 rfl zz6 trivial (q_pure rfl) rfl sk0 ?_
     refine wpd_p 16 rfl zz6 trivial (q_pure rfl) rfl sk0 ?_
     refine wpd_bool2 24 22 rfl rfl (fun hb24 => ?_) (fun hb24 => ?_)
     ·
      try simp only [decide_eq_true_eq, decide_eq_false_iff_not, Bool.and_eq_true, Bool.or_eq_true, beq_iff_eq, bne_iff_ne, ne_eq, Bool.not_eq_true', Bool.not_eq_false', Decidable.not_not] at hb24
      refine wpd_off 17 rfl zz6 ⟨_, _, rfl, rfl, rfl⟩ rfl sk0 ?_
      refine wpd_off 18 rfl zz6 ⟨_, _, rfl, rfl, rfl⟩ rfl sk0 ?_
      refine wpd_off 19 rfl zz6 ⟨_, _, rfl, rfl, rfl⟩ rfl sk0 ?_
      refine wpd_off 20 rfl zz6 ⟨_, _, rfl, rfl, rfl⟩ rfl sk0 ?_
      refine wpd_off 21 rfl zz6 ⟨_, _, rfl, rfl, rfl⟩ rfl sk0 ?_
      refine wpd_p 22 rfl zz6 trivial (q_pure rfl) rfl sk0 ?_
      refine wpd_done zz6 ?_
      refine ex_then ?_
      refine wpc_cond_t rfl ?_
      refine wpc_seq <| wpc_region <| wpl_q (q_pure rfl) rfl <| wpl_nil <| ex_then <| wpc_ret ?_
      refine ex_then_ret ?_
      refine ret1 (.inl rfl) rfl rfl ?_
      exact fun w h => ⟨zz40, h.below⟩
     ·
      try simp only [decide_eq_true_eq, decide_eq_false_iff_not, Bool.and_eq_true, Bool.or_eq_true, beq_iff_eq, bne_iff_ne, ne_eq, Bool.not_eq_true', Bool.not_eq_false', Decidable.not_not] at hb24
      refine wpd_p 17 rfl zz6 ⟨_, rfl, rfl⟩ (q_field Tryd.underlying66 rfl Tryd.ti64 rfl rfl _ rfl) rfl sk0 ?_
      refine wpd_q 18 rfl zz6 ⟨_, rfl, rfl⟩ (q_ld Tryd.underlying64 rfl rfl rfl) rfl (fun _ h => h) ?_
      refine wpd_p 19 rfl zz6 ⟨_, rfl, rfl⟩ (q_lenW Tryd.underlying64 rfl zz4) rfl sk0 ?_
      refine wpd_p 20 rfl zz6 ⟨_, rfl, rfl⟩ (q_pure rfl) rfl sk0 ?_
      refine wpd_p 21 rfl zz6 ⟨_, rfl, rfl⟩ (q_pure rfl) rfl sk0 ?_
      refine wpd_p 22 rfl zz6 trivial (q_pure rfl) rfl sk0 ?_
      refine wpd_done zz6 ?_
      refine ex_then ?_
      refine wpc_cond rfl (fun hc30 => ?_) (fun hc30 => ?_)
      ·
       try simp only [decide_eq_true_eq, decide_eq_false_iff_not, Bool.and_eq_true, Bool.or_eq_true, beq_iff_eq, bne_iff_ne, ne_eq, Bool.not_eq_true', Bool.not_eq_false', Decidable.not_not] at hc30
       refine wpc_seq <| wpc_region <| wpl_q (q_pure rfl) rfl <| wpl_nil <| ex_then <| wpc_ret ?_
       refine ex_then_ret ?_
       refine ret1 (.inl rfl) rfl rfl ?_
       exact fun w h => ⟨zz40, h.below⟩
      ·
       simp only [bne_eq_false_iff_eq, decide_eq_false_iff_not, ne_eq, Decidable.not_not] at hc30 hb24
       refine wpc_skip <| ex_then <| wpc_seq <| wpc_region <| wpl_q (q_pure rfl) rfl <| wpl_nil <| ex_then <| wpc_ret ?_
       refine ret1 (.inl rfl) rfl rfl ?_
       exact fun w h => ⟨by rw [check_0 zz13 zz13], h.below⟩
end Go.Proofs.YtjpfhkjmjnjggaaDoor
namespace Go.Proofs.YtjpfhkjmjnjggaaDoor
open Go Go.PL Go.RowKit
def rootF (ht idx : Int) (bs : List UInt8) (chs ps : List (List UInt8)) : List UInt8 := if checkF ht idx chs.length ps.length = 0 then upF (recF bs chs) idx.toNat ps ps.length else List.replicate 16 0
theorem rootF_length (ht idx : Int) (bs : List UInt8) (chs ps : List (List UInt8)) : (rootF ht idx bs chs ps).length = 16 := by
  unfold rootF; split
  · exact upF_length (recF_length _ _) _ _ _
  · exact List.length_replicate
theorem globL {w0 w : World} {Ln : List Nat} {M : List Ent} {S : List Fact} (h : Mem w0 Ln M S w) (hl : 0 ∉ Ln) (hG : Glb w0) : Glb w := ⟨h.at_oldL hG.1 hl, Nat.lt_of_lt_of_le hG.2 h.size⟩
theorem own_ne {w0 w : World} {M : List Ent} {S : List Fact} {b : Nat} {t : TypeId} {cs : List Value} (h : Mem w0 [] M S w) (hG : Glb w0) (hm : Ent.blk b t cs ∈ M) : b ≠ 0 := by
  have h1 := h.new _ hm b rfl
  have h2 := hG.2
  simp only [List.not_mem_nil, or_false] at h1
  omega
theorem key_height (rs : List UInt8) (ht : Int) (h : rs.length = 16) : (v8s rs ++ [Value.int .i64 ht])[16]? = some (.int .i64 ht) := by
  rw [List.getElem?_append_right (by rw [v8s_length]; omega), v8s_length, h]; rfl
theorem key_root (rs : List UInt8) (ht : Int) (h : rs.length = 16) : ((v8s rs ++ [Value.int .i64 ht]).drop 0).take 16 = v8s rs := by
  rw [List.drop_zero, List.take_left' (by rw [v8s_length]; exact h)]
theorem div_step (k i : Nat) : k / 2 ^ (i + 1) = k / 2 ^ i / 2 ^ 1 := by rw [Nat.pow_succ, Nat.div_div_eq_div_mul]
theorem followed7 (ys : List UInt8) (bi bn : Nat) (xs : List UInt8) (j : Nat) (w : World) (hys : ys.length = 16) (hi : w.heap[bi]? = some (.cells ([.int .i64 ((j : Nat) : Int)] : List Value).toArray 3 (0, 0))) (hn : w.heap[bn]? = some (.cells (v8s xs).toArray 61 (0, 0))) (hne : bi ≠ bn) (hxs : xs.length = 16) (hj : j ≤ 1000) (hi0 : bi ≠ 0) (hn0 : bn ≠ 0) (hG : Glb w) :
    Calls Tryd.prog 108 [.agg (v8s ys).toArray, .pointer (some ⟨bi, 0, none⟩), .pointer (some ⟨bn, 0, none⟩)].toArray w (GivesL w [bi, bn] (fun _ : Unit => .agg (v8s (stepU xs j ys)).toArray) fun _ => [.blk bi 3 [.int .i64 ((j / 2 ^ 1 : Nat) : Int)], .blk bn 61 (v8s (stepU xs j ys))]) := by
  have h0 : (0 : Nat) ∉ [bi, bn] := by simp; omega
  have hjl1 := joinedF_length xs ys
  have hjl2 := joinedF_length ys xs
  have hjl3 := stepU_length xs j ys
  refine enter (m := 17) (R := Mem w [bi, bn] [.blk bi 3 [.int .i64 ((j : Nat) : Int)], .blk bn 61 (v8s xs)] []) Tryd.func108 rfl rfl (Nat.le_of_ble_eq_true rfl) (Mem.start2 w hi hn hne) ?_
  refine wpc_seq <| wpc_region ?_
  refine wpl_t (t_box rfl (v8s ys) rfl) rfl (fun b3 => ?_)
  refine wpl_t (t_alloc Tryd.ti61 (v8s (List.replicate 16 0)) (by rfl)) rfl (fun b4 => ?_)
  refine wpl_nil <| ex_then <| wpc_seq <| wpc_seq <| wpc_region ?_
  refine wpl_q (q_ld Tryd.underlying3 rfl rfl zz33) rfl ?_
  refine wpl_q (q_andN (b := 1) rfl rfl zz2 zz2) rfl ?_
  refine wpl_q (q_pure rfl) rfl <| wpl_nil <| ex_then ?_
  refine wpc_cond rfl (fun hc7 => ?_) (fun hc7 => ?_)
  ·
   try simp only [decide_eq_true_eq, beq_iff_eq] at hc7
   have hst : stepU xs j ys = joinedF xs ys := if_pos (by have := Nat.and_one_is_mod j; omega)
   refine wpc_region ?_
   refine wpl_q (q_ldN Tryd.underlying61 rfl Tryd.ti61 rfl zz0) rfl ?_
   refine wpl_q (q_ldN Tryd.underlying61 rfl Tryd.ti61 rfl zz0) rfl ?_
   refine wpl_t (t_pur Tryd.hb103 rfl fun w h => joined7 _ _ w zz20 zz20 (globL h h0 hG)) rfl (fun b10 => ?_)
   refine wpl_t0 (t_stA Tryd.ti61 rfl rfl zz0 (v8s_one _) zz0) (fun _ => ?_)
   refine wpl_nil <| ex_then <| wpc_seq <| wpc_region ?_
   refine wpl_q (q_ld Tryd.underlying3 rfl rfl zz33) rfl ?_
   refine wpl_q (q_shrN (b := 1) rfl rfl zz30) rfl ?_
   refine wpl_t0 (t_st1 Tryd.ti3 rfl rfl rfl zz7 _ (by first | exact vns_set _ | rfl)) (fun _ => ?_)
   refine wpl_nil <| ex_then <| wpc_seq <| wpc_region ?_
   refine wpl_q (q_ldN Tryd.underlying61 rfl Tryd.ti61 rfl zz0) rfl ?_
   refine wpl_t0 (t_stA Tryd.ti61 rfl rfl zz0 (v8s_one _) zz0) (fun _ => ?_)
   refine wpl_nil <| ex_then <| wpc_ret ?_
   refine retv1 (.inl rfl) rfl (rv_agg Tryd.underlying61 rfl Tryd.ti61 rfl (fun w h => h.atB) zz0) ?_
   exact fun w h => by
     rw [hst]
     exact ⟨(), rfl, h.sub (.drop (.drop (Sub.refl _))) (Sub.refl _)⟩
  ·
   try simp only [decide_eq_false_iff_not, beq_eq_false_iff_ne, ne_eq] at hc7
   have hst : stepU xs j ys = joinedF ys xs := if_neg (by have := Nat.and_one_is_mod j; omega)
   refine wpc_region ?_
   refine wpl_q (q_ldN Tryd.underlying61 rfl Tryd.ti61 rfl zz0) rfl ?_
   refine wpl_q (q_ldN Tryd.underlying61 rfl Tryd.ti61 rfl zz0) rfl ?_
   refine wpl_t (t_pur Tryd.hb103 rfl fun w h => joined7 _ _ w zz20 zz20 (globL h h0 hG)) rfl (fun b13 => ?_)
   refine wpl_t0 (t_stA Tryd.ti61 rfl rfl zz0 (v8s_one _) zz0) (fun _ => ?_)
   refine wpl_nil <| ex_then <| wpc_seq <| wpc_region ?_
   refine wpl_q (q_ld Tryd.underlying3 rfl rfl zz33) rfl ?_
   refine wpl_q (q_shrN (b := 1) rfl rfl zz30) rfl ?_
   refine wpl_t0 (t_st1 Tryd.ti3 rfl rfl rfl zz7 _ (by first | exact vns_set _ | rfl)) (fun _ => ?_)
   refine wpl_nil <| ex_then <| wpc_seq <| wpc_region ?_
   refine wpl_q (q_ldN Tryd.underlying61 rfl Tryd.ti61 rfl zz0) rfl ?_
   refine wpl_t0 (t_stA Tryd.ti61 rfl rfl zz0 (v8s_one _) zz0) (fun _ => ?_)
   refine wpl_nil <| ex_then <| wpc_ret ?_
   refine retv1 (.inl rfl) rfl (rv_agg Tryd.underlying61 rfl Tryd.ti61 rfl (fun w h => h.atB) zz0) ?_
   exact fun w h => by
     rw [hst]
     exact ⟨(), rfl, h.sub (.drop (.drop (Sub.refl _))) (Sub.refl _)⟩
theorem follower7 (xs : List UInt8) (k : Nat) (w : World) (hxs : xs.length = 16)  :
    Calls Tryd.prog 85 [.agg (v8s xs).toArray, .int .i64 ((k : Nat) : Int)].toArray w (GivesP w (fun _ : Nat × Nat => True) (fun b : Nat × Nat => .func (.func 108) #[] #[.pointer (some ⟨b.1, 0, none⟩), .pointer (some ⟨b.2, 0, none⟩)]) (fun b => [.blk b.1 3 [.int .i64 ((k : Nat) : Int)], .blk b.2 61 (v8s xs)]) (fun _ => [])) := by
  refine enter (m := 6) (R := Mem w [] [] []) Tryd.func85 rfl rfl (Nat.le_of_ble_eq_true rfl) (Mem.start w) ?_
  refine wpc_seq <| wpc_region ?_
  refine wpl_t (t_box rfl (v8s xs) rfl) rfl (fun b2 => ?_)
  refine wpl_t (t_box rfl [.int .i64 ((k : Nat) : Int)] rfl) rfl (fun b3 => ?_)
  refine wpl_q (q_pure rfl) rfl <| wpl_nil <| ex_then <| wpc_seq <| wpc_region ?_
  refine wpl_q (q_fn (us := []) (vs := [_, _]) rfl rfl) rfl ?_
  refine wpl_q (q_pure rfl) rfl <| wpl_nil <| ex_then <| wpc_ret ?_
  refine ret1 (.inl rfl) rfl rfl ?_
  exact fun w h => ⟨(b3, b2), trivial, rfl, h.below, h.made (.keep (.keep .nil)) .nil⟩
theorem root7 (ht : Int) (bv : Value) (bs : List UInt8) (cv pv : Value) (chs ps : List (List UInt8)) (idx : Int) (w : World) (hbv : Seen w.cell? bv bs.length 1 (v8s bs)) (hcv : Seen w.cell? cv chs.length 16 (v8s chs.flatten)) (hlchs : ∀ x ∈ chs, x.length = 16) (hpv : Seen w.cell? pv ps.length 16 (v8s ps.flatten)) (hlps : ∀ x ∈ ps, x.length = 16) (hG : Glb w) :
    Calls Tryd.prog 55 [.int .i64 ht, bv, .agg #[.int .i64 idx, cv, pv]].toArray w (Pur w (.tuple #[.agg (v8s (rootF ht idx bs chs ps)).toArray, .int .i64 (checkF ht idx chs.length ps.length)])) := by
  have sbv := hbv.sv
  have lbv := sbv.le
  simp only [maxLen] at lbv
  have scv := hcv.sv
  have lcv := scv.le
  simp only [maxLen] at lcv
  have spv := hpv.sv
  have lpv := spv.le
  simp only [maxLen] at lpv
  refine enter (m := 45) (R := Mem w [] [] []) Tryd.func55 rfl rfl (Nat.le_of_ble_eq_true rfl) (Mem.start w) ?_
  refine wpc_seq <| wpc_region ?_
  refine wpl_t (t_box rfl [.int .i64 idx, cv, pv] rfl) rfl (fun b5 => ?_)
  refine wpl_t (t_alloc Tryd.ti61 (v8s (List.replicate 16 0)) (by rfl)) rfl (fun b6 => ?_)
  refine wpl_q (q_pure rfl) rfl <| wpl_nil <| ex_then <| wpc_seq <| wpc_seq <| wpc_region <| wpl_q (q_pure rfl) rfl ?_
  refine wpl_q (q_ldN Tryd.underlying66 rfl Tryd.ti66 rfl zz0) rfl ?_
  refine wpl_t (t_pur Tryd.hb43 rfl fun w h => check7 _ _ _ _ _ _ w zz11 zz26 zz11 zz26) rfl (fun b16 => ?_)
  refine wpl_q (q_pure rfl) rfl <| wpl_nil <| ex_then <| wpc_seq <| wpc_region <| wpl_q (q_pure rfl) rfl <| wpl_q (q_pure rfl) rfl <| wpl_nil <| ex_then ?_
  refine wpc_cond rfl (fun hc18 => ?_) (fun hc18 => ?_)
  ·
   simp only [bne_iff_ne, ne_eq, decide_eq_true_eq] at hc18
   have hr : rootF ht idx bs chs ps = List.replicate 16 0 := if_neg hc18
   refine wpc_seq <| wpc_region ?_
   refine wpl_q (q_build (cs := (v8s (List.replicate 16 0))) rfl (built_array Tryd.underlying61 Tryd.ti61 Tryd.ti5 rfl)) rfl ?_
   refine wpl_q (q_pure rfl) rfl ?_
   refine wpl_t0 (t_stA Tryd.ti61 rfl rfl zz0 (v8s_one _) zz0) (fun _ => ?_)
   refine wpl_q (q_pure rfl) rfl <| wpl_nil <| ex_then <| wpc_ret ?_
   refine ex_then_ret ?_
   refine retv2 (.inl rfl) rfl (rv_agg Tryd.underlying61 rfl Tryd.ti61 rfl (fun w h => h.atB) zz0) (rv_tmp rfl) ?_
   exact fun w h => ⟨by rw [hr], h.below⟩
  ·
   simp only [bne_eq_false_iff_eq, decide_eq_false_iff_not, ne_eq, Decidable.not_not] at hc18
   obtain ⟨m, k, rfl, rfl, hm, hk, hcl, hpl⟩ := check_spec hc18
   have hpw := pow_le16 hm
   have hr : rootF (m : Int) (k : Int) bs chs ps = upF (recF bs chs) k ps ps.length := if_pos hc18
   have he : recEr chs = 0 := if_pos hcl
   refine wpc_skip <| ex_then <| wpc_seq <| wpc_region <| wpl_q (q_pure rfl) rfl <| wpl_q (q_field Tryd.underlying66 rfl Tryd.ti64 rfl rfl _ rfl) rfl <| wpl_q (q_ld Tryd.underlying64 rfl rfl rfl) rfl ?_
   refine wpl_t (t_pur Tryd.hb84 rfl fun w h => recover _ _ _ _ w zz11 zz11 zz26 (glob h hG)) rfl (fun b25 => ?_)
   refine wpl_q (q_pure rfl) rfl <| wpl_q (q_pure rfl) rfl <| wpl_q (q_pure rfl) rfl ?_
   refine wpl_t (t_alloc Tryd.ti61 (v8s (List.replicate 16 0)) (by rfl)) rfl (fun b9 => ?_)
   refine wpl_t0 (t_stA Tryd.ti61 rfl rfl zz0 (v8s_one _) zz0) (fun _ => ?_)
   refine wpl_q (q_pure rfl) rfl <| wpl_nil <| ex_then <| wpc_seq <| wpc_region ?_
   refine wpl_q (q_ldN Tryd.underlying61 rfl Tryd.ti61 rfl zz0) rfl ?_
   refine wpl_q (q_field Tryd.underlying66 rfl Tryd.ti3 rfl rfl _ rfl) rfl ?_
   refine wpl_q (q_ld Tryd.underlying3 rfl rfl zz33) rfl ?_
   refine wpl_tp (t_callP2 Tryd.hb85 rfl fun w h => follower7 _ _ w zz20) rfl (fun b31 p31 => ?_)
   refine wpl_q (q_pure rfl) rfl <| wpl_nil <| ex_then <| wpc_seq <| wpc_seq <| wpc_region <| wpl_q (q_field Tryd.underlying66 rfl Tryd.ti64 rfl rfl _ rfl) rfl <| wpl_q (q_ld Tryd.underlying64 rfl rfl rfl) rfl ?_
   refine wpl_q (q_lenW Tryd.underlying64 rfl zz4) rfl ?_
   refine wpl_q (q_pure rfl) rfl <| wpl_nil <| ex_then <| wpc_block ?_
   refine wpc_loopc (ι := { x : Nat // (x ≤ ps.length) }) [(6, _), (9, _), (10, _), (11, _), (33, _), (34, _)] (fun x Lc => (35, .int .i64 ((x.1 : Nat) : Int)) :: Lc) (fun x => Mem w [] [.blk b31.1 3 [.int .i64 ((k / 2 ^ x.1 : Nat) : Int)], .blk b31.2 61 (v8s (upF (recF bs chs) k ps x.1)), .blk b9 61 (v8s (upF (recF bs chs) k ps x.1)), .blk b6 61 (v8s (List.replicate 16 0)), .blk b5 66 [.int .i64 ((k : Nat) : Int), cv, pv]] []) (fun x => ps.length - x.1) ⟨0, zz31⟩ zz12 ?_ ?_
   ·
    exact fun w h => by
      dsimp only
      rw [Nat.pow_zero, Nat.div_one, show upF (recF bs chs) k ps 0 = recF bs chs from rfl]
      first | exact h.sub SubC.h SubC.h | exact h.sub zz8 zz8
   ·
    rintro ⟨i, hi0⟩; try dsimp only
    have hi0 : i ≤ ps.length := hi0
    have hul := upF_length (recF_length bs chs) k ps i
    have hkl : k / 2 ^ i ≤ 1000 := Nat.le_trans (Nat.div_le_self _ _) zz13
    refine wpc_seq <| wpc_region <| wpl_q (q_pure rfl) rfl <| wpl_nil <| ex_then <| wpc_seq ?_
    refine wpc_cond rfl (fun hc36 => ?_) (fun hc36 => ?_)
    ·
     simp only [decide_eq_true_eq] at hc36
     have hgl := getD_mem_len hlps (i := i) zz13
     have hsl := stepU_length (upF (recF bs chs) k ps i) (k / 2 ^ i) (ps.getD i [])
     refine wpc_skip <| ex_then <| wpc_seq <| wpc_block <| wpc_seq <| wpc_region ?_
     refine wpl_q (q_idxW Tryd.underlying64 Tryd.ti61 rfl rfl zz4 zz2) rfl ?_
     refine wpl_q (q_ldWN Tryd.underlying61 rfl Tryd.ti61 rfl (fun w h => zz9) (v8s (ps.getD i [])) (part8 hlps zz13) ((v8s_length _).trans hgl)) rfl ?_
     refine wpl_t (t_alloc Tryd.ti61 (v8s (List.replicate 16 0)) (by rfl)) rfl (fun b13 => ?_)
     refine wpl_t0 (t_stA Tryd.ti61 rfl rfl zz0 (v8s_one _) zz0) (fun _ => ?_)
     refine wpl_nil <| ex_then <| wpc_region <| wpl_q (q_pure rfl) rfl ?_
     refine wpl_q (q_ldN Tryd.underlying61 rfl Tryd.ti61 rfl zz0) rfl ?_
     refine wpl_t (t_turnV2 b31.1 b31.2 [.int .i64 ((k / 2 ^ i / 2 ^ 1 : Nat) : Int)] (v8s (stepU (upF (recF bs chs) k ps i) (k / 2 ^ i) (ps.getD i []))) zz17 rfl Tryd.hb108 rfl fun w h h1 h2 hne => followed7 _ _ _ _ _ w hgl h1 h2 hne hul hkl (own_ne h hG zz5) (own_ne h hG zz5) (glob h hG)) rfl (fun b41 => ?_)
     refine wpl_t0 (t_stA Tryd.ti61 rfl rfl zz0 (v8s_one _) zz0) (fun _ => ?_)
     refine wpl_nil <| ex_block <| ex_then <| wpc_region ?_
     refine wpl_q (q_addN (b := 1) rfl rfl zz2) rfl ?_
     refine wpl_q (q_pure rfl) rfl <| wpl_nil ?_
     refine ex_again ⟨i + 1, zz31⟩ ?_ ?_ ?_
     ·
      exact zz12
     ·
      exact fun w h => by
        dsimp only
        rw [div_step, show upF (recF bs chs) k ps (i + 1) = stepU (upF (recF bs chs) k ps i) (k / 2 ^ i) (ps.getD i []) from rfl]
        first | exact h.sub SubC.h SubC.h | exact h.sub zz8 zz8
     ·
      (show ps.length - (i + 1) < ps.length - i); omega
    ·
     simp only [decide_eq_false_iff_not] at hc36
     obtain rfl : i = ps.length := by omega
     refine wpc_exit ?_
     refine ex_then_exit ?_
     refine ex_then_exit ?_
     refine ex_block_hit ?_
     refine ex_then <| wpc_seq <| wpc_region ?_
     refine wpl_q (q_ldN Tryd.underlying61 rfl Tryd.ti61 rfl zz0) rfl ?_
     refine wpl_q (q_pure rfl) rfl ?_
     refine wpl_t0 (t_stA Tryd.ti61 rfl rfl zz0 (v8s_one _) zz0) (fun _ => ?_)
     refine wpl_q (q_pure rfl) rfl <| wpl_nil <| ex_then <| wpc_ret ?_
     refine retv2 (.inl rfl) rfl (rv_agg Tryd.underlying61 rfl Tryd.ti61 rfl (fun w h => h.atB) zz0) (rv_tmp rfl) ?_
     exact fun w h => ⟨by rw [hr, hc18, he]; rfl, h.below⟩
theorem verify7 (rs : List UInt8) (ht : Int) (bv : Value) (bs : List UInt8) (cv pv : Value) (chs ps : List (List UInt8)) (idx : Int) (w : World) (hrs : rs.length = 16) (hbv : Seen w.cell? bv bs.length 1 (v8s bs)) (hcv : Seen w.cell? cv chs.length 16 (v8s chs.flatten)) (hlchs : ∀ x ∈ chs, x.length = 16) (hpv : Seen w.cell? pv ps.length 16 (v8s ps.flatten)) (hlps : ∀ x ∈ ps, x.length = 16) (hG : Glb w) :
    Calls Tryd.prog 35 [.agg (v8s rs ++ [Value.int .i64 ht]).toArray, bv, .agg #[.int .i64 idx, cv, pv]].toArray w (Pur w (.bool (decide (checkF ht idx chs.length ps.length = 0 ∧ rootF ht idx bs chs ps = rs)))) := by
  have sbv := hbv.sv
  have lbv := sbv.le
  simp only [maxLen] at lbv
  have scv := hcv.sv
  have lcv := scv.le
  simp only [maxLen] at lcv
  have spv := hpv.sv
  have lpv := spv.le
  simp only [maxLen] at lpv
  have hrl := rootF_length ht idx bs chs ps
  refine enter (m := 25) (R := Mem w [] [] []) Tryd.func35 rfl rfl (Nat.le_of_ble_eq_true rfl) (Mem.start w) ?_
  refine wpc_seq <| wpc_region ?_
  refine wpl_t (t_box rfl (v8s rs ++ [Value.int .i64 ht]) rfl) rfl (fun b3 => ?_)
  refine wpl_t (t_box rfl [.int .i64 idx, cv, pv] rfl) rfl (fun b5 => ?_)
  refine wpl_q (q_pure rfl) rfl <| wpl_nil <| ex_then <| wpc_seq <| wpc_region <| wpl_q (q_field Tryd.underlying63 rfl Tryd.ti3 rfl rfl _ rfl) rfl <| wpl_q (q_ld Tryd.underlying3 rfl rfl (key_height rs ht hrs)) rfl <| wpl_q (q_pure rfl) rfl ?_
  refine wpl_q (q_ldN Tryd.underlying66 rfl Tryd.ti66 rfl zz0) rfl ?_
  refine wpl_t (t_pur Tryd.hb55 rfl fun w h => root7 _ _ _ _ _ _ _ _ w zz11 zz11 zz26 zz11 zz26 (glob h hG)) rfl (fun b14 => ?_)
  refine wpl_q (q_pure rfl) rfl <| wpl_q (q_pure rfl) rfl <| wpl_q (q_pure rfl) rfl ?_
  refine wpl_t (t_alloc Tryd.ti61 (v8s (List.replicate 16 0)) (by rfl)) rfl (fun b7 => ?_)
  refine wpl_t0 (t_stA Tryd.ti61 rfl rfl zz0 (v8s_one _) zz0) (fun _ => ?_)
  refine wpl_q (q_pure rfl) rfl <| wpl_nil <| ex_then <| wpc_seq <| wpc_region <| wpl_q (q_pure rfl) rfl <| wpl_q (q_pure rfl) rfl <| wpl_q (q_pure rfl) rfl ?_
  refine wpl_bool2 19 18 rfl rfl (fun hb19 => ?_) (fun hb19 => ?_)
  ·
   try simp only [decide_eq_true_eq, decide_eq_false_iff_not, Bool.and_eq_true, Bool.or_eq_true, beq_iff_eq, bne_iff_ne, ne_eq, Bool.not_eq_true', Bool.not_eq_false', Decidable.not_not] at hb19
   refine wpl_on rfl rfl ?_
   refine wpl_q (q_ldN Tryd.underlying61 rfl Tryd.ti61 rfl zz0) rfl ?_
   refine wpl_on rfl rfl <| wpl_q (q_field Tryd.underlying63 rfl Tryd.ti61 rfl rfl _ rfl) rfl <| wpl_on rfl rfl <| wpl_q (q_ldP Tryd.underlying61 rfl Tryd.ti61 rfl (v8s rs) (key_root rs ht hrs) ((v8s_length _).trans hrs)) rfl <| wpl_on rfl rfl ?_
   refine wpl_q (q_eq8 eq8_61 zz6 rfl rfl (by first | (first | with_reducible assumption | exact L16.h) | simp) (by first | (first | with_reducible assumption | exact L16.h) | simp)) rfl ?_
   refine wpl_q (q_pure rfl) rfl <| wpl_q (q_pure rfl) rfl <| wpl_nil <| ex_then <| wpc_ret ?_
   refine ret1 (.inl rfl) rfl rfl ?_
   exact fun w h => ⟨by simp [hb19], h.below⟩
  ·
   simp only [beq_eq_false_iff_ne, ne_eq] at hb19
   refine wpl_off rfl rfl rfl rfl <| wpl_off rfl rfl rfl rfl <| wpl_off rfl rfl rfl rfl <| wpl_off rfl rfl rfl rfl <| wpl_q (q_pure rfl) rfl <| wpl_q (q_pure rfl) rfl <| wpl_nil <| ex_then <| wpc_ret ?_
   refine ret1 (.inl rfl) rfl rfl ?_
   exact fun w h => ⟨by simp [hb19], h.below⟩
end Go.Proofs.YtjpfhkjmjnjggaaDoor
namespace Go.Proofs.YtjpfhkjmjnjggaaDoor
open Go Go.PL Go.RowKit
def leafF (s : List UInt8) (i : Nat) : List UInt8 := shortF (s ++ [of8 (i : Int), 254, 0])
theorem leafF_length (s : List UInt8) (i : Nat) : (leafF s i).length = 16 := by rw [leafF]; exact shortF_length _
instance l16_leaf {s : List UInt8} {i : Nat} : L16 (leafF s i) := ⟨leafF_length s i⟩
end Go.Proofs.YtjpfhkjmjnjggaaDoor
namespace Go.Proofs.YtjpfhkjmjnjggaaDoor
open Go Go.PL Go.RowKit
theorem built_sig {v1 v2 : Value} {n1 n2 : Nat} (h1 : SV v1 n1) (h2 : SV v2 n2) (idx : Int) : Tryd.prog.built 66 [(0, .int .i64 idx), (1, v1), (2, v2)] = some #[.int .i64 idx, v1, v2] := by
  obtain ⟨a1, c1, rfl, _⟩ := h1
  obtain ⟨a2, c2, rfl, _⟩ := h2
  kernel_rfl
theorem sig_one {v1 v2 : Value} {n1 n2 : Nat} (h1 : SV v1 n1) (h2 : SV v2 n2) (idx : Int) : ∀ u ∈ [Value.int .i64 idx, v1, v2], u.oneCell' = true := by
  intro u hu
  simp only [List.mem_cons, List.not_mem_nil, or_false] at hu
  rcases hu with rfl | rfl | rfl
  · rfl
  · exact h1.one
  · exact h2.one
theorem key_len (rs : List UInt8) (ht : Int) (h : rs.length = 16) : (v8s rs ++ [Value.int .i64 ht]).length = 17 := by rw [List.length_append, v8s_length, h]; rfl
theorem refTwin7 (cv pv : Value) (chs ps : List (List UInt8)) (idx : Int) (w : World) (hcv : Seen w.cell? cv chs.length 16 (v8s chs.flatten)) (hlchs : ∀ x ∈ chs, x.length = 16) (hpv : Seen w.cell? pv ps.length 16 (v8s ps.flatten)) (hlps : ∀ x ∈ ps, x.length = 16) (hnc : chs.length ≤ 200) (hnp : ps.length ≤ 200) :
    Calls Tryd.prog 37 [.agg #[.int .i64 idx, cv, pv]].toArray w (GivesP w (fun x : Value × Value => SV x.1 chs.length ∧ SV x.2 ps.length) (fun x : Value × Value => .agg #[.int .i64 idx, x.1, x.2]) (fun x => [.row x.1 chs.length 61 16 (v8s chs.flatten), .row x.2 ps.length 61 16 (v8s ps.flatten)]) (fun _ => [])) := by
  have scv := hcv.sv
  have lcv := scv.le
  simp only [maxLen] at lcv
  have spv := hpv.sv
  have lpv := spv.le
  simp only [maxLen] at lpv
  refine enter (m := 14) (R := Mem w [] [] []) Tryd.func37 rfl rfl (Nat.le_of_ble_eq_true rfl) (Mem.start w) ?_
  refine wpc_seq <| wpc_region ?_
  refine wpl_t (t_box rfl [.int .i64 idx, cv, pv] rfl) rfl (fun b1 => ?_)
  refine wpl_t (t_alloc Tryd.ti66 _ rfl) rfl (fun b2 => ?_)
  refine wpl_nil <| ex_then <| wpc_seq ?_
  refine wpc_draw 11 zz6 (fun _ h => h.drew) ?_
  refine wpd_p 0 rfl zz6 trivial (q_field Tryd.underlying66 rfl Tryd.ti3 rfl rfl _ rfl) rfl sk0 ?_
  refine wpd_q 1 rfl zz6 trivial (q_ld Tryd.underlying3 rfl rfl zz33) rfl (fun _ h => h) ?_
  refine wpd_p 3 rfl zz6 trivial (q_field Tryd.underlying66 rfl Tryd.ti64 rfl rfl _ rfl) rfl sk0 ?_
  refine wpd_q 4 rfl zz6 trivial (q_ld Tryd.underlying64 rfl rfl rfl) rfl (fun _ h => h) ?_
  refine wpd_p 7 rfl zz6 trivial (q_field Tryd.underlying66 rfl Tryd.ti64 rfl rfl _ rfl) rfl sk0 ?_
  refine wpd_q 8 rfl zz6 trivial (q_ld Tryd.underlying64 rfl rfl rfl) rfl (fun _ h => h) ?_
  refine wpd_two 2 6 zz6 ?_ ?_
  ·
   refine wpa_tp 2 rfl trivial (t_bs0W Tryd.underlying64 Tryd.ti61) rfl (fun _ => (fun w h => .inr (h.sub SubC.h SubC.h))) (fun b5 p5 => ?_)
   refine wpd_two 5 6 zz6 ?_ ?_
   ·
    refine wpa_tp 5 rfl trivial (t_ap0 Tryd.underlying64 Tryd.ti61 rfl zz17 rfl rfl (fun w h => zz9) (v8s_one _) zz2 zz2) rfl (fun _ => (fun w h => .inr (h.sub SubC.h SubC.h))) (fun b8 p8 => ?_)
    refine wpd_tp 6 rfl zz6 trivial (t_bs0W Tryd.underlying64 Tryd.ti61) rfl (fun _ => (fun w h => .inr (h.sub SubC.h SubC.h))) (fun b9 p9 => ?_)
    refine wpd_tp 9 rfl zz6 trivial (t_ap0 Tryd.underlying64 Tryd.ti61 rfl zz17 rfl rfl (fun w h => zz9) (v8s_one _) zz2 zz2) rfl (fun _ => (fun w h => .inr (h.sub SubC.h SubC.h))) (fun b12 p12 => ?_)
    refine wpd_p 10 rfl zz6 trivial (q_build (cs := [.int .i64 idx, b8, b12]) rfl (built_sig p8 p12 idx)) rfl (fun w h => .inr (h.sub SubC.h SubC.h)) ?_
    refine wpd_t0 11 rfl zz6 trivial (t_stA Tryd.ti66 rfl rfl zz0 (sig_one p8 p12 idx) zz0) (fun _ => skk rfl) (fun _ => ?_)
    refine wpd_done zz6 ?_
    refine ex_then <| wpc_ret ?_
    refine retv1 (.inl rfl) rfl (rv_agg Tryd.underlying66 rfl Tryd.ti66 rfl (fun w h => h.atB) zz0) ?_
    exact fun w h => ⟨(b8, b12), ⟨p8, p12⟩, rfl, h.below, by first | exact h.made (.keep (.keep .nil)) .nil | exact h.swap.made (.keep (.keep .nil)) .nil⟩
   ·
    refine wpa_tp 6 rfl trivial (t_bs0W Tryd.underlying64 Tryd.ti61) rfl (fun _ => (fun w h => .inr (h.sub SubC.h SubC.h))) (fun b9 p9 => ?_)
    refine wpd_tp 5 rfl zz6 trivial (t_ap0 Tryd.underlying64 Tryd.ti61 rfl zz17 rfl rfl (fun w h => zz9) (v8s_one _) zz2 zz2) rfl (fun _ => (fun w h => .inr (h.sub SubC.h SubC.h))) (fun b8 p8 => ?_)
    refine wpd_tp 9 rfl zz6 trivial (t_ap0 Tryd.underlying64 Tryd.ti61 rfl zz17 rfl rfl (fun w h => zz9) (v8s_one _) zz2 zz2) rfl (fun _ => (fun w h => .inr (h.sub SubC.h SubC.h))) (fun b12 p12 => ?_)
    refine wpd_p 10 rfl zz6 trivial (q_build (cs := [.int .i64 idx, b8, b12]) rfl (built_sig p8 p12 idx)) rfl (fun w h => .inr (h.sub SubC.h SubC.h)) ?_
    refine wpd_t0 11 rfl zz6 trivial (t_stA Tryd.ti66 rfl rfl zz0 (sig_one p8 p12 idx) zz0) (fun _ => skk rfl) (fun _ => ?_)
    refine wpd_done zz6 ?_
    refine ex_then <| wpc_ret ?_
    refine retv1 (.inl rfl) rfl (rv_agg Tryd.underlying66 rfl Tryd.ti66 rfl (fun w h => h.atB) zz0) ?_
    exact fun w h => ⟨(b8, b12), ⟨p8, p12⟩, rfl, h.below, by first | exact h.made (.keep (.keep .nil)) .nil | exact h.swap.made (.keep (.keep .nil)) .nil⟩
  ·
   refine wpa_tp 6 rfl trivial (t_bs0W Tryd.underlying64 Tryd.ti61) rfl (fun _ => (fun w h => .inr (h.sub SubC.h SubC.h))) (fun b9 p9 => ?_)
   refine wpd_tp 2 rfl zz6 trivial (t_bs0W Tryd.underlying64 Tryd.ti61) rfl (fun _ => (fun w h => .inr (h.sub SubC.h SubC.h))) (fun b5 p5 => ?_)
   refine wpd_tp 5 rfl zz6 trivial (t_ap0 Tryd.underlying64 Tryd.ti61 rfl zz17 rfl rfl (fun w h => zz9) (v8s_one _) zz2 zz2) rfl (fun _ => (fun w h => .inr (h.sub SubC.h SubC.h))) (fun b8 p8 => ?_)
   refine wpd_tp 9 rfl zz6 trivial (t_ap0 Tryd.underlying64 Tryd.ti61 rfl zz17 rfl rfl (fun w h => zz9) (v8s_one _) zz2 zz2) rfl (fun _ => (fun w h => .inr (h.sub SubC.h SubC.h))) (fun b12 p12 => ?_)
   refine wpd_p 10 rfl zz6 trivial (q_build (cs := [.int .i64 idx, b8, b12]) rfl (built_sig p8 p12 idx)) rfl (fun w h => .inr (h.sub SubC.h SubC.h)) ?_
   refine wpd_t0 11 rfl zz6 trivial (t_stA Tryd.ti66 rfl rfl zz0 (sig_one p8 p12 idx) zz0) (fun _ => skk rfl) (fun _ => ?_)
   refine wpd_done zz6 ?_
   refine ex_then <| wpc_ret ?_
   refine retv1 (.inl rfl) rfl (rv_agg Tryd.underlying66 rfl Tryd.ti66 rfl (fun w h => h.atB) zz0) ?_
   exact fun w h => ⟨(b8, b12), ⟨p8, p12⟩, rfl, h.below, by first | exact h.made (.keep (.keep .nil)) .nil | exact h.swap.made (.keep (.keep .nil)) .nil⟩
end Go.Proofs.YtjpfhkjmjnjggaaDoor
namespace Go.Proofs.YtjpfhkjmjnjggaaDoor
open Go Go.PL Go.RowKit
def nodeF (s : List UInt8) : Nat → Nat → List UInt8
  | 0, k => publicF (leafF s k)
  | l + 1, k => joinedF (nodeF s l (2 * k)) (nodeF s l (2 * k + 1))
theorem nodeF_length (s : List UInt8) : ∀ l k, (nodeF s l k).length = 16
  | 0, k => by rw [nodeF]; exact publicF_length _
  | l + 1, k => by rw [nodeF]; exact joinedF_length _ _
instance l16_node {s : List UInt8} {l k : Nat} : L16 (nodeF s l k) := ⟨nodeF_length s l k⟩
def lev (s : List UInt8) (l n : Nat) : List (List UInt8) := (List.range n).map (nodeF s l)
theorem lev_length (s : List UInt8) (l n : Nat) : (lev s l n).length = n := by simp [lev]
theorem lev_all (s : List UInt8) (l n : Nat) : ∀ x ∈ lev s l n, x.length = 16 := fun x hx => by
  obtain ⟨i, _, rfl⟩ := List.mem_map.1 hx; exact nodeF_length _ _ _
theorem lev_get (s : List UInt8) (l n i : Nat) (h : i < n) : (lev s l n).getD i [] = nodeF s l i := by
  rw [lev, List.getD_eq_getElem?_getD, List.getElem?_map, List.getElem?_eq_getElem (by simpa using h)]; simp
theorem lev_succ (s : List UInt8) (l n : Nat) : lev s l (n + 1) = lev s l n ++ [nodeF s l n] := by simp [lev, List.range_succ]
theorem lev_next (s : List UInt8) (l n i : Nat) (h : 2 * i + 1 < n) : lev s (l + 1) i ++ [joinedF ((lev s l n).getD (2 * i) []) ((lev s l n).getD (2 * i + 1) [])] = lev s (l + 1) (i + 1) := by
  rw [lev_succ, lev_get s l n _ zz13, lev_get s l n _ h]; rfl
theorem cells_pre {r : Rd} {a : Addr} {xs ys : List Value} (h : CellsAt r a (xs ++ ys)) : CellsAt r a xs := fun j u hj => h j u (by
  rw [List.getElem?_append_left (List.getElem?_eq_some_iff.1 hj).1]; exact hj)
structure LevelsOk (s : List UInt8) (m : Nat) (qs : List (Value × List (List UInt8))) (n : Nat) : Prop where
  len : qs.length = n
  rows : ∀ j q, qs[j]? = some q → q.2 = lev s j (2 ^ (m - j))
  sv : ∀ q ∈ qs, SV q.1 q.2.length
theorem LevelsOk.snoc {s : List UInt8} {m n : Nat} {qs : List (Value × List (List UInt8))} {v : Value} (h : LevelsOk s m qs n) (hv : SV v (2 ^ (m - n))) : LevelsOk s m (qs ++ [(v, lev s n (2 ^ (m - n)))]) (n + 1) := by
  refine ⟨by rw [List.length_append, h.len]; rfl, fun j q hj => ?_, fun q hq => ?_⟩
  · rw [List.getElem?_append] at hj
    split at hj
    · exact h.rows j q hj
    · rename_i hlt
      rw [h.len] at hj hlt
      have h1 : j - n = 0 := by
        have := (List.getElem?_eq_some_iff.1 hj).1
        simp at this; omega
      rw [h1] at hj
      obtain rfl : j = n := by omega
      simp at hj; subst hj; rfl
  · rcases List.mem_append.1 hq with hq | hq
    · exact h.sv q hq
    · rw [List.mem_singleton.1 hq]
      show SV v (lev s n (2 ^ (m - n))).length
      rw [lev_length]; exact hv
theorem LevelsOk.get {s : List UInt8} {m n : Nat} {qs : List (Value × List (List UInt8))} (h : LevelsOk s m qs n) {j : Nat} (hj : j < n) : ∃ v, (qs.map Prod.fst)[j]? = some v ∧ (v, lev s j (2 ^ (m - j))) ∈ qs ∧ SV v (2 ^ (m - j)) := by
  have hlt : j < qs.length := by rw [h.len]; exact hj
  have h1 := h.rows j _ (List.getElem?_eq_getElem hlt)
  have h2 := List.getElem_mem hlt
  refine ⟨qs[j].1, by rw [List.getElem?_map, List.getElem?_eq_getElem hlt]; rfl, ?_, ?_⟩
  · rw [← h1]; exact h2
  · have := h.sv _ h2
    rw [h1, lev_length] at this; exact this
theorem pow_half {m l : Nat} (h : l < m) : 2 ^ (m - l) = 2 * 2 ^ (m - (l + 1)) := by
  rw [show m - l = (m - (l + 1)) + 1 from zz13, Nat.pow_succ]; omega
theorem one_one {v : Value} (h : v.oneCell' = true) : ∀ u ∈ [v], u.oneCell' = true := fun u hu => by rw [List.mem_singleton.1 hu]; exact h
theorem levels_one {s : List UInt8} {m : Nat} {v : Value} (hv : SV v (2 ^ m)) : LevelsOk s m [(v, lev s 0 (2 ^ m))] 1 := by
  have := LevelsOk.snoc (s := s) (m := m) (n := 0) (qs := []) (v := v) ⟨rfl, fun j q h => by simp at h, fun q h => by cases h⟩ hv
  exact this
theorem levels_init {w0 w : World} {s : List UInt8} {m : Nat} {v b : Value} {M : List Ent} {t e : TypeId} (h : Mem w0 [] (.row b 1 t 1 [v] :: .row v (2 ^ m) e 16 (v8s (lev s 0 (2 ^ m)).flatten) :: M) [] w) :
    Mem w0 [] (.row b (0 + 1) t 1 ([(v, lev s 0 (2 ^ m))].map Prod.fst) :: M) [Go.PL.seen v (2 ^ (m - 0)) 16 (v8s (lev s 0 (2 ^ (m - 0))).flatten), rowsF 16 [(v, lev s 0 (2 ^ m))]] w := by
  refine (h.freezeRow (.there .here)).imp fun r hr t ht => ?_
  have h1 : Seen r v (2 ^ m) 16 (v8s (lev s 0 (2 ^ m)).flatten) := hr _ (List.mem_cons_self ..)
  rcases List.mem_cons.1 ht with rfl | ht
  · exact h1
  · rw [List.mem_singleton.1 ht]
    intro q hq
    rw [List.mem_singleton.1 hq]
    show Seen r v (lev s 0 (2 ^ m)).length 16 _
    rw [lev_length]; exact h1
theorem levels_next {w0 w : World} {s : List UInt8} {m l : Nat} {v vl b b2 : Value} {qs : List (Value × List (List UInt8))} {x : List Value} {M : List Ent} {t t2 e : TypeId} {N : Nat} {ws : List Value}
    (h : Mem w0 [] (.row b2 1 t2 1 x :: .row v (2 ^ (m - (l + 1))) e 16 (v8s (lev s (l + 1) (2 ^ (m - (l + 1)))).flatten) :: .row b (l + 1 + 1) t 1 (qs.map Prod.fst ++ [v]) :: M) [Go.PL.seen vl N 16 ws, rowsF 16 qs] w) :
    Mem w0 [] (.row b (l + 1 + 1) t 1 ((qs ++ [(v, lev s (l + 1) (2 ^ (m - (l + 1))))]).map Prod.fst) :: M) [Go.PL.seen v (2 ^ (m - (l + 1))) 16 (v8s (lev s (l + 1) (2 ^ (m - (l + 1)))).flatten), rowsF 16 (qs ++ [(v, lev s (l + 1) (2 ^ (m - (l + 1))))])] w := by
  rw [List.map_append]
  refine ((h.sub (.drop (Sub.refl _)) (Sub.refl _)).freezeRow .here).imp fun r hr t ht => ?_
  have h1 : Seen r v (2 ^ (m - (l + 1))) 16 (v8s (lev s (l + 1) (2 ^ (m - (l + 1)))).flatten) := hr _ (List.mem_cons_self ..)
  have h2 : ∀ q ∈ qs, Seen r q.1 q.2.length 16 (v8s q.2.flatten) := hr (rowsF 16 qs) zz38
  rcases List.mem_cons.1 ht with rfl | ht
  · exact h1
  · rw [List.mem_singleton.1 ht]
    intro q hq
    rcases List.mem_append.1 hq with hq | hq
    · exact h2 q hq
    · rw [List.mem_singleton.1 hq]
      show Seen r v (lev s (l + 1) (2 ^ (m - (l + 1)))).length 16 _
      rw [lev_length]; exact h1
theorem leaf7 (xs : List UInt8) (ht : Int) (i : Nat) (w : World) (hxs : xs.length = 16) (hG : Glb w) :
    Calls Tryd.prog 98 [.agg (v8s xs ++ [Value.int .i64 ht]).toArray, .int .i64 ((i : Nat) : Int)].toArray w (Pur w (.agg (v8s (leafF xs i)).toArray)) := by
  refine enter (m := 12) (R := Mem w [] [] []) Tryd.func98 rfl rfl (Nat.le_of_ble_eq_true rfl) (Mem.start w) ?_
  refine wpc_seq <| wpc_region ?_
  refine wpl_t (t_box rfl (v8s xs ++ [Value.int .i64 ht]) rfl) rfl (fun b2 => ?_)
  refine wpl_t (t_alloc Tryd.ti61 (v8s (List.replicate 16 0)) (by rfl)) rfl (fun b4 => ?_)
  refine wpl_nil <| ex_then <| wpc_seq <| wpc_region <| wpl_q (q_field Tryd.underlying145 rfl Tryd.ti61 rfl rfl _ rfl) rfl <| wpl_q (q_arAll Tryd.underlying61 Tryd.ti5 rfl rfl) rfl <| wpl_q (q_pure rfl) rfl <| wpl_q (q8_conv Tryd.underlying3 Tryd.underlying5 rfl) rfl ?_
  refine wpl_tp (t_bsV (v8s [_, (254 : UInt8), (0 : UInt8)]) Tryd.underlying32 Tryd.ti5 rfl rfl zz17 zz17 rfl (v8s_one _)) rfl (fun b9 p9 => ?_)
  refine wpl_tp (t_apF Tryd.underlying32 Tryd.ti5 rfl rfl rfl (fun w h => seen_whole (cells_pre h.atB) zz17 ((v8s_length _).trans hxs)) (fun w h => zz9) zz2 zz2 zz2 _ zz14) rfl (fun b10 p10 => ?_)
  refine wpl_t (t_pur Tryd.hb118 rfl fun w h => shortW _ _ w zz11 (glob h hG)) rfl (fun b11 => ?_)
  refine wpl_t0 (t_stA Tryd.ti61 rfl rfl zz0 (v8s_one _) zz0) (fun _ => ?_)
  refine wpl_nil <| ex_then <| wpc_ret ?_
  refine retv1 (.inl rfl) rfl (rv_agg Tryd.underlying61 rfl Tryd.ti61 rfl (fun w h => h.atB) zz0) ?_
  exact fun w h => ⟨rfl, h.below⟩
theorem levels7 (xs : List UInt8) (m : Nat) (w : World) (hxs : xs.length = 16) (hm : m ≤ 4) (hG : Glb w) :
    Calls Tryd.prog 83 [.agg (v8s xs ++ [Value.int .i64 ((m : Nat) : Int)]).toArray].toArray w (GivesP w (fun x : Value × List (Value × List (List UInt8)) => SV x.1 (m + 1) ∧ LevelsOk xs m x.2 (m + 1)) (fun x => x.1) (fun x => [.row x.1 (m + 1) 64 1 (x.2.map Prod.fst)]) (fun x => [rowsF 16 x.2])) := by
  have hpm := pow_le16 hm
  refine enter (m := 52) (R := Mem w [] [] []) Tryd.func83 rfl rfl (Nat.le_of_ble_eq_true rfl) (Mem.start w) ?_
  refine wpc_seq <| wpc_region ?_
  refine wpl_t (t_box rfl (v8s xs ++ [Value.int .i64 ((m : Nat) : Int)]) rfl) rfl (fun b1 => ?_)
  refine wpl_q (q_pure rfl) rfl <| wpl_nil <| ex_then <| wpc_seq <| wpc_region <| wpl_q (q_pure rfl) rfl <| wpl_nil <| ex_then <| wpc_seq <| wpc_seq <| wpc_region <| wpl_q (q_field Tryd.underlying145 rfl Tryd.ti3 rfl rfl _ rfl) rfl ?_
  refine wpl_q (q_ld Tryd.underlying3 rfl rfl (key_height xs m hxs)) rfl ?_
  refine wpl_q (q_shlN (a := 1) rfl rfl zz30 zz2) rfl ?_
  refine wpl_q (q_pure rfl) rfl <| wpl_nil <| ex_then <| wpc_block ?_
  refine wpc_loopc (ι := { x : Nat × Value // (x.1 ≤ 2 ^ m) ∧ (SV x.2 x.1) }) [(1, _), (10, _)] (fun x Lc => (11, .int .i64 ((x.1.1 : Nat) : Int)) :: (3, x.1.2) :: Lc) (fun x => Mem w [] [.row x.1.2 x.1.1 61 16 (v8s (lev xs 0 x.1.1).flatten), .blk b1 145 (v8s xs ++ [Value.int .i64 ((m : Nat) : Int)])] []) (fun x => 2 ^ m - x.1.1) ⟨(0, .slice none 0 0), ⟨Nat.zero_le _, SV.nil⟩⟩ zz12 ?_ ?_
  ·
   exact fun w h => h.nilRow 61 16
  ·
   rintro ⟨⟨i, v⟩, ⟨hi0, hi1⟩⟩; try dsimp only
   have hi0 : i ≤ 2 ^ m := hi0; have hi1 : SV v i := hi1
   refine wpc_seq <| wpc_region <| wpl_q (q_pure rfl) rfl <| wpl_nil <| ex_then <| wpc_seq ?_
   refine wpc_cond rfl (fun hc12 => ?_) (fun hc12 => ?_)
   ·
    simp only [decide_eq_true_eq] at hc12
    refine wpc_skip <| ex_then <| wpc_seq <| wpc_block <| wpc_seq <| wpc_region <| wpl_q (q_pure rfl) rfl <| wpl_q (q_pure rfl) rfl <| wpl_nil <| ex_then <| wpc_region <| wpl_q (q_pure rfl) rfl ?_
    refine wpl_q (q_ldN Tryd.underlying145 rfl Tryd.ti145 rfl (key_len xs m hxs)) rfl <| wpl_q (q_pure rfl) rfl ?_
    refine wpl_t (t_pur Tryd.hb98 rfl fun w h => leaf7 _ _ _ w zz20 (glob h hG)) rfl (fun b17 => ?_)
    refine wpl_t (t_pur Tryd.hb102 rfl fun w h => public_ _ w zz20 (glob h hG)) rfl (fun b18 => ?_)
    refine wpl_tp (t_bsS [_] Tryd.underlying64 Tryd.ti61 rfl zz17 rfl zz17 zz17 rfl (all_one zz20)) rfl (fun b19 p19 => ?_)
    refine wpl_tp (t_apW Tryd.underlying64 Tryd.ti61 rfl zz17 rfl rfl (fun w h => zz9) zz3 zz2 zz2 _ zz14) rfl (fun b20 p20 => ?_)
    refine wpl_q (q_pure rfl) rfl <| wpl_nil <| ex_block <| ex_then <| wpc_region ?_
    refine wpl_q (q_addN (b := 1) rfl rfl zz2) rfl ?_
    refine wpl_q (q_pure rfl) rfl <| wpl_nil ?_
    refine ex_again ⟨(i + 1, b20), ⟨zz13, p20⟩⟩ ?_ ?_ ?_
    ·
     exact zz12
    ·
     exact fun w h => by
       dsimp only
       rw [lev_succ, List.flatten_append]
       exact h.sub (.drop (Sub.refl _)) (Sub.refl _)
    ·
     (show 2 ^ m - (i + 1) < 2 ^ m - i); omega
   ·
    simp only [decide_eq_false_iff_not] at hc12
    obtain rfl : i = 2 ^ m := by omega
    refine wpc_exit ?_
    refine ex_then_exit ?_
    refine ex_then_exit ?_
    refine ex_block_hit ?_
    refine ex_then <| wpc_seq <| wpc_region <| wpl_q (q_pure rfl) rfl ?_
    refine wpl_tp (t_bsV [v] Tryd.underlying143 Tryd.ti64 rfl rfl zz17 zz17 rfl (one_one hi1.one)) rfl (fun b23 p23 => ?_)
    refine wpl_q (q_pure rfl) rfl <| wpl_nil <| ex_then <| wpc_seq <| wpc_block ?_
    refine wpc_loopc (ι := { x : Nat × Value × Value × List (Value × List (List UInt8)) // (x.1 ≤ m) ∧ (SV x.2.1 (2 ^ (m - x.1))) ∧ (SV x.2.2.1 (x.1 + 1)) ∧ (LevelsOk xs m x.2.2.2 (x.1 + 1)) }) [] (fun x Lc => (3, x.1.2.1) :: (5, x.1.2.2.1) :: Lc) (fun x => Mem w [] [.row x.1.2.2.1 (x.1.1 + 1) 64 1 (x.1.2.2.2.map Prod.fst), .blk b1 145 (v8s xs ++ [Value.int .i64 ((m : Nat) : Int)])] [Go.PL.seen x.1.2.1 (2 ^ (m - x.1.1)) 16 (v8s (lev xs x.1.1 (2 ^ (m - x.1.1))).flatten), rowsF 16 x.1.2.2.2]) (fun x => m - x.1.1) ⟨(0, v, b23, [(v, lev xs 0 (2 ^ m))]), ⟨Nat.zero_le _, hi1, p23, levels_one hi1⟩⟩ zz12 ?_ ?_
    ·
     exact fun w h => levels_init h
    ·
     rintro ⟨⟨l, vl, vt, qs⟩, ⟨hi0, hi1, hi2, hi3⟩⟩; try dsimp only
     have hi0 : l ≤ m := hi0; have hi1 : SV vl (2 ^ (m - l)) := hi1; have hi2 : SV vt (l + 1) := hi2; have hi3 : LevelsOk xs m qs (l + 1) := hi3
     refine wpc_seq <| wpc_seq <| wpc_region <| wpl_q (q_pure rfl) rfl ?_
     refine wpl_q (q_lenW Tryd.underlying64 rfl zz4) rfl ?_
     refine wpl_q (q_pure rfl) rfl <| wpl_nil <| ex_then ?_
     refine wpc_cond rfl (fun hc26 => ?_) (fun hc26 => ?_)
     ·
      simp only [decide_eq_true_eq] at hc26
      have hlm : l < m := by
        apply Classical.byContradiction
        intro hn
        have : m - l = 0 := by omega
        rw [this] at hc26
        omega
      have hpw := pow_half hlm
      have hpl : 2 ^ (m - l) ≤ 16 := pow_le16 zz13
      have hll := lev_length xs l (2 ^ (m - l))
      have hla := lev_all xs l (2 ^ (m - l))
      refine wpc_skip <| ex_then <| wpc_block <| wpc_seq <| wpc_region <| wpl_q (q_pure rfl) rfl <| wpl_nil <| ex_then <| wpc_seq <| wpc_seq <| wpc_region <| wpl_q (q_pure rfl) rfl ?_
      refine wpl_nil <| ex_then <| wpc_block ?_
      refine wpc_loopc (ι := { x : Nat × Nat × Value // (x.1 ≤ 2 ^ (m - (l + 1))) ∧ (x.2.1 = 2 * x.1) ∧ (SV x.2.2 x.1) }) [(3, _), (5, _)] (fun x Lc => (7, .int .i64 ((x.1.2.1 : Nat) : Int)) :: (6, x.1.2.2) :: Lc) (fun x => Mem w [] [.row x.1.2.2 x.1.1 61 16 (v8s (lev xs (l + 1) x.1.1).flatten), .row vt (l + 1) 64 1 (qs.map Prod.fst), .blk b1 145 (v8s xs ++ [Value.int .i64 ((m : Nat) : Int)])] [Go.PL.seen vl (2 ^ (m - l)) 16 (v8s (lev xs l (2 ^ (m - l))).flatten), rowsF 16 qs]) (fun x => 2 ^ (m - (l + 1)) - x.1.1) ⟨(0, 0, .slice none 0 0), ⟨Nat.zero_le _, rfl, SV.nil⟩⟩ zz12 ?_ ?_
      ·
       exact fun w h => h.nilRow 61 16
      ·
       rintro ⟨⟨i, j, v6⟩, ⟨hi0, hi1, hi2⟩⟩; try dsimp only
       have hi0 : i ≤ 2 ^ (m - (l + 1)) := hi0; have hi1 : j = 2 * i := hi1; have hi2 : SV v6 i := hi2
       refine wpc_seq <| wpc_seq <| wpc_region <| wpl_q (q_pure rfl) rfl <| wpl_q (q_pure rfl) rfl ?_
       refine wpl_q (q_lenW Tryd.underlying64 rfl zz4) rfl ?_
       refine wpl_q (q_pure rfl) rfl <| wpl_nil <| ex_then ?_
       refine wpc_cond rfl (fun hc30 => ?_) (fun hc30 => ?_)
       ·
        simp only [decide_eq_true_eq] at hc30
        have hg1 := getD_mem_len hla (i := j) zz13
        have hg2 := getD_mem_len hla (i := j + 1) zz13
        refine wpc_skip <| ex_then <| wpc_seq <| wpc_block ?_
        refine wpc_draw 12 zz6 (fun _ h => h.drew) ?_
        refine wpd_p 0 rfl zz6 trivial (q_pure rfl) rfl sk0 ?_
        refine wpd_p 1 rfl zz6 trivial (q_pure rfl) rfl sk0 ?_
        refine wpd_p 2 rfl zz6 trivial (q_pure rfl) rfl sk0 ?_
        refine wpd_p 3 rfl zz6 trivial (q_idxW Tryd.underlying64 Tryd.ti61 rfl rfl zz4 zz2) rfl sk0 ?_
        refine wpd_qB 4 [10, 11, 12] rfl zz6 trivial (q_ldWN Tryd.underlying61 rfl Tryd.ti61 rfl (fun w h => zz9) (v8s ((lev xs l (2 ^ (m - l))).getD j [])) (part8 hla zz13) ((v8s_length _).trans hg1)) rfl (fun _ h => h) ?_
        refine wpd_p 5 rfl zz6 trivial (q_pure rfl) rfl sk0 ?_
        refine wpd_p 6 rfl zz6 trivial (q_pure rfl) rfl sk0 ?_
        refine wpd_p 7 rfl zz6 trivial (q_addN (b := 1) rfl rfl zz2) rfl sk0 ?_
        refine wpd_p 8 rfl zz6 trivial (q_idxW Tryd.underlying64 Tryd.ti61 rfl rfl zz4 zz2) rfl sk0 ?_
        refine wpd_qB 9 [10, 11, 12] rfl zz6 trivial (q_ldWN Tryd.underlying61 rfl Tryd.ti61 rfl (fun w h => zz9) (v8s ((lev xs l (2 ^ (m - l))).getD (j + 1) [])) (part8 hla zz13) ((v8s_length _).trans hg2)) rfl (fun _ h => h) ?_
        refine wpd_t 10 rfl zz6 trivial (t_pur Tryd.hb103 rfl fun w h => joined7 _ _ w zz20 zz20 (glob h hG)) rfl (fun _ => sk0) (fun b43 => ?_)
        refine wpd_tp 11 rfl zz6 trivial (t_bsS [_] Tryd.underlying64 Tryd.ti61 rfl zz17 rfl zz17 zz17 rfl (all_one zz20)) rfl (fun _ => (fun w h => .inr (h.sub SubC.h SubC.h))) (fun b44 p44 => ?_)
        refine wpd_tp 12 rfl zz6 trivial (t_apW Tryd.underlying64 Tryd.ti61 rfl zz17 rfl rfl (fun w h => zz9) zz3 zz2 zz2 _ zz14) rfl (fun _ => skk rfl) (fun b45 p45 => ?_)
        refine wpd_p 13 rfl zz6 trivial (q_pure rfl) rfl (skk rfl) ?_
        refine wpd_done zz6 ?_
        refine ex_block <| ex_then <| wpc_region <| wpl_q (q_pure rfl) rfl ?_
        refine wpl_q (q_addN (b := 2) rfl rfl zz2) rfl ?_
        refine wpl_q (q_pure rfl) rfl <| wpl_nil ?_
        refine ex_again ⟨(i + 1, j + 2, b45), ⟨by dsimp only; omega, by dsimp only; omega, p45⟩⟩ ?_ ?_ ?_
        ·
         exact zz12
        ·
         exact fun w h => by
           dsimp only
           rw [← lev_next xs l (2 ^ (m - l)) i zz13, List.flatten_append]
           rw [hi1] at h
           first | exact h.sub SubC.h SubC.h | exact h.sub zz8 zz8
        ·
         (show 2 ^ (m - (l + 1)) - (i + 1) < 2 ^ (m - (l + 1)) - i); omega
       ·
        simp only [decide_eq_false_iff_not] at hc30
        obtain rfl : i = 2 ^ (m - (l + 1)) := by omega
        have hv6 := hi2
        refine wpc_exit ?_
        refine ex_then_exit ?_
        refine ex_then_exit ?_
        refine ex_block_hit ?_
        refine ex_then <| wpc_seq <| wpc_region <| wpl_q (q_pure rfl) rfl <| wpl_q (q_pure rfl) rfl <| wpl_nil <| ex_then <| wpc_region <| wpl_q (q_pure rfl) rfl <| wpl_q (q_pure rfl) rfl ?_
        refine wpl_tp (t_bsV [v6] Tryd.underlying143 Tryd.ti64 rfl rfl zz17 zz17 rfl (one_one hv6.one)) rfl (fun b49 p49 => ?_)
        refine wpl_tp (t_apW Tryd.underlying143 Tryd.ti64 rfl zz17 rfl rfl (fun w h => h.seenV) (one_one hv6.one) zz2 zz2 (qs.map Prod.fst ++ [v6]) rfl) rfl (fun b50 p50 => ?_)
        refine wpl_q (q_pure rfl) rfl <| wpl_nil <| ex_block ?_
        refine ex_again ⟨(l + 1, v6, b50, qs ++ [(v6, lev xs (l + 1) (2 ^ (m - (l + 1))))]), ⟨zz13, hv6, p50, hi3.snoc hv6⟩⟩ ?_ ?_ ?_
        ·
         exact zz12
        ·
         exact fun w h => levels_next h
        ·
         (show m - (l + 1) < m - l); omega
     ·
      simp only [decide_eq_false_iff_not] at hc26
      obtain rfl : l = m := by
        apply Classical.byContradiction
        intro hn
        have := pow_half (show l < m from zz13)
        have := Nat.two_pow_pos (m - (l + 1))
        omega
      refine wpc_exit ?_
      refine ex_then_exit ?_
      refine ex_then_exit ?_
      refine ex_block_hit ?_
      refine ex_then <| wpc_seq <| wpc_region <| wpl_q (q_pure rfl) rfl <| wpl_q (q_pure rfl) rfl <| wpl_nil <| ex_then <| wpc_ret ?_
      refine ret1 (.inl rfl) rfl rfl ?_
      exact fun w h => ⟨(vt, qs), ⟨hi2, hi3⟩, rfl, h.below, h.made (.keep .nil) (.drop (.keep .nil))⟩
end Go.Proofs.YtjpfhkjmjnjggaaDoor
namespace Go.Proofs.YtjpfhkjmjnjggaaDoor
open Go Go.PL Go.RowKit
theorem list16 {xs : List UInt8} (h : xs.length = 16) : ∃ a0 a1 a2 a3 a4 a5 a6 a7 a8 a9 a10 a11 a12 a13 a14 a15, xs = [a0, a1, a2, a3, a4, a5, a6, a7, a8, a9, a10, a11, a12, a13, a14, a15] := by
  iterate 16 (cases xs with | nil => simp at h | cons a xs => ?_)
  cases xs with
  | nil => exact ⟨_, _, _, _, _, _, _, _, _, _, _, _, _, _, _, _, rfl⟩
  | cons a xs => simp at h
theorem built_key (xs : List UInt8) (ht : Int) (h : xs.length = 16) : Tryd.prog.built 63 [(0, .agg (v8s xs).toArray), (1, .int .i64 ht)] = some (v8s xs ++ [Value.int .i64 ht]).toArray := by
  obtain ⟨a0, a1, a2, a3, a4, a5, a6, a7, a8, a9, a10, a11, a12, a13, a14, a15, rfl⟩ := list16 h
  kernel_rfl
theorem built_tree (xs : List UInt8) (ht : Int) (h : xs.length = 16) : Tryd.prog.built 145 [(0, .agg (v8s xs).toArray), (1, .int .i64 ht)] = some (v8s xs ++ [Value.int .i64 ht]).toArray := by
  obtain ⟨a0, a1, a2, a3, a4, a5, a6, a7, a8, a9, a10, a11, a12, a13, a14, a15, rfl⟩ := list16 h
  kernel_rfl
theorem built_key0 : Tryd.prog.built 63 [] = some (v8s (List.replicate 16 0) ++ [Value.int .i64 0]).toArray := by kernel_rfl
theorem built_sig0 : Tryd.prog.built 66 [] = some #[.int .i64 0, .slice none 0 0, .slice none 0 0] := by kernel_rfl
theorem built_sig2 {v1 : Value} {n1 : Nat} (h1 : SV v1 n1) (idx : Int) : Tryd.prog.built 66 [(0, .int .i64 idx), (1, v1)] = some #[.int .i64 idx, v1, .slice none 0 0] := by
  obtain ⟨a1, c1, rfl, _⟩ := h1
  kernel_rfl
theorem key_one (xs : List UInt8) (ht : Int) : ∀ u ∈ v8s xs ++ [Value.int .i64 ht], u.oneCell' = true := fun u hu => by
  rcases List.mem_append.1 hu with hu | hu
  · exact v8s_one _ u hu
  · rw [List.mem_singleton.1 hu]; rfl
def keyR (s : List UInt8) (ht : Int) : List UInt8 := if 0 ≤ ht ∧ ht ≤ 4 then nodeF s ht.toNat 0 else List.replicate 16 0
def keyH (ht : Int) : Int := if 0 ≤ ht ∧ ht ≤ 4 then ht else 0
def keyE (ht : Int) : Int := if 0 ≤ ht ∧ ht ≤ 4 then 0 else 2
theorem keyR_length (s : List UInt8) (ht : Int) : (keyR s ht).length = 16 := by
  unfold keyR; split
  · exact nodeF_length _ _ _
  · exact List.length_replicate
instance l16_keyR {s : List UInt8} {ht : Int} : L16 (keyR s ht) := ⟨keyR_length s ht⟩
def okS (ht idx : Int) : Prop := (0 ≤ ht ∧ ht ≤ 4) ∧ 0 ≤ idx ∧ idx < ((2 ^ ht.toNat : Nat) : Int)
instance (ht idx : Int) : Decidable (okS ht idx) := by unfold okS; infer_instance
def pathF (s : List UInt8) (k m : Nat) : List (List UInt8) := (List.range m).map fun l => nodeF s l ((k / 2 ^ l) ^^^ 1)
theorem pathF_length (s : List UInt8) (k m : Nat) : (pathF s k m).length = m := by simp [pathF]
theorem pathF_all (s : List UInt8) (k m : Nat) : ∀ x ∈ pathF s k m, x.length = 16 := fun x hx => by
  obtain ⟨i, _, rfl⟩ := List.mem_map.1 hx; exact nodeF_length _ _ _
theorem pathF_succ (s : List UInt8) (k m : Nat) : pathF s k (m + 1) = pathF s k m ++ [nodeF s m ((k / 2 ^ m) ^^^ 1)] := by simp [pathF, List.range_succ]
theorem sib_lt {q m k : Nat} (h : q < 2 ^ m) (hk : k < m) : (q / 2 ^ k) ^^^ 1 < 2 ^ (m - k) := by
  refine Nat.xor_lt_two_pow ?_ ?_
  · rw [Nat.div_lt_iff_lt_mul (Nat.two_pow_pos k), ← Nat.pow_add, Nat.sub_add_cancel (Nat.le_of_lt hk)]; exact h
  · exact Nat.one_lt_two_pow zz13
def sigC (s : List UInt8) (ht idx : Int) (bs : List UInt8) : List (List UInt8) := if okS ht idx then signF (leafF s idx.toNat) bs else []
def sigP (s : List UInt8) (ht idx : Int) : List (List UInt8) := if okS ht idx then pathF s idx.toNat ht.toNat else []
def sigI (ht idx : Int) : Int := if okS ht idx then idx else 0
def sigE (ht idx : Int) : Int := if okS ht idx then 0 else 2
theorem sigC_all (s : List UInt8) (ht idx : Int) (bs : List UInt8) : ∀ x ∈ sigC s ht idx bs, x.length = 16 := by
  unfold sigC; split
  · exact signF_all _ _
  · intro x hx; cases hx
theorem sigP_all (s : List UInt8) (ht idx : Int) : ∀ x ∈ sigP s ht idx, x.length = 16 := by
  unfold sigP; split
  · exact pathF_all _ _ _
  · intro x hx; cases hx
theorem okS_nat {m q : Nat} (hm : m ≤ 4) (hq : q < 2 ^ m) : okS (m : Int) (q : Int) := ⟨⟨zz13, zz13⟩, zz13, by rw [Int.toNat_natCast]; omega⟩
theorem key7 (xs : List UInt8) (ht : Int) (w : World) (hxs : xs.length = 16) (hG : Glb w) :
    Calls Tryd.prog 54 [.agg (v8s xs).toArray, .int .i64 ht].toArray w (Pur w (.tuple #[.agg (v8s (keyR xs ht) ++ [Value.int .i64 (keyH ht)]).toArray, .int .i64 (keyE ht)])) := by
  refine enter (m := 21) (R := Mem w [] [] []) Tryd.func54 rfl rfl (Nat.le_of_ble_eq_true rfl) (Mem.start w) ?_
  refine wpc_seq <| wpc_region ?_
  refine wpl_t (t_box rfl (v8s xs) rfl) rfl (fun b2 => ?_)
  refine wpl_t (t_alloc Tryd.ti63 _ rfl) rfl (fun b4 => ?_)
  refine wpl_q (q_pure rfl) rfl <| wpl_nil <| ex_then <| wpc_seq <| wpc_seq <| wpc_region <| wpl_q (q_pure rfl) rfl ?_
  refine wpl_t (t_pur Tryd.hb65 rfl fun w h => good _ w) rfl (fun b7 => ?_)
  refine wpl_q (q_pure rfl) rfl <| wpl_nil <| ex_then ?_
  refine wpc_cond rfl (fun hc8 => ?_) (fun hc8 => ?_)
  ·
   simp only [Bool.not_eq_true', decide_eq_false_iff_not] at hc8
   have e1 : keyR xs ht = (List.replicate 16 0) := if_neg hc8
   have e2 : keyH ht = 0 := if_neg hc8
   have e3 : keyE ht = 2 := if_neg hc8
   refine wpc_seq <| wpc_region ?_
   refine wpl_q (q_build (cs := v8s (List.replicate 16 0) ++ [Value.int .i64 0]) rfl built_key0) rfl ?_
   refine wpl_t0 (t_stA Tryd.ti63 rfl rfl zz0 zz3 zz0) (fun _ => ?_)
   refine wpl_q (q_pure rfl) rfl <| wpl_nil <| ex_then <| wpc_ret ?_
   refine ex_then_ret ?_
   refine retv2 (.inl rfl) rfl (rv_agg Tryd.underlying63 rfl Tryd.ti63 rfl (fun w h => h.atB) (key_len _ _ zz20)) (rv_tmp rfl) ?_
   exact fun w h => ⟨by rw [e1, e2, e3], h.below⟩
  ·
   simp only [Bool.not_eq_false', decide_eq_true_eq] at hc8
   obtain ⟨m, rfl⟩ : ∃ m : Nat, ht = (m : Int) := ⟨ht.toNat, zz13⟩
   have e1 : keyR xs m = nodeF xs m 0 := if_pos hc8
   have e2 : keyH m = m := if_pos hc8
   have e3 : keyE m = 0 := if_pos hc8
   refine wpc_skip <| ex_then <| wpc_seq <| wpc_region ?_
   refine wpl_q (q_ldN Tryd.underlying61 rfl Tryd.ti61 rfl zz0) rfl ?_
   refine wpl_q (q_pure rfl) rfl ?_
   refine wpl_q (q_build (cs := v8s xs ++ [Value.int .i64 ((m : Nat) : Int)]) rfl (built_tree _ _ hxs)) rfl ?_
   refine wpl_tp (t_callPF Tryd.hb83 rfl fun w h => levels7 _ _ w zz20 zz13 (glob h hG)) rfl (fun b13 p13 => ?_)
   obtain ⟨hq1, hq2⟩ := p13
   obtain ⟨u, hu1, hu2, hu3⟩ := hq2.get (show m < m + 1 from zz13)
   rw [Nat.sub_self] at hu2 hu3
   refine wpl_q (q_pure rfl) rfl ?_
   refine wpl_q (q_idxW1 Tryd.underlying143 Tryd.ti64 rfl rfl zz4 zz2) rfl ?_
   refine wpl_q (q_ldW Tryd.underlying64 rfl rfl (fun w h => zz9) hu1) rfl ?_
   refine wpl_q (q_idxW (j := 0) Tryd.underlying64 Tryd.ti61 rfl rfl zz4 zz2) rfl ?_
   refine wpl_q (q_ldWN Tryd.underlying61 rfl Tryd.ti61 rfl (fun w h => h.rowsF zz5 hu2) (v8s ((lev xs m (2 ^ 0)).getD 0 [])) (part8 (lev_all _ _ _) (by rw [lev_length]; decide)) ((v8s_length _).trans (getD_mem_len (lev_all _ _ _) (by rw [lev_length]; decide)))) rfl ?_
   refine wpl_re 18 rfl (congrArg (fun l : List UInt8 => Value.agg (v8s l).toArray) (lev_get xs m (2 ^ 0) 0 zz17)) ?_
   refine wpl_q (q_pure rfl) rfl ?_
   refine wpl_q (q_build (cs := v8s (nodeF xs m 0) ++ [Value.int .i64 ((m : Nat) : Int)]) rfl (built_key _ _ (nodeF_length _ _ _))) rfl ?_
   refine wpl_t0 (t_stA Tryd.ti63 rfl rfl zz0 zz3 zz0) (fun _ => ?_)
   refine wpl_q (q_pure rfl) rfl <| wpl_nil <| ex_then <| wpc_ret ?_
   refine retv2 (.inl rfl) rfl (rv_agg Tryd.underlying63 rfl Tryd.ti63 rfl (fun w h => h.atB) (key_len _ _ zz20)) (rv_tmp rfl) ?_
   exact fun w h => ⟨by rw [e1, e2, e3], h.below⟩
end Go.Proofs.YtjpfhkjmjnjggaaDoor
namespace Go.Proofs.YtjpfhkjmjnjggaaDoor
open Go Go.PL Go.RowKit
theorem sign7 (xs : List UInt8) (ht : Int) (idx : Int) (bv : Value) (bs : List UInt8) (w : World) (hxs : xs.length = 16) (hbv : Seen w.cell? bv bs.length 1 (v8s bs)) (hG : Glb w) :
    Calls Tryd.prog 80 [.agg (v8s xs).toArray, .int .i64 ht, .int .i64 idx, bv].toArray w (GivesP w (fun x : Value × Value => SV x.1 (sigC xs ht idx bs).length ∧ SV x.2 (sigP xs ht idx).length) (fun x : Value × Value => .tuple #[.agg #[.int .i64 (sigI ht idx), x.1, x.2], .int .i64 (sigE ht idx)]) (fun x => [.row x.1 (sigC xs ht idx bs).length 61 16 (v8s (sigC xs ht idx bs).flatten), .row x.2 (sigP xs ht idx).length 61 16 (v8s (sigP xs ht idx).flatten)]) (fun _ => [])) := by
  have sbv := hbv.sv
  have lbv := sbv.le
  simp only [maxLen] at lbv
  refine enter (m := 62) (R := Mem w [] [] []) Tryd.func80 rfl rfl (Nat.le_of_ble_eq_true rfl) (Mem.start w) ?_
  refine wpc_seq <| wpc_region ?_
  refine wpl_t (t_box rfl (v8s xs) rfl) rfl (fun b4 => ?_)
  refine wpl_t (t_alloc Tryd.ti66 _ rfl) rfl (fun b8 => ?_)
  refine wpl_q (q_pure rfl) rfl <| wpl_nil <| ex_then <| wpc_seq <| wpc_seq <| wpc_region <| wpl_q (q_pure rfl) rfl ?_
  refine wpl_t (t_pur Tryd.hb65 rfl fun w h => good _ w) rfl (fun b15 => ?_)
  refine wpl_q (q_pure rfl) rfl <| wpl_q (q_pure rfl) rfl ?_
  refine wpl_bool2 17 16 rfl rfl (fun hb17 => ?_) (fun hb17 => ?_)
  ·
   try simp only [decide_eq_true_eq, decide_eq_false_iff_not, Bool.and_eq_true, Bool.or_eq_true, beq_iff_eq, bne_iff_ne, ne_eq, Bool.not_eq_true', Bool.not_eq_false', Decidable.not_not] at hb17
   refine wpl_off rfl rfl rfl rfl <| wpl_off rfl rfl rfl rfl <| wpl_q (q_pure rfl) rfl <| wpl_q (q_pure rfl) rfl <| wpl_off rfl rfl rfl rfl <| wpl_off rfl rfl rfl rfl <| wpl_off rfl rfl rfl rfl <| wpl_off rfl rfl rfl rfl <| wpl_q (q_pure rfl) rfl <| wpl_nil <| ex_then ?_
   refine wpc_cond_t rfl ?_
   refine wpc_seq <| wpc_region ?_
   refine wpl_q (q_build (cs := [.int .i64 0, .slice none 0 0, .slice none 0 0]) rfl built_sig0) rfl ?_
   refine wpl_t0 (t_stA Tryd.ti66 rfl rfl zz0 zz3 zz0) (fun _ => ?_)
   refine wpl_q (q_pure rfl) rfl <| wpl_nil <| ex_then <| wpc_ret ?_
   refine ex_then_ret ?_
   refine retv2 (.inl rfl) rfl (rv_agg Tryd.underlying66 rfl Tryd.ti66 rfl (fun w h => h.atB) rfl) (rv_tmp rfl) ?_
   exact fun w h => by
     first
     | (
       have hno : ¬ okS ht idx := fun hk => by
         obtain ⟨h1, h2, h3⟩ := hk
         try rw [Int.toNat_natCast] at h3
         first | omega | (simp only [Bool.not_eq_true', decide_eq_false_iff_not, decide_eq_true_eq] at *; omega) | (simp_all; done)
       have e1 : sigC xs ht idx bs = [] := if_neg hno
       have e2 : sigP xs ht idx = [] := if_neg hno
       have e3 : sigI ht idx = 0 := if_neg hno
       have e4 : sigE ht idx = 2 := if_neg hno
       rw [e1, e2, e3, e4]
       exact ⟨(.slice none 0 0, .slice none 0 0), ⟨SV.nil, SV.nil⟩, rfl, h.below, ((h.nilRow 61 16).nilRow 61 16).made (.keep (.keep .nil)) .nil⟩)
     | (
       have hno : ¬ okS (m : Int) idx := fun hk => by
         obtain ⟨h1, h2, h3⟩ := hk
         try rw [Int.toNat_natCast] at h3
         first | omega | (simp only [Bool.not_eq_true', decide_eq_false_iff_not, decide_eq_true_eq] at *; omega) | (simp_all; done)
       have e1 : sigC xs (m : Int) idx bs = [] := if_neg hno
       have e2 : sigP xs (m : Int) idx = [] := if_neg hno
       have e3 : sigI (m : Int) idx = 0 := if_neg hno
       have e4 : sigE (m : Int) idx = 2 := if_neg hno
       rw [e1, e2, e3, e4]
       exact ⟨(.slice none 0 0, .slice none 0 0), ⟨SV.nil, SV.nil⟩, rfl, h.below, ((h.nilRow 61 16).nilRow 61 16).made (.keep (.keep .nil)) .nil⟩)
  ·
   simp only [Bool.not_eq_false', decide_eq_true_eq] at hb17
   obtain ⟨m, rfl⟩ : ∃ m : Nat, ht = (m : Int) := ⟨ht.toNat, zz13⟩
   have hpw := pow_le16 (m := m) zz13
   refine wpl_on rfl rfl <| wpl_q (q_pure rfl) rfl <| wpl_on rfl rfl <| wpl_q (q_pure rfl) rfl <| wpl_q (q_pure rfl) rfl <| wpl_q (q_pure rfl) rfl ?_
   refine wpl_bool2 21 19 rfl rfl (fun hb21 => ?_) (fun hb21 => ?_)
   ·
    try simp only [decide_eq_true_eq, decide_eq_false_iff_not, Bool.and_eq_true, Bool.or_eq_true, beq_iff_eq, bne_iff_ne, ne_eq, Bool.not_eq_true', Bool.not_eq_false', Decidable.not_not] at hb21
    refine wpl_off rfl rfl rfl rfl <| wpl_off rfl rfl rfl rfl <| wpl_off rfl rfl rfl rfl <| wpl_off rfl rfl rfl rfl <| wpl_q (q_pure rfl) rfl <| wpl_nil <| ex_then ?_
    refine wpc_cond_t rfl ?_
    refine wpc_seq <| wpc_region ?_
    refine wpl_q (q_build (cs := [.int .i64 0, .slice none 0 0, .slice none 0 0]) rfl built_sig0) rfl ?_
    refine wpl_t0 (t_stA Tryd.ti66 rfl rfl zz0 zz3 zz0) (fun _ => ?_)
    refine wpl_q (q_pure rfl) rfl <| wpl_nil <| ex_then <| wpc_ret ?_
    refine ex_then_ret ?_
    refine retv2 (.inl rfl) rfl (rv_agg Tryd.underlying66 rfl Tryd.ti66 rfl (fun w h => h.atB) rfl) (rv_tmp rfl) ?_
    exact fun w h => by
      first
      | (
        have hno : ¬ okS ht idx := fun hk => by
          obtain ⟨h1, h2, h3⟩ := hk
          try rw [Int.toNat_natCast] at h3
          first | omega | (simp only [Bool.not_eq_true', decide_eq_false_iff_not, decide_eq_true_eq] at *; omega) | (simp_all; done)
        have e1 : sigC xs ht idx bs = [] := if_neg hno
        have e2 : sigP xs ht idx = [] := if_neg hno
        have e3 : sigI ht idx = 0 := if_neg hno
        have e4 : sigE ht idx = 2 := if_neg hno
        rw [e1, e2, e3, e4]
        exact ⟨(.slice none 0 0, .slice none 0 0), ⟨SV.nil, SV.nil⟩, rfl, h.below, ((h.nilRow 61 16).nilRow 61 16).made (.keep (.keep .nil)) .nil⟩)
      | (
        have hno : ¬ okS (m : Int) idx := fun hk => by
          obtain ⟨h1, h2, h3⟩ := hk
          try rw [Int.toNat_natCast] at h3
          first | omega | (simp only [Bool.not_eq_true', decide_eq_false_iff_not, decide_eq_true_eq] at *; omega) | (simp_all; done)
        have e1 : sigC xs (m : Int) idx bs = [] := if_neg hno
        have e2 : sigP xs (m : Int) idx = [] := if_neg hno
        have e3 : sigI (m : Int) idx = 0 := if_neg hno
        have e4 : sigE (m : Int) idx = 2 := if_neg hno
        rw [e1, e2, e3, e4]
        exact ⟨(.slice none 0 0, .slice none 0 0), ⟨SV.nil, SV.nil⟩, rfl, h.below, ((h.nilRow 61 16).nilRow 61 16).made (.keep (.keep .nil)) .nil⟩)
   ·
    try simp only [decide_eq_true_eq, decide_eq_false_iff_not, Bool.and_eq_true, Bool.or_eq_true, beq_iff_eq, bne_iff_ne, ne_eq, Bool.not_eq_true', Bool.not_eq_false', Decidable.not_not] at hb21
    refine wpl_on rfl rfl <| wpl_q (q_pure rfl) rfl <| wpl_on rfl rfl <| wpl_q (q_pure rfl) rfl <| wpl_on rfl rfl ?_
    refine wpl_q (q_shlN (a := 1) rfl rfl zz30 zz2) rfl ?_
    refine wpl_on rfl rfl <| wpl_q (q_pure rfl) rfl <| wpl_q (q_pure rfl) rfl <| wpl_nil <| ex_then ?_
    refine wpc_cond rfl (fun hc26 => ?_) (fun hc26 => ?_)
    ·
     try simp only [decide_eq_true_eq, decide_eq_false_iff_not, Bool.and_eq_true, Bool.or_eq_true, beq_iff_eq, bne_iff_ne, ne_eq, Bool.not_eq_true', Bool.not_eq_false', Decidable.not_not] at hc26
     refine wpc_seq <| wpc_region ?_
     refine wpl_q (q_build (cs := [.int .i64 0, .slice none 0 0, .slice none 0 0]) rfl built_sig0) rfl ?_
     refine wpl_t0 (t_stA Tryd.ti66 rfl rfl zz0 zz3 zz0) (fun _ => ?_)
     refine wpl_q (q_pure rfl) rfl <| wpl_nil <| ex_then <| wpc_ret ?_
     refine ex_then_ret ?_
     refine retv2 (.inl rfl) rfl (rv_agg Tryd.underlying66 rfl Tryd.ti66 rfl (fun w h => h.atB) rfl) (rv_tmp rfl) ?_
     exact fun w h => by
       first
       | (
         have hno : ¬ okS ht idx := fun hk => by
           obtain ⟨h1, h2, h3⟩ := hk
           try rw [Int.toNat_natCast] at h3
           first | omega | (simp only [Bool.not_eq_true', decide_eq_false_iff_not, decide_eq_true_eq] at *; omega) | (simp_all; done)
         have e1 : sigC xs ht idx bs = [] := if_neg hno
         have e2 : sigP xs ht idx = [] := if_neg hno
         have e3 : sigI ht idx = 0 := if_neg hno
         have e4 : sigE ht idx = 2 := if_neg hno
         rw [e1, e2, e3, e4]
         exact ⟨(.slice none 0 0, .slice none 0 0), ⟨SV.nil, SV.nil⟩, rfl, h.below, ((h.nilRow 61 16).nilRow 61 16).made (.keep (.keep .nil)) .nil⟩)
       | (
         have hno : ¬ okS (m : Int) idx := fun hk => by
           obtain ⟨h1, h2, h3⟩ := hk
           try rw [Int.toNat_natCast] at h3
           first | omega | (simp only [Bool.not_eq_true', decide_eq_false_iff_not, decide_eq_true_eq] at *; omega) | (simp_all; done)
         have e1 : sigC xs (m : Int) idx bs = [] := if_neg hno
         have e2 : sigP xs (m : Int) idx = [] := if_neg hno
         have e3 : sigI (m : Int) idx = 0 := if_neg hno
         have e4 : sigE (m : Int) idx = 2 := if_neg hno
         rw [e1, e2, e3, e4]
         exact ⟨(.slice none 0 0, .slice none 0 0), ⟨SV.nil, SV.nil⟩, rfl, h.below, ((h.nilRow 61 16).nilRow 61 16).made (.keep (.keep .nil)) .nil⟩)
    ·
     obtain ⟨q, rfl⟩ : ∃ q : Nat, idx = (q : Int) := ⟨idx.toNat, zz13⟩
     have hq : q < 2 ^ m := by
       simp only [decide_eq_false_iff_not] at hc26
       omega
     have hok : okS (m : Int) (q : Int) := okS_nat zz13 hq
     have e1 : sigC xs m q bs = signF (leafF xs q) bs := if_pos hok
     have e2 : sigP xs m q = pathF xs q m := if_pos hok
     have e3 : sigI m q = q := if_pos hok
     have e4 : sigE m q = 0 := if_pos hok
     refine wpc_skip <| ex_then <| wpc_seq <| wpc_region ?_
     refine wpl_q (q_ldN Tryd.underlying61 rfl Tryd.ti61 rfl zz0) rfl ?_
     refine wpl_q (q_pure rfl) rfl ?_
     refine wpl_q (q_build (cs := v8s xs ++ [Value.int .i64 ((m : Nat) : Int)]) rfl (built_tree _ _ hxs)) rfl ?_
     refine wpl_t (t_alloc Tryd.ti145 _ rfl) rfl (fun b10 => ?_)
     refine wpl_t0 (t_stA Tryd.ti145 rfl rfl zz0 zz3 zz0) (fun _ => ?_)
     refine wpl_nil <| ex_then <| wpc_seq <| wpc_region <| wpl_q (q_pure rfl) rfl ?_
     refine wpl_q (q_ldN Tryd.underlying145 rfl Tryd.ti145 rfl zz0) rfl ?_
     refine wpl_q (q_pure rfl) rfl ?_
     refine wpl_t (t_pur Tryd.hb98 rfl fun w h => leaf7 _ _ _ w zz20 (glob h hG)) rfl (fun b34 => ?_)
     refine wpl_q (q_pure rfl) rfl ?_
     refine wpl_tp (t_callP1 Tryd.hb97 rfl fun w h => sign1 _ _ _ w zz20 zz11 (glob h hG)) rfl (fun b36 p36 => ?_)
     refine wpl_q (q_build (cs := [.int .i64 ((q : Nat) : Int), b36, .slice none 0 0]) rfl (built_sig2 p36 _)) rfl ?_
     refine wpl_t (t_alloc Tryd.ti66 _ rfl) rfl (fun b11 => ?_)
     refine wpl_t0 (t_stA Tryd.ti66 rfl rfl zz0 zz3 zz0) (fun _ => ?_)
     refine wpl_nil <| ex_then <| wpc_seq <| wpc_seq <| wpc_region <| wpl_q (q_ldN Tryd.underlying145 rfl Tryd.ti145 rfl (key_len _ _ hxs)) rfl ?_
     refine wpl_tp (t_callPF Tryd.hb83 rfl fun w h => levels7 _ _ w zz20 zz13 (glob h hG)) rfl (fun b39 p39 => ?_)
     obtain ⟨hq1, hq2⟩ := p39
     refine wpl_q (q_pure rfl) rfl ?_
     refine wpl_q (q_slWh Tryd.underlying143 Tryd.ti64 rfl rfl zz4 zz13) rfl ?_
     refine wpl_q (q_lenW Tryd.underlying143 rfl zz4) rfl ?_
     refine wpl_q (q_pure rfl) rfl <| wpl_nil <| ex_then <| wpc_block ?_
     refine wpc_loopc (ι := { x : Nat × Value // (x.1 ≤ m) ∧ (SV x.2 x.1) }) [(2, _), (8, _), (11, _), (41, _), (42, _)] (fun x Lc => (43, .int .i64 ((x.1.1 : Nat) : Int)) :: Lc) (fun x => Mem w [] [.row x.1.2 x.1.1 61 16 (v8s (pathF xs q x.1.1).flatten), .row b39.1 (m + 1) 64 1 (b39.2.map Prod.fst), .blk b11 66 [.int .i64 ((q : Nat) : Int), b36, x.1.2], .row b36 35 61 16 (v8s (signF (leafF xs q) bs).flatten), .blk b10 145 (v8s xs ++ [Value.int .i64 ((m : Nat) : Int)]), .blk b8 66 [.int .i64 0, .slice none 0 0, .slice none 0 0]] [rowsF 16 b39.2]) (fun x => m - x.1.1) ⟨(0, .slice none 0 0), ⟨Nat.zero_le _, SV.nil⟩⟩ zz12 ?_ ?_
     ·
      exact fun w h => by
        dsimp only
        exact (h.nilRow 61 16).sub (.keep (.keep (.keep (.keep (.keep (.keep .nil)))))) (Sub.refl _)
     ·
      rintro ⟨⟨k, vp⟩, ⟨hi0, hi1⟩⟩; try dsimp only
      have hi0 : k ≤ m := hi0; have hi1 : SV vp k := hi1
      refine wpc_seq <| wpc_region <| wpl_q (q_pure rfl) rfl <| wpl_nil <| ex_then <| wpc_seq ?_
      refine wpc_cond rfl (fun hc44 => ?_) (fun hc44 => ?_)
      ·
       simp only [decide_eq_true_eq] at hc44
       have hkm : k < m := by omega
       obtain ⟨u, hu1, hu2, hu3⟩ := hq2.get (show k < m + 1 from zz13)
       have hsl := sib_lt hq hkm
       have hqk : q / 2 ^ k ≤ q := Nat.div_le_self _ _
       have hpk : 2 ^ k ≤ 16 := pow_le16 zz13
       have hll := lev_length xs k (2 ^ (m - k))
       have hla := lev_all xs k (2 ^ (m - k))
       have hgl := getD_mem_len hla (i := ((q / 2 ^ k) ^^^ 1)) (by rw [hll]; exact hsl)
       refine wpc_skip <| ex_then <| wpc_seq <| wpc_block <| wpc_seq <| wpc_region <| wpl_q (q_pure rfl) rfl ?_
       refine wpl_q (q_idxW1 Tryd.underlying143 Tryd.ti64 rfl rfl zz4 zz2) rfl ?_
       refine wpl_q (q_ldW Tryd.underlying64 rfl rfl (fun w h => h.seenV.slv 0 m (Nat.zero_le _) zz13) (by rw [Nat.zero_mul, List.drop_zero, List.getElem?_take, if_pos zz13]; exact hu1)) rfl ?_
       refine wpl_q (q_pure rfl) rfl <| wpl_q (q_pure rfl) rfl <| wpl_nil <| ex_then ?_
       refine wpc_draw 10 zz6 (fun _ h => h.drew) ?_
       refine wpd_p 0 rfl zz6 trivial (q_field Tryd.underlying66 rfl Tryd.ti64 rfl rfl _ rfl) rfl sk0 ?_
       refine wpd_q 1 rfl zz6 trivial (q_ld Tryd.underlying64 rfl rfl rfl) rfl (fun _ h => h) ?_
       refine wpd_p 2 rfl zz6 trivial (q_pure rfl) rfl sk0 ?_
       refine wpd_p 3 rfl zz6 trivial (q_pure rfl) rfl sk0 ?_
       refine wpd_p 4 rfl zz6 trivial (q_pure rfl) rfl sk0 ?_
       refine wpd_p 5 rfl zz6 trivial (q_shrN rfl rfl zz30) rfl sk0 ?_
       refine wpd_p 6 rfl zz6 trivial (q_xorN (b := 1) rfl rfl zz2 zz2) rfl sk0 ?_
       refine wpd_p 7 rfl zz6 trivial (q_idxW Tryd.underlying64 Tryd.ti61 rfl rfl zz4 zz2) rfl sk0 ?_
       refine wpd_qB 8 [9, 10] rfl zz6 trivial (q_ldWN Tryd.underlying61 rfl Tryd.ti61 rfl (fun w h => h.rowsF zz5 hu2) (v8s ((lev xs k (2 ^ (m - k))).getD ((q / 2 ^ k) ^^^ 1) [])) (part8 hla (by rw [hll]; exact hsl)) ((v8s_length _).trans hgl)) rfl (fun _ h => h) ?_
       refine wpd_tp 9 rfl zz6 trivial (t_bsS [_] Tryd.underlying64 Tryd.ti61 rfl zz17 rfl zz17 zz17 rfl (all_one zz20)) rfl (fun _ => (fun w h => .inr (h.sub SubC.h SubC.h))) (fun b57 p57 => ?_)
       refine wpd_tp 10 rfl zz6 trivial (t_apW Tryd.underlying64 Tryd.ti61 rfl zz17 rfl rfl (fun w h => zz9) zz3 zz2 zz2 (v8s (pathF xs q (k + 1)).flatten) (by rw [pathF_succ, List.flatten_append, v8s_append, ← lev_get xs k (2 ^ (m - k)) ((q / 2 ^ k) ^^^ 1) hsl])) rfl (fun _ => skk rfl) (fun b58 p58 => ?_)
       refine wpd_p 11 rfl zz6 trivial (q_field Tryd.underlying66 rfl Tryd.ti64 rfl rfl _ rfl) rfl (skk rfl) ?_
       refine wpd_t0 12 rfl zz6 trivial (t_st1 Tryd.ti64 rfl rfl (SV.one zz4) zz7 _ rfl) (fun _ => skk rfl) (fun _ => ?_)
       refine wpd_done zz6 ?_
       refine ex_block <| ex_then <| wpc_region ?_
       refine wpl_q (q_addN (b := 1) rfl rfl zz2) rfl ?_
       refine wpl_q (q_pure rfl) rfl <| wpl_nil ?_
       refine ex_again ⟨(k + 1, b58), ⟨zz13, p58⟩⟩ ?_ ?_ ?_
       ·
        exact zz12
       ·
        exact fun w h => h.sub (.drop (Sub.refl _)) (Sub.refl _)
       ·
        (show m - (k + 1) < m - k); omega
      ·
       simp only [decide_eq_false_iff_not] at hc44
       obtain rfl : k = m := by omega
       refine wpc_exit ?_
       refine ex_then_exit ?_
       refine ex_then_exit ?_
       refine ex_block_hit ?_
       refine ex_then <| wpc_seq <| wpc_region ?_
       refine wpl_q (q_ldN Tryd.underlying66 rfl Tryd.ti66 rfl zz0) rfl ?_
       refine wpl_t0 (t_stA Tryd.ti66 rfl rfl zz0 zz3 zz0) (fun _ => ?_)
       refine wpl_q (q_pure rfl) rfl <| wpl_nil <| ex_then <| wpc_ret ?_
       refine retv2 (.inl rfl) rfl (rv_agg Tryd.underlying66 rfl Tryd.ti66 rfl (fun w h => h.atB) rfl) (rv_tmp rfl) ?_
       exact fun w h => by
         rw [e1, e2, e3, e4, signF_length, pathF_length]
         exact ⟨(b36, vp), ⟨p36, hi1⟩, rfl, h.below, by first | exact h.made (.keep (.keep .nil)) .nil | exact (h.sub (M' := [_, _]) SubC.h .nil).swap.made (.keep (.keep .nil)) .nil⟩
end Go.Proofs.YtjpfhkjmjnjggaaDoor
namespace Go.Proofs.YtjpfhkjmjnjggaaDoor
open Go Go.PL Go.RowKit
theorem sib_eq (j : Nat) : j ^^^ 1 = if j % 2 = 1 then j - 1 else j + 1 := by
  have h := Nat.div_add_mod j 2
  split
  · rename_i h1
    have e : j = 2 * (j / 2) + 1 := by omega
    generalize j / 2 = c at e
    subst e
    rw [show 2 * c + 1 - 1 = 2 * c from zz13]
    apply Nat.eq_of_testBit_eq
    intro i
    cases i with
    | zero => simp [Nat.testBit_zero, Nat.testBit_xor]
    | succ i => simp [Nat.testBit_succ, Nat.xor_div_two]; congr 1; omega
  · have e : j = 2 * (j / 2) := by omega
    generalize j / 2 = c at e
    subst e
    apply Nat.eq_of_testBit_eq
    intro i
    cases i with
    | zero => simp [Nat.testBit_zero, Nat.testBit_xor]
    | succ i => simp [Nat.testBit_succ, Nat.xor_div_two]; congr 1; omega
end Go.Proofs.YtjpfhkjmjnjggaaDoor
namespace Go.Proofs.YtjpfhkjmjnjggaaDoor
open Go Go.PL Go.RowKit
theorem eqc_up {P : Program} {dp dp' : Nat} {t : TypeId} {agg : Bool} {sz : Nat} {W : List Value → Prop} (h : EqC P dp t agg sz W) (hd : dp ≤ dp') : EqC P dp' t agg sz W := ⟨h.1, h.2.1, h.2.2.1, h.2.2.2.1, fun d hdd => h.2.2.2.2 d zz13⟩
theorem maskF_4 {f : UInt8} (h : f = 4) (n : Nat) : (maskF f n).1 = 0 := by unfold maskF; rw [if_pos h]
theorem maskF_hi {f : UInt8} {n : Nat} (h : ¬ f = 4) (h2 : 64 ≤ n) : maskF f n = (sl64 18446744073709551615 (n - 64), 0) := by unfold maskF; rw [if_neg h, if_pos h2]
theorem maskF_lo {f : UInt8} {n : Nat} (h : ¬ f = 4) (h2 : ¬ 64 ≤ n) : maskF f n = (18446744073709551615, sl64 18446744073709551615 n) := by unfold maskF; rw [if_neg h, if_neg h2]
def adL (a b : UInt64) : List Value := [.int .u64 (a.toNat : Int), .int .u64 (b.toNat : Int)]
def pfL (f : UInt8) (a b : UInt64) (n : Int) : List Value := [.int .u8 (f.toNat : Int), .int .u64 (a.toNat : Int), .int .u64 (b.toNat : Int), .int .i64 n]
theorem u64_inj {a b : UInt64} (h : (Value.int .u64 (a.toNat : Int)) = .int .u64 (b.toNat : Int)) : a = b := by
  have := (Value.int.inj h).2
  exact UInt64.toNat_inj.1 zz13
theorem u32_inj {a b : UInt32} (h : (Value.int .u32 (a.toNat : Int)) = .int .u32 (b.toNat : Int)) : a = b := by
  have := (Value.int.inj h).2
  exact UInt32.toNat_inj.1 zz13
theorem adL_inj {a b c d : UInt64} (h : adL a b = adL c d) : a = c ∧ b = d := by
  unfold adL at h
  obtain ⟨h1, h2⟩ := List.cons.inj h
  obtain ⟨h3, _⟩ := List.cons.inj h2
  exact ⟨u64_inj h1, u64_inj h3⟩
theorem eqAddr : EqC Tryd.prog 2 24 true 2 (fun cs => cs.length = 2 ∧ IntCell .u64 ((cs.drop 0).take 1) ∧ IntCell .u64 ((cs.drop 1).take 1) ∧ True) := by
  refine eqc_struct Tryd.underlying24 Tryd.ti24 zz6 ?_
  refine EqFs.cons (sz := 1) (W := IntCell .u64) zz6 rfl (eqc_int Tryd.underlying22 Tryd.ti22) ?_
  refine EqFs.cons (sz := 1) (W := IntCell .u64) zz6 rfl (eqc_int Tryd.underlying22 Tryd.ti22) ?_
  exact EqFs.nil _
theorem q_neAddr {n : Cx} {R : World → Prop} {L : Slots} {t' : TypeId} {x y : Operand} {a b c d : UInt64} (hx : ev L x = some (.agg (adL a b).toArray)) (hy : ev L y = some (.agg (adL c d).toArray)) : QOp Tryd.prog n R L (.binOp .neq 24 x y t') (.bool (!decide (a = c ∧ b = d))) :=
  q_neA eqAddr zz17 zz6 hx hy ⟨rfl, ⟨_, rfl⟩, ⟨_, rfl⟩, trivial⟩ ⟨rfl, ⟨_, rfl⟩, ⟨_, rfl⟩, trivial⟩ _ (by
    simp only [Bool.not_eq_true', decide_eq_false_iff_not]; exact ⟨fun h e => h (adL_inj e), fun h e => h (by rw [e.1, e.2])⟩)
theorem mask (f : UInt8) (k : Nat) (w : World)  (hk : k ≤ widF f) :
    Calls Tryd.prog 64 [.int .u8 f.toNat, .int .i64 ((k : Nat) : Int)].toArray w (Pur w (.agg [.int .u64 ((maskF f (widF f - k)).1.toNat : Int), .int .u64 ((maskF f (widF f - k)).2.toNat : Int)].toArray)) := by
  have hwl := widF_le f
  refine enter (m := 32) (R := Mem w [] [] []) Tryd.func64 rfl rfl (Nat.le_of_ble_eq_true rfl) (Mem.start w) ?_
  refine wpc_seq <| wpc_region ?_
  refine wpl_t (t_alloc Tryd.ti24 [.int .u64 0, .int .u64 0] rfl) rfl (fun b4 => ?_)
  refine wpl_nil <| ex_then <| wpc_seq <| wpc_region <| wpl_q (q_pure rfl) rfl ?_
  refine wpl_t (t_pur (v := .int .i64 ((widF f : Nat) : Int)) Tryd.hb61 rfl fun w h => width f w) rfl (fun b8 => ?_)
  refine wpl_q (q_pure rfl) rfl ?_
  refine wpl_q (q_subN rfl rfl zz13 zz2) rfl ?_
  refine wpl_q (q_pure rfl) rfl <| wpl_nil <| ex_then <| wpc_seq <| wpc_region ?_
  refine wpl_q (q_build (cs := [.int .u64 ((18446744073709551615 : UInt64).toNat : Int), .int .u64 ((18446744073709551615 : UInt64).toNat : Int)]) rfl rfl) rfl ?_
  refine wpl_t (t_alloc Tryd.ti24 [.int .u64 0, .int .u64 0] rfl) rfl (fun b6 => ?_)
  refine wpl_t0 (t_stA Tryd.ti24 rfl rfl LenC.h zz3 LenC.h) (fun _ => ?_)
  refine wpl_nil <| ex_then <| wpc_seq <| wpc_seq <| wpc_region <| wpl_q (q_pure rfl) rfl <| wpl_q (q_pure rfl) rfl <| wpl_nil <| ex_then ?_
  refine wpc_cond rfl (fun hc13 => ?_) (fun hc13 => ?_)
  ·
   simp only [decide_eq_true_eq] at hc13
   have h64 : 64 ≤ widF f - k := by omega
   refine wpc_region <| wpl_q (q_field Tryd.underlying24 rfl Tryd.ti22 rfl rfl _ rfl) rfl ?_
   refine wpl_q (q_ld Tryd.underlying22 rfl rfl zz34) rfl ?_
   refine wpl_q (q_pure rfl) rfl ?_
   refine wpl_q (q_subN (b := 64) rfl rfl zz13 zz2) rfl ?_
   refine wpl_q (q64_shl rfl rfl zz30 _ rfl) rfl ?_
   refine wpl_q (q_build (cs := [.int .u64 ((sl64 18446744073709551615 (widF f - k - 64)).toNat : Int), .int .u64 ((0 : UInt64).toNat : Int)]) rfl rfl) rfl ?_
   refine wpl_t0 (t_stA Tryd.ti24 rfl rfl LenC.h zz3 LenC.h) (fun _ => ?_)
   refine wpl_nil <| ex_then <| wpc_seq <| wpc_seq <| wpc_region <| wpl_q (q_pure rfl) rfl ?_
   refine wpl_q (q8_eql (b := (4 : UInt8)) rfl rfl) rfl ?_
   refine wpl_nil <| ex_then ?_
   refine wpc_cond rfl (fun hc26 => ?_) (fun hc26 => ?_)
   ·
    have h4 : f = 4 := by simpa using hc26
    refine wpc_region <| wpl_q (q_field Tryd.underlying24 rfl Tryd.ti22 rfl rfl _ rfl) rfl ?_
    refine wpl_q (q_ld Tryd.underlying22 rfl rfl zz34) rfl ?_
    refine wpl_q (q64_and (b := (4294967295 : UInt64)) rfl rfl) rfl ?_
    refine wpl_re 29 rfl (congrArg (fun x : UInt64 => Value.int .u64 (x.toNat : Int)) (show _ = (maskF f (widF f - k)).2 by unfold maskF; rw [if_pos h4]; first | rw [if_pos h64] | rw [if_neg h64])) ?_
    refine wpl_q (q_build (cs := [.int .u64 ((0 : UInt64).toNat : Int), .int .u64 (((maskF f (widF f - k)).2).toNat : Int)]) rfl rfl) rfl ?_
    refine wpl_t0 (t_stA Tryd.ti24 rfl rfl LenC.h zz3 LenC.h) (fun _ => ?_)
    refine wpl_nil <| ex_then <| wpc_seq <| wpc_region <| wpl_q (q_ldN Tryd.underlying24 rfl Tryd.ti24 rfl LenC.h) rfl ?_
    refine wpl_t0 (t_stA Tryd.ti24 rfl rfl LenC.h zz3 LenC.h) (fun _ => ?_)
    refine wpl_nil <| ex_then <| wpc_ret ?_
    refine retv1 (.inl rfl) rfl (rv_agg Tryd.underlying24 rfl Tryd.ti24 rfl (fun w h => h.atB) zz0) ?_
    exact fun w h => ⟨zz49, h.below⟩
   ·
    have h4 : ¬ f = 4 := by simpa using hc26
    refine wpc_skip <| ex_then <| wpc_seq <| wpc_region <| wpl_q (q_ldN Tryd.underlying24 rfl Tryd.ti24 rfl LenC.h) rfl ?_
    refine wpl_t0 (t_stA Tryd.ti24 rfl rfl LenC.h zz3 LenC.h) (fun _ => ?_)
    refine wpl_nil <| ex_then <| wpc_ret ?_
    refine retv1 (.inl rfl) rfl (rv_agg Tryd.underlying24 rfl Tryd.ti24 rfl (fun w h => h.atB) zz0) ?_
    exact fun w h => ⟨zz49, h.below⟩
  ·
   simp only [decide_eq_false_iff_not] at hc13
   have h64 : ¬ 64 ≤ widF f - k := by omega
   refine wpc_region <| wpl_q (q_field Tryd.underlying24 rfl Tryd.ti22 rfl rfl _ rfl) rfl ?_
   refine wpl_q (q_ld Tryd.underlying22 rfl rfl zz34) rfl ?_
   refine wpl_q (q_pure rfl) rfl ?_
   refine wpl_q (q64_shl rfl rfl zz30 _ rfl) rfl ?_
   refine wpl_q (q_field Tryd.underlying24 rfl Tryd.ti22 rfl rfl _ rfl) rfl ?_
   refine wpl_t0 (t_st1 Tryd.ti22 rfl rfl rfl zz7 [.int .u64 ((18446744073709551615 : UInt64).toNat : Int), .int .u64 ((sl64 18446744073709551615 (widF f - k)).toNat : Int)] rfl) (fun _ => ?_)
   refine wpl_nil <| ex_then <| wpc_seq <| wpc_seq <| wpc_region <| wpl_q (q_pure rfl) rfl ?_
   refine wpl_q (q8_eql (b := (4 : UInt8)) rfl rfl) rfl ?_
   refine wpl_nil <| ex_then ?_
   refine wpc_cond rfl (fun hc26 => ?_) (fun hc26 => ?_)
   ·
    have h4 : f = 4 := by simpa using hc26
    refine wpc_region <| wpl_q (q_field Tryd.underlying24 rfl Tryd.ti22 rfl rfl _ rfl) rfl ?_
    refine wpl_q (q_ld Tryd.underlying22 rfl rfl zz34) rfl ?_
    refine wpl_q (q64_and (b := (4294967295 : UInt64)) rfl rfl) rfl ?_
    refine wpl_re 29 rfl (congrArg (fun x : UInt64 => Value.int .u64 (x.toNat : Int)) (show _ = (maskF f (widF f - k)).2 by unfold maskF; rw [if_pos h4]; first | rw [if_pos h64] | rw [if_neg h64])) ?_
    refine wpl_q (q_build (cs := [.int .u64 ((0 : UInt64).toNat : Int), .int .u64 (((maskF f (widF f - k)).2).toNat : Int)]) rfl rfl) rfl ?_
    refine wpl_t0 (t_stA Tryd.ti24 rfl rfl LenC.h zz3 LenC.h) (fun _ => ?_)
    refine wpl_nil <| ex_then <| wpc_seq <| wpc_region <| wpl_q (q_ldN Tryd.underlying24 rfl Tryd.ti24 rfl LenC.h) rfl ?_
    refine wpl_t0 (t_stA Tryd.ti24 rfl rfl LenC.h zz3 LenC.h) (fun _ => ?_)
    refine wpl_nil <| ex_then <| wpc_ret ?_
    refine retv1 (.inl rfl) rfl (rv_agg Tryd.underlying24 rfl Tryd.ti24 rfl (fun w h => h.atB) zz0) ?_
    exact fun w h => ⟨zz49, h.below⟩
   ·
    have h4 : ¬ f = 4 := by simpa using hc26
    refine wpc_skip <| ex_then <| wpc_seq <| wpc_region <| wpl_q (q_ldN Tryd.underlying24 rfl Tryd.ti24 rfl LenC.h) rfl ?_
    refine wpl_t0 (t_stA Tryd.ti24 rfl rfl LenC.h zz3 LenC.h) (fun _ => ?_)
    refine wpl_nil <| ex_then <| wpc_ret ?_
    refine retv1 (.inl rfl) rfl (rv_agg Tryd.underlying24 rfl Tryd.ti24 rfl (fun w h => h.atB) zz0) ?_
    exact fun w h => ⟨zz49, h.below⟩
end Go.Proofs.YtjpfhkjmjnjggaaDoor
namespace Go.Proofs.YtjpfhkjmjnjggaaDoor
open Go Go.PL Go.RowKit
theorem numCheck (f : UInt8) (hi lo : UInt64) (ln : Int) (w : World)   :
    Calls Tryd.prog 42 [.agg (pfL f hi lo ln).toArray].toArray w (Pur w (.int .i64 (pfxF f hi lo ln))) := by
  refine enter (m := 39) (R := Mem w [] [] []) Tryd.func42 rfl rfl (Nat.le_of_ble_eq_true rfl) (Mem.start w) ?_
  refine wpc_seq <| wpc_region ?_
  refine wpl_t (t_box rfl (pfL f hi lo ln) rfl) rfl (fun b1 => ?_)
  refine wpl_q (q_pure rfl) rfl <| wpl_nil <| ex_then <| wpc_seq <| wpc_seq <| wpc_region <| wpl_q (q_field Tryd.underlying26 rfl Tryd.ti5 rfl rfl _ rfl) rfl ?_
  refine wpl_q (q_ld Tryd.underlying5 rfl rfl (by first | exact v8s_get zz7 | rfl)) rfl ?_
  refine wpl_t (t_pur (v := .int .i64 ((widF f : Nat) : Int)) Tryd.hb61 rfl fun w h => width f w) rfl (fun b5 => ?_)
  refine wpl_q (q_pure rfl) rfl <| wpl_nil <| ex_then ?_
  refine wpc_cond rfl (fun hc6 => ?_) (fun hc6 => ?_)
  ·
   have hw0 : widF f = 0 := by simpa using hc6
   have hR : pfxF f hi lo ln = 2 := by rw [pfxF, if_pos hw0]
   refine wpc_seq <| wpc_region <| wpl_q (q_pure rfl) rfl <| wpl_nil <| ex_then <| wpc_ret ?_
   refine ex_then_ret ?_
   refine ret1 (.inl rfl) rfl rfl ?_
   exact fun w h => ⟨by rw [hR], h.below⟩
  ·
   have hw0 : ¬ widF f = 0 := by simpa using hc6
   refine wpc_skip <| ex_then <| wpc_seq <| wpc_seq ?_
   refine wpc_draw 99 zz6 (fun _ h => h.drew) ?_
   refine wpd_p 0 rfl zz6 trivial (q_field Tryd.underlying26 rfl Tryd.ti5 rfl rfl _ rfl) rfl sk0 ?_
   refine wpd_q 1 rfl zz6 trivial (q_ld Tryd.underlying5 rfl rfl (by first | exact v8s_get zz7 | rfl)) rfl (fun _ h => h) ?_
   refine wpd_p 2 rfl zz6 trivial (q_field Tryd.underlying26 rfl Tryd.ti24 rfl rfl _ rfl) rfl sk0 ?_
   refine wpd_q 3 rfl zz6 trivial (q_ldP Tryd.underlying24 rfl Tryd.ti24 rfl (adL hi lo) rfl zz0) rfl (fun _ h => h) ?_
   refine wpd_t 4 rfl zz6 trivial (t_pur Tryd.hb62 rfl fun w h => checkAddr f hi lo w) rfl (fun _ => sk0) (fun b11 => ?_)
   refine wpd_p 5 rfl zz6 trivial (q_pure rfl) rfl sk0 ?_
   refine wpd_p 6 rfl zz6 trivial (q_pure rfl) rfl sk0 ?_
   refine wpd_bool2 13 12 rfl rfl (fun hb13 => ?_) (fun hb13 => ?_)
   ·
    have hca : caF f hi lo = false := by simpa using hb13
    have hR : pfxF f hi lo ln = 8 := by rw [pfxF, if_neg hw0, if_pos (.inl hca)]
    refine wpd_off 7 rfl zz6 ⟨_, _, rfl, rfl, rfl⟩ rfl sk0 ?_
    refine wpd_off 8 rfl zz6 ⟨_, _, rfl, rfl, rfl⟩ rfl sk0 ?_
    refine wpd_off 9 rfl zz6 ⟨_, _, rfl, rfl, rfl⟩ rfl sk0 ?_
    refine wpd_p 10 rfl zz6 trivial (q_pure rfl) rfl sk0 ?_
    refine wpd_p 11 rfl zz6 trivial (q_pure rfl) rfl sk0 ?_
    refine wpd_off 12 rfl zz6 ⟨_, _, rfl, rfl, rfl⟩ rfl sk0 ?_
    refine wpd_off 13 rfl zz6 ⟨_, _, rfl, rfl, rfl⟩ rfl sk0 ?_
    refine wpd_off 14 rfl zz6 ⟨_, _, rfl, rfl, rfl⟩ rfl sk0 ?_
    refine wpd_off 15 rfl zz6 ⟨_, _, rfl, rfl, rfl⟩ rfl sk0 ?_
    refine wpd_off 16 rfl zz6 ⟨_, _, rfl, rfl, rfl⟩ rfl sk0 ?_
    refine wpd_off 17 rfl zz6 ⟨_, _, rfl, rfl, rfl⟩ rfl sk0 ?_
    refine wpd_p 18 rfl zz6 trivial (q_pure rfl) rfl sk0 ?_
    refine wpd_p 19 rfl zz6 trivial (q_pure rfl) rfl sk0 ?_
    refine wpd_off 20 rfl zz6 ⟨_, _, rfl, rfl, rfl⟩ rfl sk0 ?_
    refine wpd_off 21 rfl zz6 ⟨_, _, rfl, rfl, rfl⟩ rfl sk0 ?_
    refine wpd_off 22 rfl zz6 ⟨_, _, rfl, rfl, rfl⟩ rfl sk0 ?_
    refine wpd_off 23 rfl zz6 ⟨_, _, rfl, rfl, rfl⟩ rfl sk0 ?_
    refine wpd_off 24 rfl zz6 ⟨_, _, rfl, rfl, rfl⟩ rfl sk0 ?_
    refine wpd_off 25 rfl zz6 ⟨_, _, rfl, rfl, rfl⟩ rfl sk0 ?_
    refine wpd_off 26 rfl zz6 ⟨_, _, rfl, rfl, rfl⟩ rfl sk0 ?_
    refine wpd_off 27 rfl zz6 ⟨_, _, rfl, rfl, rfl⟩ rfl sk0 ?_
    refine wpd_off 28 rfl zz6 ⟨_, _, rfl, rfl, rfl⟩ rfl sk0 ?_
    refine wpd_off 29 rfl zz6 ⟨_, _, rfl, rfl, rfl⟩ rfl sk0 ?_
    refine wpd_off 30 rfl zz6 ⟨_, _, rfl, rfl, rfl⟩ rfl sk0 ?_
    refine wpd_p 31 rfl zz6 trivial (q_pure rfl) rfl sk0 ?_
    refine wpd_done zz6 ?_
    refine ex_then ?_
    refine wpc_cond_t rfl ?_
    refine wpc_seq <| wpc_region <| wpl_q (q_pure rfl) rfl <| wpl_nil <| ex_then <| wpc_ret ?_
    refine ex_then_ret ?_
    refine ret1 (.inl rfl) rfl rfl ?_
    exact fun w h => ⟨by rw [hR], h.below⟩
   ·
    have hca : caF f hi lo = true := by simpa using hb13
    refine wpd_p 7 rfl zz6 ⟨_, rfl, rfl⟩ (q_field Tryd.underlying26 rfl Tryd.ti3 rfl rfl _ rfl) rfl sk0 ?_
    refine wpd_q 8 rfl zz6 ⟨_, rfl, rfl⟩ (q_ld Tryd.underlying3 rfl rfl zz33) rfl (fun _ h => h) ?_
    refine wpd_p 9 rfl zz6 ⟨_, rfl, rfl⟩ (q_pure rfl) rfl sk0 ?_
    refine wpd_p 10 rfl zz6 trivial (q_pure rfl) rfl sk0 ?_
    refine wpd_p 11 rfl zz6 trivial (q_pure rfl) rfl sk0 ?_
    refine wpd_bool2 18 16 rfl rfl (fun hb18 => ?_) (fun hb18 => ?_)
    ·
     simp only [decide_eq_true_eq] at hb18
     have hR : pfxF f hi lo ln = 8 := by rw [pfxF, if_neg hw0, if_pos (.inr (.inl hb18))]
     refine wpd_off 12 rfl zz6 ⟨_, _, rfl, rfl, rfl⟩ rfl sk0 ?_
     refine wpd_off 13 rfl zz6 ⟨_, _, rfl, rfl, rfl⟩ rfl sk0 ?_
     refine wpd_off 14 rfl zz6 ⟨_, _, rfl, rfl, rfl⟩ rfl sk0 ?_
     refine wpd_off 15 rfl zz6 ⟨_, _, rfl, rfl, rfl⟩ rfl sk0 ?_
     refine wpd_off 16 rfl zz6 ⟨_, _, rfl, rfl, rfl⟩ rfl sk0 ?_
     refine wpd_off 17 rfl zz6 ⟨_, _, rfl, rfl, rfl⟩ rfl sk0 ?_
     refine wpd_p 18 rfl zz6 trivial (q_pure rfl) rfl sk0 ?_
     refine wpd_p 19 rfl zz6 trivial (q_pure rfl) rfl sk0 ?_
     refine wpd_off 20 rfl zz6 ⟨_, _, rfl, rfl, rfl⟩ rfl sk0 ?_
     refine wpd_off 21 rfl zz6 ⟨_, _, rfl, rfl, rfl⟩ rfl sk0 ?_
     refine wpd_off 22 rfl zz6 ⟨_, _, rfl, rfl, rfl⟩ rfl sk0 ?_
     refine wpd_off 23 rfl zz6 ⟨_, _, rfl, rfl, rfl⟩ rfl sk0 ?_
     refine wpd_off 24 rfl zz6 ⟨_, _, rfl, rfl, rfl⟩ rfl sk0 ?_
     refine wpd_off 25 rfl zz6 ⟨_, _, rfl, rfl, rfl⟩ rfl sk0 ?_
     refine wpd_off 26 rfl zz6 ⟨_, _, rfl, rfl, rfl⟩ rfl sk0 ?_
     refine wpd_off 27 rfl zz6 ⟨_, _, rfl, rfl, rfl⟩ rfl sk0 ?_
     refine wpd_off 28 rfl zz6 ⟨_, _, rfl, rfl, rfl⟩ rfl sk0 ?_
     refine wpd_off 29 rfl zz6 ⟨_, _, rfl, rfl, rfl⟩ rfl sk0 ?_
     refine wpd_off 30 rfl zz6 ⟨_, _, rfl, rfl, rfl⟩ rfl sk0 ?_
     refine wpd_p 31 rfl zz6 trivial (q_pure rfl) rfl sk0 ?_
     refine wpd_done zz6 ?_
     refine ex_then ?_
     refine wpc_cond_t rfl ?_
     refine wpc_seq <| wpc_region <| wpl_q (q_pure rfl) rfl <| wpl_nil <| ex_then <| wpc_ret ?_
     refine ex_then_ret ?_
     refine ret1 (.inl rfl) rfl rfl ?_
     exact fun w h => ⟨by rw [hR], h.below⟩
    ·
     simp only [decide_eq_false_iff_not] at hb18
     refine wpd_p 12 rfl zz6 ⟨_, rfl, rfl⟩ (q_field Tryd.underlying26 rfl Tryd.ti3 rfl rfl _ rfl) rfl sk0 ?_
     refine wpd_q 13 rfl zz6 ⟨_, rfl, rfl⟩ (q_ld Tryd.underlying3 rfl rfl zz33) rfl (fun _ h => h) ?_
     refine wpd_p 14 rfl zz6 ⟨_, rfl, rfl⟩ (q_field Tryd.underlying26 rfl Tryd.ti5 rfl rfl _ rfl) rfl sk0 ?_
     refine wpd_q 15 rfl zz6 ⟨_, rfl, rfl⟩ (q_ld Tryd.underlying5 rfl rfl (by first | exact v8s_get zz7 | rfl)) rfl (fun _ h => h) ?_
     refine wpd_t 16 rfl zz6 ⟨_, rfl, rfl⟩ (t_pur (v := .int .i64 ((widF f : Nat) : Int)) Tryd.hb61 rfl fun w h => width f w) rfl (fun _ => sk0) (fun b23 => ?_)
     refine wpd_p 17 rfl zz6 ⟨_, rfl, rfl⟩ (q_pure rfl) rfl sk0 ?_
     refine wpd_p 18 rfl zz6 trivial (q_pure rfl) rfl sk0 ?_
     refine wpd_p 19 rfl zz6 trivial (q_pure rfl) rfl sk0 ?_
     refine wpd_bool2 26 24 rfl rfl (fun hb26 => ?_) (fun hb26 => ?_)
     ·
      simp only [decide_eq_true_eq] at hb26
      have hR : pfxF f hi lo ln = 8 := by rw [pfxF, if_neg hw0, if_pos (.inr (.inr zz13))]
      refine wpd_off 20 rfl zz6 ⟨_, _, rfl, rfl, rfl⟩ rfl sk0 ?_
      refine wpd_off 21 rfl zz6 ⟨_, _, rfl, rfl, rfl⟩ rfl sk0 ?_
      refine wpd_off 22 rfl zz6 ⟨_, _, rfl, rfl, rfl⟩ rfl sk0 ?_
      refine wpd_off 23 rfl zz6 ⟨_, _, rfl, rfl, rfl⟩ rfl sk0 ?_
      refine wpd_off 24 rfl zz6 ⟨_, _, rfl, rfl, rfl⟩ rfl sk0 ?_
      refine wpd_off 25 rfl zz6 ⟨_, _, rfl, rfl, rfl⟩ rfl sk0 ?_
      refine wpd_off 26 rfl zz6 ⟨_, _, rfl, rfl, rfl⟩ rfl sk0 ?_
      refine wpd_off 27 rfl zz6 ⟨_, _, rfl, rfl, rfl⟩ rfl sk0 ?_
      refine wpd_off 28 rfl zz6 ⟨_, _, rfl, rfl, rfl⟩ rfl sk0 ?_
      refine wpd_off 29 rfl zz6 ⟨_, _, rfl, rfl, rfl⟩ rfl sk0 ?_
      refine wpd_off 30 rfl zz6 ⟨_, _, rfl, rfl, rfl⟩ rfl sk0 ?_
      refine wpd_p 31 rfl zz6 trivial (q_pure rfl) rfl sk0 ?_
      refine wpd_done zz6 ?_
      refine ex_then ?_
      refine wpc_cond_t rfl ?_
      refine wpc_seq <| wpc_region <| wpl_q (q_pure rfl) rfl <| wpl_nil <| ex_then <| wpc_ret ?_
      refine ex_then_ret ?_
      refine ret1 (.inl rfl) rfl rfl ?_
      exact fun w h => ⟨by rw [hR], h.below⟩
     ·
      simp only [decide_eq_false_iff_not] at hb26
      obtain ⟨k, rfl⟩ : ∃ k : Nat, ln = (k : Int) := ⟨ln.toNat, zz13⟩
      have hB : ¬ (caF f hi lo = false ∨ (k : Int) < 0 ∨ ((widF f : Nat) : Int) < (k : Int)) := by rintro (h | h | h); rw [hca] at h; cases h; exact hb18 h; omega
      have hmk := mask_ok (n := widF f - k) hca zz13 hw0
      refine wpd_p 20 rfl zz6 ⟨_, rfl, rfl⟩ (q_field Tryd.underlying26 rfl Tryd.ti24 rfl rfl _ rfl) rfl sk0 ?_
      refine wpd_q 21 rfl zz6 ⟨_, rfl, rfl⟩ (q_ldP Tryd.underlying24 rfl Tryd.ti24 rfl (adL hi lo) rfl zz0) rfl (fun _ h => h) ?_
      refine wpd_p 22 rfl zz6 ⟨_, rfl, rfl⟩ (q_field Tryd.underlying26 rfl Tryd.ti5 rfl rfl _ rfl) rfl sk0 ?_
      refine wpd_q 23 rfl zz6 ⟨_, rfl, rfl⟩ (q_ld Tryd.underlying5 rfl rfl (by first | exact v8s_get zz7 | rfl)) rfl (fun _ h => h) ?_
      refine wpd_p 24 rfl zz6 ⟨_, rfl, rfl⟩ (q_field Tryd.underlying26 rfl Tryd.ti3 rfl rfl _ rfl) rfl sk0 ?_
      refine wpd_q 25 rfl zz6 ⟨_, rfl, rfl⟩ (q_ld Tryd.underlying3 rfl rfl zz33) rfl (fun _ h => h) ?_
      refine wpd_p 28 rfl zz6 ⟨_, rfl, rfl⟩ (q_field Tryd.underlying26 rfl Tryd.ti24 rfl rfl _ rfl) rfl sk0 ?_
      refine wpd_q 29 rfl zz6 ⟨_, rfl, rfl⟩ (q_ldP Tryd.underlying24 rfl Tryd.ti24 rfl (adL hi lo) rfl zz0) rfl (fun _ h => h) ?_
      refine wpd_t 26 rfl zz6 ⟨_, rfl, rfl⟩ (t_pur Tryd.hb64 rfl fun w h => mask f k w zz13) rfl (fun _ => sk0) (fun b33 => ?_)
      refine wpd_t 27 rfl zz6 ⟨_, rfl, rfl⟩ (t_pur Tryd.hb63 rfl fun w h => and_ hi lo _ _ w) rfl (fun _ => sk0) (fun b34 => ?_)
      refine wpd_p 30 rfl zz6 ⟨_, rfl, rfl⟩ (q_neAddr (a := hi &&& (maskF f (widF f - k)).1) (b := lo &&& (maskF f (widF f - k)).2) (c := hi) (d := lo) rfl rfl) rfl sk0 ?_
      refine wpd_p 31 rfl zz6 trivial (q_pure rfl) rfl sk0 ?_
      refine wpd_done zz6 ?_
      refine ex_then ?_
      refine wpc_cond rfl (fun hc38 => ?_) (fun hc38 => ?_)
      ·
       first | (have hR : pfxF f hi lo ln = 8 := hR) | (have hR : pfxF f hi lo (k : Int) = 8 := by rw [pfxF, if_neg hw0, if_neg hB, if_neg (fun h => by rw [Int.toNat_natCast] at h; simp [hmk.2 h] at hc38)])
       refine wpc_seq <| wpc_region <| wpl_q (q_pure rfl) rfl <| wpl_nil <| ex_then <| wpc_ret ?_
       refine ex_then_ret ?_
       refine ret1 (.inl rfl) rfl rfl ?_
       exact fun w h => ⟨by rw [hR], h.below⟩
      ·
       have hR : pfxF f hi lo (k : Int) = 0 := by rw [pfxF, if_neg hw0, if_neg hB, if_pos (by rw [Int.toNat_natCast]; exact hmk.1 (by simpa using hc38))]
       refine wpc_skip <| ex_then <| wpc_seq <| wpc_region <| wpl_q (q_pure rfl) rfl <| wpl_nil <| ex_then <| wpc_ret ?_
       refine ret1 (.inl rfl) rfl rfl ?_
       exact fun w h => ⟨by rw [hR], h.below⟩
section
variable {P : Program} {n : Cx} {R : World → Prop} {L : Slots}
end
end Go.Proofs.YtjpfhkjmjnjggaaDoor
namespace Go.Proofs.YtjpfhkjmjnjggaaDoor
open Go Go.PL Go.RowKit
abbrev S16 := { l : List UInt8 // l.length = 16 }
structure Hop where
  sy : UInt32
  cnt : UInt8
  fl : UInt8
  to : UInt32
  root : S16
  ht : Int
  ix : Int
  cv : Value
  chs : List (List UInt8)
  pv : Value
  ps : List (List UInt8)
def Hop.z : Hop := ⟨0, 0, 0, 0, ⟨List.replicate 16 0, rfl⟩, 0, 0, .slice none 0 0, [], .slice none 0 0, []⟩
def Hop.key (h : Hop) : List Value := v8s h.root.1 ++ [.int .i64 h.ht]
def Hop.sig (h : Hop) : List Value := [.int .i64 h.ix, h.cv, h.pv]
def Hop.c (h : Hop) : List Value := .int .u32 (h.sy.toNat : Int) :: .int .u8 (h.cnt.toNat : Int) :: .int .u8 (h.fl.toNat : Int) :: .int .u32 (h.to.toNat : Int) :: (v8s h.root.1 ++ [.int .i64 h.ht, .int .i64 h.ix, h.cv, h.pv])
theorem S16.len (r : S16) : (v8s r.1).length = 16 := by rw [v8s_length, r.2]
theorem Hop.c_length (h : Hop) : h.c.length = 24 := by simp [Hop.c, v8s_length, h.root.2]
instance lenC_hop {h : Hop} : LenC h.c 24 := ⟨h.c_length⟩
theorem Hop.c_sy (h : Hop) : h.c[0]? = some (.int .u32 (h.sy.toNat : Int)) := rfl
theorem Hop.c_cnt (h : Hop) : h.c[1]? = some (.int .u8 (h.cnt.toNat : Int)) := rfl
theorem Hop.c_fl (h : Hop) : h.c[2]? = some (.int .u8 (h.fl.toNat : Int)) := rfl
theorem Hop.c_to (h : Hop) : h.c[3]? = some (.int .u32 (h.to.toNat : Int)) := rfl
theorem Hop.c_at (h : Hop) (j : Nat) : h.c[20 + j]? = ([.int .i64 h.ht, .int .i64 h.ix, h.cv, h.pv] : List Value)[j]? := by
  have e : 20 + j = (v8s h.root.1).length + j + 4 := by rw [S16.len]; omega
  rw [e]
  show (v8s h.root.1 ++ [.int .i64 h.ht, .int .i64 h.ix, h.cv, h.pv])[(v8s h.root.1).length + j]? = _
  rw [List.getElem?_append_right zz13]
  congr 1
  omega
theorem Hop.c_ht (h : Hop) : h.c[20]? = some (.int .i64 h.ht) := h.c_at 0
theorem Hop.c_ix (h : Hop) : h.c[21]? = some (.int .i64 h.ix) := h.c_at 1
theorem Hop.c_cv (h : Hop) : h.c[22]? = some h.cv := h.c_at 2
theorem Hop.c_pv (h : Hop) : h.c[23]? = some h.pv := h.c_at 3
theorem Hop.c_drop4 (h : Hop) : h.c.drop 4 = v8s h.root.1 ++ [.int .i64 h.ht, .int .i64 h.ix, h.cv, h.pv] := rfl
theorem Hop.c_root (h : Hop) : (h.c.drop 4).take 16 = v8s h.root.1 := by rw [h.c_drop4, List.take_left' (S16.len _)]
theorem Hop.c_key (h : Hop) : (h.c.drop 4).take 17 = h.key := by
  rw [h.c_drop4, List.take_append, S16.len, List.take_of_length_le (by rw [S16.len]; decide)]; rfl
theorem Hop.c_sig (h : Hop) : (h.c.drop 21).take 3 = h.sig := by
  have e : h.c.drop 21 = (h.c.drop 4).drop 17 := by rw [List.drop_drop]
  rw [e, h.c_drop4, show 17 = (v8s h.root.1).length + 1 by rw [S16.len], ← List.drop_drop, List.drop_left]; rfl
theorem Hop.key_length (h : Hop) : h.key.length = 17 := by rw [Hop.key, List.length_append, S16.len]; rfl
def Hop.sv (h : Hop) : Prop := SV h.cv h.chs.length ∧ SV h.pv h.ps.length
theorem Hop.sv.one {h : Hop} (hs : h.sv) : OneC h.c := ⟨by
  intro u hu
  simp only [Hop.c, List.mem_cons, List.mem_append, List.not_mem_nil, or_false] at hu
  rcases hu with rfl | rfl | rfl | rfl | hu | rfl | rfl | rfl | rfl
  · rfl
  · rfl
  · rfl
  · rfl
  · exact v8s_one _ u hu
  · rfl
  · rfl
  · exact hs.1.one
  · exact hs.2.one⟩
def Hop.seen (r : Rd) (h : Hop) : Prop := Seen r h.cv h.chs.length 16 (v8s h.chs.flatten) ∧ (∀ x ∈ h.chs, x.length = 16) ∧ Seen r h.pv h.ps.length 16 (v8s h.ps.flatten) ∧ ∀ x ∈ h.ps, x.length = 16
theorem Hop.seen.sv {r : Rd} {h : Hop} (hs : h.seen r) : h.sv := ⟨hs.1.sv, hs.2.2.1.sv⟩
theorem Hop.seen.mono {r r' : Rd} (hr : ∀ a v, r a = some v → r' a = some v) {h : Hop} (hs : h.seen r) : h.seen r' := ⟨hs.1.mono hr, hs.2.1, hs.2.2.1.mono hr, hs.2.2.2⟩
abbrev hcs (l : List Hop) : List Value := (l.map Hop.c).flatten
theorem getD_memO {l : List Hop} {i : Nat} (h : i < l.length) : l.getD i Hop.z ∈ l := by
  rw [List.getD_eq_getElem?_getD, List.getElem?_eq_getElem h]; exact List.getElem_mem h
structure Pth where
  pf : UInt8
  pa : UInt64
  pb : UInt64
  pl : Int
  hv : Value
  hs : List Hop
def Pth.c (p : Pth) : List Value := [.int .u8 (p.pf.toNat : Int), .int .u64 (p.pa.toNat : Int), .int .u64 (p.pb.toNat : Int), .int .i64 p.pl, p.hv]
def Pth.z : Pth := ⟨0, 0, 0, 0, .slice none 0 0, []⟩
def Pth.sv (p : Pth) : Prop := SV p.hv p.hs.length
theorem Pth.sv.one {p : Pth} (h : p.sv) : OneC p.c := OneC.cons rfl (OneC.cons rfl (OneC.cons rfl (OneC.cons rfl (OneC.cons (SV.one h) oneC_nil))))
instance oneC_pthz : OneC Pth.z.c := Pth.sv.one SV.nil
def Pth.seen (r : Rd) (p : Pth) : Prop := Seen r p.hv p.hs.length 24 (hcs p.hs) ∧ ∀ h ∈ p.hs, h.seen r
theorem Pth.seen.mono {r r' : Rd} (hr : ∀ a v, r a = some v → r' a = some v) {p : Pth} (hs : p.seen r) : p.seen r' := ⟨hs.1.mono hr, fun h hh => (hs.2 h hh).mono hr⟩
theorem Pth.seen.old {w0 w : World} {M : List Ent} {S : List Fact} {p : Pth} (hs : p.seen w0.cell?) (h : Mem w0 [] M S w) : p.seen w.cell? := hs.mono fun _ _ hc => h.cell_old hc
theorem Hop.seen.old {w0 w : World} {M : List Ent} {S : List Fact} {p : Hop} (hs : p.seen w0.cell?) (h : Mem w0 [] M S w) : p.seen w.cell? := hs.mono fun _ _ hc => h.cell_old hc
def badH (hs : List Hop) (i : Nat) : Prop := 1 < (hs.getD i Hop.z).fl.toNat ∨ checkF (hs.getD i Hop.z).ht (hs.getD i Hop.z).ix (hs.getD i Hop.z).chs.length (hs.getD i Hop.z).ps.length ≠ 0 ∨ (0 < i ∧ (hs.getD i Hop.z).sy ≠ (hs.getD (i - 1) Hop.z).to)
instance {hs : List Hop} {i : Nat} : Decidable (badH hs i) := by unfold badH; exact inferInstance
def chkP (p : Pth) : Int := if 30 < p.hs.length then 4 else if pfxF p.pf p.pa p.pb p.pl ≠ 0 then pfxF p.pf p.pa p.pb p.pl else if p.hs.length = 0 ∨ ¬ (∀ i, i < p.hs.length → ¬ badH p.hs i) then 8 else 0
end Go.Proofs.YtjpfhkjmjnjggaaDoor
namespace Go.Proofs.YtjpfhkjmjnjggaaDoor
open Go Go.PL Go.RowKit
theorem chk_many {p : Pth} (h : 30 < p.hs.length) : chkP p = 4 := if_pos h
theorem chk_pfx {p : Pth} (h : ¬ 30 < p.hs.length) (h2 : pfxF p.pf p.pa p.pb p.pl ≠ 0) : chkP p = pfxF p.pf p.pa p.pb p.pl := (if_neg h).trans (if_pos h2)
theorem chk_none {p : Pth} (h : ¬ 30 < p.hs.length) (h2 : ¬ pfxF p.pf p.pa p.pb p.pl ≠ 0) (h3 : p.hs.length = 0) : chkP p = 8 := (if_neg h).trans ((if_neg h2).trans (if_pos (.inl h3)))
theorem chk_bad {p : Pth} (h : ¬ 30 < p.hs.length) (h2 : ¬ pfxF p.pf p.pa p.pb p.pl ≠ 0) {i : Nat} (hi : i < p.hs.length) (h3 : badH p.hs i) : chkP p = 8 := (if_neg h).trans ((if_neg h2).trans (if_pos (.inr fun hh => hh i hi h3)))
theorem chk_ok {p : Pth} (h : ¬ 30 < p.hs.length) (h2 : ¬ pfxF p.pf p.pa p.pb p.pl ≠ 0) (h0 : ¬ p.hs.length = 0) (h3 : ∀ i, i < p.hs.length → ¬ badH p.hs i) : chkP p = 0 := (if_neg h).trans ((if_neg h2).trans (if_neg (by rintro (h | h); exact h0 h; exact h h3)))
theorem chk_inv {p : Pth} (h : chkP p = 0) : p.hs.length ≤ 30 ∧ pfxF p.pf p.pa p.pb p.pl = 0 ∧ p.hs.length ≠ 0 ∧ ∀ i, i < p.hs.length → ¬ badH p.hs i := by
  unfold chkP at h
  split at h
  · cases h
  · split at h
    · exact absurd h ‹_›
    · split at h
      · cases h
      · rename_i h1 h2 h3
        rw [not_or, Decidable.not_not] at h3
        exact ⟨zz13, Decidable.not_not.1 h2, h3.1, h3.2⟩
theorem hopCheck (p : Pth) (w : World) (hp : p.seen w.cell?)  :
    Calls Tryd.prog 17 [.agg p.c.toArray].toArray w (Pur w (.int .i64 (chkP p))) := by
  obtain ⟨pf, pa, pb, pl, hv, hs⟩ := p
  have hh : Seen w.cell? hv hs.length 24 (hcs hs) := hp.1
  have hq : ∀ h ∈ hs, h.seen w.cell? := hp.2
  have svh := hh.sv
  have lh := svh.le
  simp only [maxLen] at lh
  refine enter (m := 57) (R := Mem w [] [] []) Tryd.func17 rfl rfl (Nat.le_of_ble_eq_true rfl) (Mem.start w) ?_
  refine wpc_seq <| wpc_region ?_
  refine wpl_t (t_box rfl [.int .u8 (pf.toNat : Int), .int .u64 (pa.toNat : Int), .int .u64 (pb.toNat : Int), .int .i64 pl, hv] rfl) rfl (fun b1 => ?_)
  refine wpl_q (q_pure rfl) rfl <| wpl_nil <| ex_then <| wpc_seq <| wpc_seq <| wpc_region <| wpl_q (q_field Tryd.underlying29 rfl Tryd.ti27 rfl rfl _ rfl) rfl <| wpl_q (q_ld Tryd.underlying27 rfl rfl rfl) rfl ?_
  refine wpl_q (q_lenW Tryd.underlying27 rfl zz4) rfl ?_
  refine wpl_q (q_pure rfl) rfl <| wpl_nil <| ex_then ?_
  refine wpc_cond rfl (fun hc9 => ?_) (fun hc9 => ?_)
  ·
   simp only [decide_eq_true_eq] at hc9
   have hR : chkP ⟨pf, pa, pb, pl, hv, hs⟩ = 4 := chk_many (p := ⟨pf, pa, pb, pl, hv, hs⟩) (by show 30 < hs.length; omega)
   refine wpc_seq <| wpc_region <| wpl_q (q_pure rfl) rfl <| wpl_nil <| ex_then <| wpc_ret ?_
   refine ex_then_ret ?_
   refine ret1 (.inl rfl) rfl rfl ?_
   exact fun w h => ⟨by rw [hR], h.below⟩
  ·
   simp only [decide_eq_false_iff_not] at hc9
   have hn30 : ¬ 30 < hs.length := by omega
   refine wpc_skip <| ex_then <| wpc_seq <| wpc_region <| wpl_q (q_field Tryd.underlying29 rfl Tryd.ti26 rfl rfl _ rfl) rfl ?_
   refine wpl_q (q_ldP Tryd.underlying26 rfl Tryd.ti26 rfl (pfL pf pa pb pl) rfl zz0) rfl ?_
   refine wpl_t (t_pur Tryd.hb42 rfl fun w h => numCheck pf pa pb pl w) rfl (fun b12 => ?_)
   refine wpl_q (q_pure rfl) rfl <| wpl_nil <| ex_then <| wpc_seq <| wpc_seq <| wpc_region <| wpl_q (q_pure rfl) rfl <| wpl_q (q_pure rfl) rfl <| wpl_nil <| ex_then ?_
   refine wpc_cond rfl (fun hc14 => ?_) (fun hc14 => ?_)
   ·
    have hpx : pfxF pf pa pb pl ≠ 0 := by simpa using hc14
    have hR : chkP ⟨pf, pa, pb, pl, hv, hs⟩ = pfxF pf pa pb pl := chk_pfx (p := ⟨pf, pa, pb, pl, hv, hs⟩) hn30 hpx
    refine wpc_seq <| wpc_region <| wpl_q (q_pure rfl) rfl <| wpl_q (q_pure rfl) rfl <| wpl_nil <| ex_then <| wpc_ret ?_
    refine ex_then_ret ?_
    refine ret1 (.inl rfl) rfl rfl ?_
    exact fun w h => ⟨by rw [hR], h.below⟩
   ·
    have hpx : ¬ pfxF pf pa pb pl ≠ 0 := by simpa using hc14
    refine wpc_skip <| ex_then <| wpc_seq <| wpc_seq <| wpc_region <| wpl_q (q_field Tryd.underlying29 rfl Tryd.ti27 rfl rfl _ rfl) rfl <| wpl_q (q_ld Tryd.underlying27 rfl rfl rfl) rfl ?_
    refine wpl_q (q_lenW Tryd.underlying27 rfl zz4) rfl ?_
    refine wpl_q (q_pure rfl) rfl <| wpl_nil <| ex_then ?_
    refine wpc_cond rfl (fun hc19 => ?_) (fun hc19 => ?_)
    ·
     have h0 : hs.length = 0 := by simpa using hc19
     have hR : chkP ⟨pf, pa, pb, pl, hv, hs⟩ = 8 := chk_none (p := ⟨pf, pa, pb, pl, hv, hs⟩) hn30 hpx h0
     refine wpc_seq <| wpc_region <| wpl_q (q_pure rfl) rfl <| wpl_nil <| ex_then <| wpc_ret ?_
     refine ex_then_ret ?_
     refine ret1 (.inl rfl) rfl rfl ?_
     exact fun w h => ⟨by rw [hR], h.below⟩
    ·
     have h0 : ¬ hs.length = 0 := by simpa using hc19
     refine wpc_skip <| ex_then <| wpc_seq <| wpc_seq <| wpc_region <| wpl_q (q_field Tryd.underlying29 rfl Tryd.ti27 rfl rfl _ rfl) rfl <| wpl_q (q_ld Tryd.underlying27 rfl rfl rfl) rfl ?_
     refine wpl_q (q_lenW Tryd.underlying27 rfl zz4) rfl ?_
     refine wpl_q (q_pure rfl) rfl <| wpl_nil <| ex_then <| wpc_block ?_
     refine wpc_loopc (ι := { x : Nat // (x ≤ hs.length) ∧ (∀ j, j < x → ¬ badH hs j) }) [(1, _), (21, _), (22, _)] (fun x Lc => (23, .int .i64 ((x.1 : Nat) : Int)) :: Lc) (fun x => Mem w [] [.blk b1 29 [.int .u8 (pf.toNat : Int), .int .u64 (pa.toNat : Int), .int .u64 (pb.toNat : Int), .int .i64 pl, hv]] []) (fun x => hs.length - x.1) ⟨0, ⟨Nat.zero_le _, fun j hj => zz13⟩⟩ zz12 ?_ ?_
     ·
      exact fun w h => h.sub SubC.h .nil
     ·
      rintro ⟨i, ⟨hi0, hi1⟩⟩; try dsimp only
      have hi0 : i ≤ hs.length := hi0; have hi1 : ∀ j, j < i → ¬ badH hs j := hi1
      refine wpc_seq <| wpc_region <| wpl_q (q_pure rfl) rfl <| wpl_nil <| ex_then <| wpc_seq ?_
      refine wpc_cond rfl (fun hc24 => ?_) (fun hc24 => ?_)
      ·
       simp only [decide_eq_true_eq] at hc24
       have hil : i < hs.length := by omega
       have hsi := hq _ (getD_memO hil)
       haveI := hsi.sv.one
       refine wpc_skip <| ex_then <| wpc_seq <| wpc_block <| wpc_seq <| wpc_region <| wpl_q (q_pure rfl) rfl ?_
       refine wpl_q (q_idxW Tryd.underlying27 Tryd.ti68 rfl rfl zz4 zz2) rfl ?_
       refine wpl_q (q_ldWN Tryd.underlying68 rfl Tryd.ti68 rfl (fun w h => h.seen_old hh) (hs.getD i Hop.z).c (cat_part Hop.c_length Hop.z hil) (Hop.c_length _)) rfl ?_
       refine wpl_t (t_alloc Tryd.ti68 Hop.z.c rfl) rfl (fun b5 => ?_)
       refine wpl_q (q_pure rfl) rfl ?_
       refine wpl_t0 (t_stA Tryd.ti68 rfl rfl LenC.h OneC.h LenC.h) (fun _ => ?_)
       refine wpl_nil <| ex_then <| wpc_seq ?_
       refine wpc_draw 99 zz6 (fun _ h => h.drew) ?_
       refine wpd_p 0 rfl zz6 trivial (q_field Tryd.underlying68 rfl Tryd.ti5 rfl rfl _ rfl) rfl sk0 ?_
       refine wpd_q 1 rfl zz6 trivial (q_ld Tryd.underlying5 rfl rfl (Hop.c_fl _)) rfl (fun _ h => h) ?_
       refine wpd_p 2 rfl zz6 trivial (q_pure rfl) rfl sk0 ?_
       refine wpd_p 3 rfl zz6 trivial (q_pure rfl) rfl sk0 ?_
       refine wpd_bool2 31 30 rfl rfl (fun hb31 => ?_) (fun hb31 => ?_)
       ·
        have hbad : badH hs i := .inl (by simp only [decide_eq_true_eq] at hb31; omega)
        have hR : chkP ⟨pf, pa, pb, pl, hv, hs⟩ = 8 := chk_bad (p := ⟨pf, pa, pb, pl, hv, hs⟩) hn30 hpx hil hbad
        refine wpd_off 4 rfl zz6 ⟨_, _, rfl, rfl, rfl⟩ rfl sk0 ?_
        refine wpd_off 5 rfl zz6 ⟨_, _, rfl, rfl, rfl⟩ rfl sk0 ?_
        refine wpd_off 6 rfl zz6 ⟨_, _, rfl, rfl, rfl⟩ rfl sk0 ?_
        refine wpd_off 7 rfl zz6 ⟨_, _, rfl, rfl, rfl⟩ rfl sk0 ?_
        refine wpd_off 8 rfl zz6 ⟨_, _, rfl, rfl, rfl⟩ rfl sk0 ?_
        refine wpd_off 9 rfl zz6 ⟨_, _, rfl, rfl, rfl⟩ rfl sk0 ?_
        refine wpd_off 10 rfl zz6 ⟨_, _, rfl, rfl, rfl⟩ rfl sk0 ?_
        refine wpd_p 11 rfl zz6 trivial (q_pure rfl) rfl sk0 ?_
        refine wpd_p 12 rfl zz6 trivial (q_pure rfl) rfl sk0 ?_
        refine wpd_off 13 rfl zz6 ⟨_, _, rfl, rfl, rfl⟩ rfl sk0 ?_
        refine wpd_off 14 rfl zz6 ⟨_, _, rfl, rfl, rfl⟩ rfl sk0 ?_
        refine wpd_off 15 rfl zz6 ⟨_, _, rfl, rfl, rfl⟩ rfl sk0 ?_
        refine wpd_off 16 rfl zz6 ⟨_, _, rfl, rfl, rfl⟩ rfl sk0 ?_
        refine wpd_off 17 rfl zz6 ⟨_, _, rfl, rfl, rfl⟩ rfl sk0 ?_
        refine wpd_off 18 rfl zz6 ⟨_, _, rfl, rfl, rfl⟩ rfl sk0 ?_
        refine wpd_off 19 rfl zz6 ⟨_, _, rfl, rfl, rfl⟩ rfl sk0 ?_
        refine wpd_off 20 rfl zz6 ⟨_, _, rfl, rfl, rfl⟩ rfl sk0 ?_
        refine wpd_off 21 rfl zz6 ⟨_, _, rfl, rfl, rfl⟩ rfl sk0 ?_
        refine wpd_off 22 rfl zz6 ⟨_, _, rfl, rfl, rfl⟩ rfl sk0 ?_
        refine wpd_off 23 rfl zz6 ⟨_, _, rfl, rfl, rfl⟩ rfl sk0 ?_
        refine wpd_off 24 rfl zz6 ⟨_, _, rfl, rfl, rfl⟩ rfl sk0 ?_
        refine wpd_off 25 rfl zz6 ⟨_, _, rfl, rfl, rfl⟩ rfl sk0 ?_
        refine wpd_off 26 rfl zz6 ⟨_, _, rfl, rfl, rfl⟩ rfl sk0 ?_
        refine wpd_p 27 rfl zz6 trivial (q_pure rfl) rfl sk0 ?_
        refine wpd_done zz6 ?_
        refine ex_then ?_
        refine wpc_cond_t rfl ?_
        refine wpc_seq <| wpc_region <| wpl_q (q_pure rfl) rfl <| wpl_nil <| ex_then <| wpc_ret ?_
        refine ex_block_ret ?_
        refine ex_then_ret ?_
        refine ex_then_ret ?_
        refine ex_block_ret ?_
        refine ex_then_ret ?_
        refine ret1 (.inl rfl) rfl rfl ?_
        exact fun w h => ⟨by rw [hR], h.below⟩
       ·
        have n1 : ¬ 1 < (hs.getD i Hop.z).fl.toNat := by simp only [decide_eq_false_iff_not] at hb31; omega
        refine wpd_p 4 rfl zz6 ⟨_, rfl, rfl⟩ (q_field Tryd.underlying68 rfl Tryd.ti63 rfl rfl _ rfl) rfl sk0 ?_
        refine wpd_p 5 rfl zz6 ⟨_, rfl, rfl⟩ (q_field Tryd.underlying63 rfl Tryd.ti3 rfl rfl _ rfl) rfl sk0 ?_
        refine wpd_q 6 rfl zz6 ⟨_, rfl, rfl⟩ (q_ld Tryd.underlying3 rfl rfl (Hop.c_ht _)) rfl (fun _ h => h) ?_
        refine wpd_p 7 rfl zz6 ⟨_, rfl, rfl⟩ (q_field Tryd.underlying68 rfl Tryd.ti66 rfl rfl _ rfl) rfl sk0 ?_
        refine wpd_q 8 rfl zz6 ⟨_, rfl, rfl⟩ (q_ldP Tryd.underlying66 rfl Tryd.ti66 rfl (hs.getD i Hop.z).sig (Hop.c_sig _) rfl) rfl (fun _ h => h) ?_
        refine wpd_t 9 rfl zz6 ⟨_, rfl, rfl⟩ (t_pur Tryd.hb43 rfl fun w h => check7 _ _ _ _ _ _ w (hsi.old h).1 (hsi.old h).2.1 (hsi.old h).2.2.1 (hsi.old h).2.2.2) rfl (fun _ => sk0) (fun b37 => ?_)
        refine wpd_p 10 rfl zz6 ⟨_, rfl, rfl⟩ (q_pure rfl) rfl sk0 ?_
        refine wpd_p 11 rfl zz6 trivial (q_pure rfl) rfl sk0 ?_
        refine wpd_p 12 rfl zz6 trivial (q_pure rfl) rfl sk0 ?_
        refine wpd_bool2 40 38 rfl rfl (fun hb40 => ?_) (fun hb40 => ?_)
        ·
         have hbad : badH hs i := .inr (.inl (by simpa using hb40))
         have hR : chkP ⟨pf, pa, pb, pl, hv, hs⟩ = 8 := chk_bad (p := ⟨pf, pa, pb, pl, hv, hs⟩) hn30 hpx hil hbad
         refine wpd_off 13 rfl zz6 ⟨_, _, rfl, rfl, rfl⟩ rfl sk0 ?_
         refine wpd_off 14 rfl zz6 ⟨_, _, rfl, rfl, rfl⟩ rfl sk0 ?_
         refine wpd_off 15 rfl zz6 ⟨_, _, rfl, rfl, rfl⟩ rfl sk0 ?_
         refine wpd_off 16 rfl zz6 ⟨_, _, rfl, rfl, rfl⟩ rfl sk0 ?_
         refine wpd_off 17 rfl zz6 ⟨_, _, rfl, rfl, rfl⟩ rfl sk0 ?_
         refine wpd_off 18 rfl zz6 ⟨_, _, rfl, rfl, rfl⟩ rfl sk0 ?_
         refine wpd_off 19 rfl zz6 ⟨_, _, rfl, rfl, rfl⟩ rfl sk0 ?_
         refine wpd_off 20 rfl zz6 ⟨_, _, rfl, rfl, rfl⟩ rfl sk0 ?_
         refine wpd_off 21 rfl zz6 ⟨_, _, rfl, rfl, rfl⟩ rfl sk0 ?_
         refine wpd_off 22 rfl zz6 ⟨_, _, rfl, rfl, rfl⟩ rfl sk0 ?_
         refine wpd_off 23 rfl zz6 ⟨_, _, rfl, rfl, rfl⟩ rfl sk0 ?_
         refine wpd_off 24 rfl zz6 ⟨_, _, rfl, rfl, rfl⟩ rfl sk0 ?_
         refine wpd_off 25 rfl zz6 ⟨_, _, rfl, rfl, rfl⟩ rfl sk0 ?_
         refine wpd_off 26 rfl zz6 ⟨_, _, rfl, rfl, rfl⟩ rfl sk0 ?_
         refine wpd_p 27 rfl zz6 trivial (q_pure rfl) rfl sk0 ?_
         refine wpd_done zz6 ?_
         refine ex_then ?_
         refine wpc_cond_t rfl ?_
         refine wpc_seq <| wpc_region <| wpl_q (q_pure rfl) rfl <| wpl_nil <| ex_then <| wpc_ret ?_
         refine ex_block_ret ?_
         refine ex_then_ret ?_
         refine ex_then_ret ?_
         refine ex_block_ret ?_
         refine ex_then_ret ?_
         refine ret1 (.inl rfl) rfl rfl ?_
         exact fun w h => ⟨by rw [hR], h.below⟩
        ·
         have n2 : ¬ checkF (hs.getD i Hop.z).ht (hs.getD i Hop.z).ix (hs.getD i Hop.z).chs.length (hs.getD i Hop.z).ps.length ≠ 0 := by simpa using hb40
         refine wpd_p 13 rfl zz6 ⟨_, rfl, rfl⟩ (q_pure rfl) rfl sk0 ?_
         refine wpd_p 14 rfl zz6 ⟨_, rfl, rfl⟩ (q_pure rfl) rfl sk0 ?_
         refine wpd_p 15 rfl zz6 ⟨_, rfl, rfl⟩ (q_pure rfl) rfl sk0 ?_
         refine wpd_bool2 43 42 rfl rfl (fun hb43 => ?_) (fun hb43 => ?_)
         ·
          simp only [decide_eq_true_eq] at hb43
          have p3 : 0 < i := by omega
          refine wpd_p 16 rfl zz6 ⟨_, rfl, rfl⟩ (q_field Tryd.underlying68 rfl Tryd.ti49 rfl rfl _ rfl) rfl sk0 ?_
          refine wpd_q 17 rfl zz6 ⟨_, rfl, rfl⟩ (q_ld Tryd.underlying49 rfl rfl (Hop.c_sy _)) rfl (fun _ h => h) ?_
          refine wpd_p 18 rfl zz6 ⟨_, rfl, rfl⟩ (q_field Tryd.underlying29 rfl Tryd.ti27 rfl rfl _ rfl) rfl sk0 ?_
          refine wpd_q 19 rfl zz6 ⟨_, rfl, rfl⟩ (q_ld Tryd.underlying27 rfl rfl rfl) rfl (fun _ h => h) ?_
          refine wpd_p 20 rfl zz6 ⟨_, rfl, rfl⟩ (q_pure rfl) rfl sk0 ?_
          refine wpd_p 21 rfl zz6 ⟨_, rfl, rfl⟩ (q_subN (b := 1) rfl rfl zz13 zz2) rfl sk0 ?_
          refine wpd_p 22 rfl zz6 ⟨_, rfl, rfl⟩ (q_idxW Tryd.underlying27 Tryd.ti68 rfl rfl zz4 zz2) rfl sk0 ?_
          refine wpd_p 23 rfl zz6 ⟨_, rfl, rfl⟩ (q_fieldPo 3 Tryd.underlying68 rfl Tryd.ti49 rfl rfl rfl) rfl sk0 ?_
          refine wpd_q 24 rfl zz6 ⟨_, rfl, rfl⟩ (q_ldWF Tryd.underlying49 rfl rfl (fun w h => h.seen_old hh) (cat_get Hop.c_length Hop.z (show i - 1 < hs.length from zz13) (Hop.c_to _))) rfl (fun _ h => h) ?_
          refine wpd_p 25 rfl zz6 ⟨_, rfl, rfl⟩ (q32_neq rfl rfl) rfl sk0 ?_
          refine wpd_p 26 rfl zz6 ⟨_, rfl, rfl⟩ (q_pure rfl) rfl sk0 ?_
          refine wpd_p 27 rfl zz6 trivial (q_pure rfl) rfl sk0 ?_
          refine wpd_done zz6 ?_
          refine ex_then ?_
          refine wpc_cond rfl (fun hc55 => ?_) (fun hc55 => ?_)
          ·
           have hbad : badH hs i := .inr (.inr ⟨p3, by simpa using hc55⟩)
           have hR : chkP ⟨pf, pa, pb, pl, hv, hs⟩ = 8 := chk_bad (p := ⟨pf, pa, pb, pl, hv, hs⟩) hn30 hpx hil hbad
           refine wpc_seq <| wpc_region <| wpl_q (q_pure rfl) rfl <| wpl_nil <| ex_then <| wpc_ret ?_
           refine ex_block_ret ?_
           refine ex_then_ret ?_
           refine ex_then_ret ?_
           refine ex_block_ret ?_
           refine ex_then_ret ?_
           refine ret1 (.inl rfl) rfl rfl ?_
           exact fun w h => ⟨by rw [hR], h.below⟩
          ·
           try have hok : ¬ badH hs i := by rintro (h | h | h); exact n1 h; exact n2 h; exact h.2 (by simpa using hc55)
           refine wpc_skip <| ex_block <| ex_then <| wpc_region ?_
           refine wpl_q (q_addN (b := 1) rfl rfl zz2) rfl ?_
           refine wpl_q (q_pure rfl) rfl <| wpl_nil ?_
           refine ex_again ⟨i + 1, ⟨zz13, fun j hj => by rcases Nat.lt_or_ge j i with h | h; exact hi1 j h; obtain rfl : j = i := zz13; exact hok⟩⟩ ?_ ?_ ?_
           ·
            exact zz12
           ·
            exact fun w h => h.sub SubC.h .nil
           ·
            (show hs.length - (i + 1) < hs.length - i); omega
         ·
          simp only [decide_eq_false_iff_not] at hb43
          have hok : ¬ badH hs i := by rintro (h | h | h); exact n1 h; exact n2 h; exact absurd h.1 zz13
          refine wpd_off 16 rfl zz6 ⟨_, _, rfl, rfl, rfl⟩ rfl sk0 ?_
          refine wpd_off 17 rfl zz6 ⟨_, _, rfl, rfl, rfl⟩ rfl sk0 ?_
          refine wpd_off 18 rfl zz6 ⟨_, _, rfl, rfl, rfl⟩ rfl sk0 ?_
          refine wpd_off 19 rfl zz6 ⟨_, _, rfl, rfl, rfl⟩ rfl sk0 ?_
          refine wpd_off 20 rfl zz6 ⟨_, _, rfl, rfl, rfl⟩ rfl sk0 ?_
          refine wpd_off 21 rfl zz6 ⟨_, _, rfl, rfl, rfl⟩ rfl sk0 ?_
          refine wpd_off 22 rfl zz6 ⟨_, _, rfl, rfl, rfl⟩ rfl sk0 ?_
          refine wpd_off 23 rfl zz6 ⟨_, _, rfl, rfl, rfl⟩ rfl sk0 ?_
          refine wpd_off 24 rfl zz6 ⟨_, _, rfl, rfl, rfl⟩ rfl sk0 ?_
          refine wpd_off 25 rfl zz6 ⟨_, _, rfl, rfl, rfl⟩ rfl sk0 ?_
          refine wpd_p 26 rfl zz6 ⟨_, rfl, rfl⟩ (q_pure rfl) rfl sk0 ?_
          refine wpd_p 27 rfl zz6 trivial (q_pure rfl) rfl sk0 ?_
          refine wpd_done zz6 ?_
          refine ex_then ?_
          refine wpc_cond_f rfl ?_
          refine wpc_skip <| ex_block <| ex_then <| wpc_region ?_
          refine wpl_q (q_addN (b := 1) rfl rfl zz2) rfl ?_
          refine wpl_q (q_pure rfl) rfl <| wpl_nil ?_
          refine ex_again ⟨i + 1, ⟨zz13, fun j hj => by rcases Nat.lt_or_ge j i with h | h; exact hi1 j h; obtain rfl : j = i := zz13; exact hok⟩⟩ ?_ ?_ ?_
          ·
           exact zz12
          ·
           exact fun w h => h.sub SubC.h .nil
          ·
           (show hs.length - (i + 1) < hs.length - i); omega
      ·
       simp only [decide_eq_false_iff_not] at hc24
       have hR : chkP ⟨pf, pa, pb, pl, hv, hs⟩ = 0 := chk_ok (p := ⟨pf, pa, pb, pl, hv, hs⟩) hn30 hpx h0 (fun j hj => hi1 j (by have hj : j < hs.length := hj; omega))
       refine wpc_exit ?_
       refine ex_then_exit ?_
       refine ex_then_exit ?_
       refine ex_block_hit ?_
       refine ex_then <| wpc_seq <| wpc_region <| wpl_q (q_pure rfl) rfl <| wpl_nil <| ex_then <| wpc_ret ?_
       refine ret1 (.inl rfl) rfl rfl ?_
       exact fun w h => ⟨by rw [hR], h.below⟩
end Go.Proofs.YtjpfhkjmjnjggaaDoor
