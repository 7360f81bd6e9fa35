/- What the statement reaches, in order. -/
import Derived.Test.YtgnablliekgbgaaDoorMNPLN
import Derived.Test.YtgnablliekgbgaaDoorMNPLL
import Derived.Test.YtgnablliekgbgaaDoorMNTI
import Derived.Test.YtgnablliekgbgaaDoorMNPLI
import Derived.Test.YtgnablliekgbgaaDoorMNPLZ
import Derived.KernelRfl
import Derived.Lib.BufferRead
import Derived.Lib.ConvBytes
import Derived.Laws.IdiomStrings
import Derived.Test.YtgnablliekgbgaaDoorMNPLH
import Derived.Recover
import Derived.WalkKit
import Derived.ProofKit
import Derived.OpenShut
import Derived.ChangeOld
import Derived.Below
import Derived.Carry
import Derived.LaidMore
import Derived.Deep.DeepHandedRow
import Derived.Deep.DeepWitnessRowRef
import Derived.Lib.LaidTab
import Derived.Stop.Joined
import Derived.Test.YtgnablliekgbgaaDoorMN2
set_option linter.unusedSimpArgs false
set_option linter.unusedVariables false
set_option maxRecDepth 100000
namespace Go.Proofs.YtgnablliekgbgaaDoor
open Go Go.PL Go.RowKit
def lenF (n : Nat) : Nat := if n = 0 then 0 else n.log2 + 1
theorem lenF_step {n : Nat} (h : n ≠ 0) : lenF n = lenF (n / 2) + 1 := by
  unfold lenF
  rw [if_neg h, Nat.log2_def]
  by_cases h2 : 2 ≤ n
  · rw [if_pos h2, if_neg zz12]
  · rw [if_neg h2, if_pos zz12]
theorem lenF_shift : ∀ (s n : Nat), 2 ^ s ≤ n → lenF n = s + lenF (n / 2 ^ s)
  | 0, n, _ => by simp
  | s + 1, n, h => by
    have h1 : 2 ^ s ≤ n / 2 := by rw [Nat.pow_succ] at h; omega
    have := Nat.two_pow_pos s
    rw [lenF_step zz12, lenF_shift s (n / 2) h1, Nat.div_div_eq_div_mul, Nat.pow_succ, Nat.mul_comm 2]; omega
theorem lenF_le : ∀ {m n : Nat}, n < 2 ^ m → lenF n ≤ m
  | 0, n, h => by
    obtain rfl : n = 0 := by simpa using h
    exact Nat.le_refl _
  | m + 1, n, h => by
    by_cases h0 : n = 0
    · subst h0; exact Nat.zero_le _
    · rw [lenF_step h0]
      have := lenF_le (m := m) (n := n / 2) (by rw [Nat.pow_succ] at h; omega)
      omega
theorem lenF_lt : ∀ {m n : Nat}, lenF n ≤ m → n < 2 ^ m
  | 0, n, h => by
    by_cases h0 : n = 0
    · subst h0; decide
    · rw [lenF_step h0] at h; omega
  | m + 1, n, h => by
    by_cases h0 : n = 0
    · subst h0; exact Nat.two_pow_pos _
    · rw [lenF_step h0] at h
      have := lenF_lt (m := m) (n := n / 2) zz12
      rw [Nat.pow_succ]; omega
def tab8 : List UInt8 := (List.range 256).map fun i => UInt8.ofNat (lenF i)
theorem tab8_length : tab8.length = 256 := by rw [tab8, List.length_map, List.length_range]
theorem tab8_get {b : Nat} (h : b < 256) : (tab8.getD b 0).toNat = lenF b := by
  rw [tab8, List.getD_eq_getElem?_getD, List.getElem?_map, List.getElem?_range h]
  show (UInt8.ofNat (lenF b)).toNat = _
  rw [UInt8.toNat_ofNat']
  exact Nat.mod_eq_of_lt (by have := lenF_le (m := 8) (n := b) h; omega)
theorem sr64_nat (x : UInt64) (k : Nat) (hk : k ≤ 64) : (sr64 x k).toNat = x.toNat / 2 ^ k := by
  show (UInt64.ofNat (x.toNat / 2 ^ min k 64)).toNat = _
  rw [Nat.min_eq_left hk, UInt64.toNat_ofNat']
  exact Nat.mod_eq_of_lt (Nat.lt_of_le_of_lt (Nat.div_le_self _ _) x.toNat_lt)
theorem len_fin {x y : UInt64} (s : Nat) (hy : y.toNat = x.toNat / 2 ^ s) (h1 : y.toNat < 256) (h2 : s = 0 ∨ 2 ^ s ≤ x.toNat) : s + (tab8.getD (of8 (y.toNat : Int)).toNat 0).toNat = lenF x.toNat := by
  have e : (of8 (y.toNat : Int)).toNat = y.toNat := by have := of8_toNat (y.toNat : Int); omega
  rw [e, tab8_get h1, hy]
  rcases h2 with rfl | h2
  · simp
  · exact (lenF_shift s _ h2).symm
def wideF (n : Nat) : Nat := if n < 128 then 1 else 1 + (lenF n + 7) / 8
theorem wideF_eq {n : Nat} (h : n < 16777216) : wideF n = if n < 128 then 1 else if n < 256 then 2 else if n < 65536 then 3 else 4 := by
  unfold wideF
  split
  · rfl
  · split
    · have h1 := lenF_le (m := 8) (n := n) zz12
      have h2 : ¬ lenF n ≤ 0 := fun hh => by have := lenF_lt hh; omega
      omega
    · split
      · have h1 := lenF_le (m := 16) (n := n) zz12
        have h2 : ¬ lenF n ≤ 8 := fun hh => by have := lenF_lt hh; omega
        omega
      · have h1 := lenF_le (m := 24) (n := n) zz12
        have h2 : ¬ lenF n ≤ 16 := fun hh => by have := lenF_lt hh; omega
        omega
theorem wideF_le (n : Nat) (h : n < 16777216) : wideF n ≤ 4 := by
  rw [wideF_eq h]; split
  · decide
  · split
    · decide
    · split <;> decide
def lenB (n : Nat) : List UInt8 := if n < 128 then [of8 (n : Int)] else if n < 256 then [129, of8 (n : Int)] else if n < 65536 then [130, of8 ((n / 256 : Nat) : Int), of8 ((n % 256 : Nat) : Int)] else [131, of8 ((n / 65536 : Nat) : Int), of8 ((n / 256 % 256 : Nat) : Int), of8 ((n % 256 : Nat) : Int)]
theorem lenB_length {n : Nat} (h : n < 16777216) : (lenB n).length = wideF n := by
  rw [wideF_eq h]; unfold lenB
  split
  · rfl
  · split
    · rfl
    · split <;> rfl
theorem len64 (x : UInt64) (w : World)   :
    Calls Tryd.prog 46 [.int .u64 x.toNat].toArray w (Pur w (.int .i64 ((lenF x.toNat : Nat) : Int))) := by
  have hx := x.toNat_lt
  refine enter (m := 25) (R := Mem w [] [] []) Tryd.func46 rfl rfl (Nat.le_of_ble_eq_true rfl) (Mem.start w) ?_
  refine wpc_seq <| wpc_region <| wpl_q (q_pure rfl) rfl <| wpl_nil <| ex_then <| wpc_seq <| wpc_seq <| wpc_region <| wpl_q (q_pure rfl) rfl <| wpl_q (q_pure rfl) rfl <| wpl_nil <| ex_then ?_
  refine wpc_cond rfl (fun hc4 => ?_) (fun hc4 => ?_)
  ·
   try simp only [decide_eq_true_eq, decide_eq_false_iff_not, ge_iff_le] at hc4
   refine wpc_seq <| wpc_region <| wpl_q (q_pure rfl) rfl ?_
   refine wpl_q (q64_shr rfl rfl zz24 32 rfl) rfl ?_
   refine wpl_q (q_pure rfl) rfl <| wpl_nil <| ex_then <| wpc_region <| wpl_q (q_pure rfl) rfl <| wpl_nil <| ex_then <| wpc_seq <| wpc_seq <| wpc_region <| wpl_q (q_pure rfl) rfl <| wpl_q (q_pure rfl) rfl ?_
   refine wpl_nil <| ex_then ?_
   refine wpc_cond rfl (fun hc8 => ?_) (fun hc8 => ?_)
   ·
    try simp only [decide_eq_true_eq, decide_eq_false_iff_not, ge_iff_le] at hc8
    refine wpc_seq <| wpc_region <| wpl_q (q_pure rfl) rfl ?_
    refine wpl_q (q64_shr rfl rfl zz24 16 rfl) rfl ?_
    refine wpl_q (q_pure rfl) rfl <| wpl_nil <| ex_then <| wpc_region <| wpl_q (q_pure rfl) rfl ?_
    refine wpl_q (q_addN (b := 16) rfl rfl zz1) rfl ?_
    refine wpl_q (q_pure rfl) rfl <| wpl_nil <| ex_then <| wpc_seq <| wpc_seq <| wpc_region <| wpl_q (q_pure rfl) rfl <| wpl_q (q_pure rfl) rfl <| wpl_nil <| ex_then ?_
    refine wpc_cond rfl (fun hc14 => ?_) (fun hc14 => ?_)
    ·
     try simp only [decide_eq_true_eq, decide_eq_false_iff_not, ge_iff_le] at hc14
     refine wpc_seq <| wpc_region <| wpl_q (q_pure rfl) rfl ?_
     refine wpl_q (q64_shr rfl rfl zz24 8 rfl) rfl ?_
     refine wpl_q (q_pure rfl) rfl <| wpl_nil <| ex_then <| wpc_region <| wpl_q (q_pure rfl) rfl ?_
     refine wpl_q (q_addN (b := 8) rfl rfl zz1) rfl ?_
     refine wpl_q (q_pure rfl) rfl <| wpl_nil <| ex_then <| wpc_seq <| wpc_region <| wpl_q (q_pure rfl) rfl <| wpl_q (q_pure rfl) rfl <| wpl_q (q8_conv Tryd.underlying23 Tryd.underlying5 rfl) rfl ?_
     refine wpl_q (q_strIdx (xs := tab8) Tryd.underlying9 zz7 rfl zz41) rfl ?_
     refine wpl_q (q8_int Tryd.underlying5 Tryd.underlying3 rfl) rfl ?_
     refine wpl_q (q_addN rfl rfl (Nat.le_trans (Nat.add_le_add_left (Nat.le_of_lt (UInt8.toNat_lt _)) _) zz19)) rfl ?_
     refine wpl_q (q_pure rfl) rfl <| wpl_nil <| ex_then <| wpc_ret ?_
     refine ret1 (.inl rfl) rfl rfl ?_
     exact fun w h => ⟨by
       have e0 := sr64_nat x 32 zz19
       have e1 := sr64_nat (sr64 x 32) 16 zz19
       have e2 := sr64_nat (sr64 (sr64 x 32) 16) 8 zz19
       have := len_fin (x := x) (y := (sr64 (sr64 (sr64 x 32) 16) 8)) 56 (by rw [e2, e1, e0]; first | done | omega) zz12 zz12
       rw [← this], h.below⟩
    ·
     try simp only [decide_eq_true_eq, decide_eq_false_iff_not, ge_iff_le] at hc14
     refine wpc_skip <| ex_then <| wpc_seq <| wpc_region <| wpl_q (q_pure rfl) rfl <| wpl_q (q_pure rfl) rfl <| wpl_q (q8_conv Tryd.underlying23 Tryd.underlying5 rfl) rfl ?_
     refine wpl_q (q_strIdx (xs := tab8) Tryd.underlying9 zz7 rfl zz41) rfl ?_
     refine wpl_q (q8_int Tryd.underlying5 Tryd.underlying3 rfl) rfl ?_
     refine wpl_q (q_addN rfl rfl (Nat.le_trans (Nat.add_le_add_left (Nat.le_of_lt (UInt8.toNat_lt _)) _) zz19)) rfl ?_
     refine wpl_q (q_pure rfl) rfl <| wpl_nil <| ex_then <| wpc_ret ?_
     refine ret1 (.inl rfl) rfl rfl ?_
     exact fun w h => ⟨by
       have e0 := sr64_nat x 32 zz19
       have e1 := sr64_nat (sr64 x 32) 16 zz19
       have := len_fin (x := x) (y := (sr64 (sr64 x 32) 16)) 48 (by rw [e1, e0]; first | done | omega) zz12 zz12
       rw [← this], h.below⟩
   ·
    try simp only [decide_eq_true_eq, decide_eq_false_iff_not, ge_iff_le] at hc8
    refine wpc_skip <| ex_then <| wpc_seq <| wpc_seq <| wpc_region <| wpl_q (q_pure rfl) rfl <| wpl_q (q_pure rfl) rfl <| wpl_nil <| ex_then ?_
    refine wpc_cond rfl (fun hc14 => ?_) (fun hc14 => ?_)
    ·
     try simp only [decide_eq_true_eq, decide_eq_false_iff_not, ge_iff_le] at hc14
     refine wpc_seq <| wpc_region <| wpl_q (q_pure rfl) rfl ?_
     refine wpl_q (q64_shr rfl rfl zz24 8 rfl) rfl ?_
     refine wpl_q (q_pure rfl) rfl <| wpl_nil <| ex_then <| wpc_region <| wpl_q (q_pure rfl) rfl ?_
     refine wpl_q (q_addN (b := 8) rfl rfl zz1) rfl ?_
     refine wpl_q (q_pure rfl) rfl <| wpl_nil <| ex_then <| wpc_seq <| wpc_region <| wpl_q (q_pure rfl) rfl <| wpl_q (q_pure rfl) rfl <| wpl_q (q8_conv Tryd.underlying23 Tryd.underlying5 rfl) rfl ?_
     refine wpl_q (q_strIdx (xs := tab8) Tryd.underlying9 zz7 rfl zz41) rfl ?_
     refine wpl_q (q8_int Tryd.underlying5 Tryd.underlying3 rfl) rfl ?_
     refine wpl_q (q_addN rfl rfl (Nat.le_trans (Nat.add_le_add_left (Nat.le_of_lt (UInt8.toNat_lt _)) _) zz19)) rfl ?_
     refine wpl_q (q_pure rfl) rfl <| wpl_nil <| ex_then <| wpc_ret ?_
     refine ret1 (.inl rfl) rfl rfl ?_
     exact fun w h => ⟨by
       have e0 := sr64_nat x 32 zz19
       have e1 := sr64_nat (sr64 x 32) 8 zz19
       have := len_fin (x := x) (y := (sr64 (sr64 x 32) 8)) 40 (by rw [e1, e0]; first | done | omega) zz12 zz12
       rw [← this], h.below⟩
    ·
     try simp only [decide_eq_true_eq, decide_eq_false_iff_not, ge_iff_le] at hc14
     refine wpc_skip <| ex_then <| wpc_seq <| wpc_region <| wpl_q (q_pure rfl) rfl <| wpl_q (q_pure rfl) rfl <| wpl_q (q8_conv Tryd.underlying23 Tryd.underlying5 rfl) rfl ?_
     refine wpl_q (q_strIdx (xs := tab8) Tryd.underlying9 zz7 rfl zz41) rfl ?_
     refine wpl_q (q8_int Tryd.underlying5 Tryd.underlying3 rfl) rfl ?_
     refine wpl_q (q_addN rfl rfl (Nat.le_trans (Nat.add_le_add_left (Nat.le_of_lt (UInt8.toNat_lt _)) _) zz19)) rfl ?_
     refine wpl_q (q_pure rfl) rfl <| wpl_nil <| ex_then <| wpc_ret ?_
     refine ret1 (.inl rfl) rfl rfl ?_
     exact fun w h => ⟨by
       have e0 := sr64_nat x 32 zz19
       have := len_fin (x := x) (y := (sr64 x 32)) 32 (by rw [e0]; first | done | omega) zz12 zz12
       rw [← this], h.below⟩
  ·
   try simp only [decide_eq_true_eq, decide_eq_false_iff_not, ge_iff_le] at hc4
   refine wpc_skip <| ex_then <| wpc_seq <| wpc_seq <| wpc_region <| wpl_q (q_pure rfl) rfl <| wpl_q (q_pure rfl) rfl <| wpl_nil <| ex_then ?_
   refine wpc_cond rfl (fun hc8 => ?_) (fun hc8 => ?_)
   ·
    try simp only [decide_eq_true_eq, decide_eq_false_iff_not, ge_iff_le] at hc8
    refine wpc_seq <| wpc_region <| wpl_q (q_pure rfl) rfl ?_
    refine wpl_q (q64_shr rfl rfl zz24 16 rfl) rfl ?_
    refine wpl_q (q_pure rfl) rfl <| wpl_nil <| ex_then <| wpc_region <| wpl_q (q_pure rfl) rfl ?_
    refine wpl_q (q_addN (b := 16) rfl rfl zz1) rfl ?_
    refine wpl_q (q_pure rfl) rfl <| wpl_nil <| ex_then <| wpc_seq <| wpc_seq <| wpc_region <| wpl_q (q_pure rfl) rfl <| wpl_q (q_pure rfl) rfl <| wpl_nil <| ex_then ?_
    refine wpc_cond rfl (fun hc14 => ?_) (fun hc14 => ?_)
    ·
     try simp only [decide_eq_true_eq, decide_eq_false_iff_not, ge_iff_le] at hc14
     refine wpc_seq <| wpc_region <| wpl_q (q_pure rfl) rfl ?_
     refine wpl_q (q64_shr rfl rfl zz24 8 rfl) rfl ?_
     refine wpl_q (q_pure rfl) rfl <| wpl_nil <| ex_then <| wpc_region <| wpl_q (q_pure rfl) rfl ?_
     refine wpl_q (q_addN (b := 8) rfl rfl zz1) rfl ?_
     refine wpl_q (q_pure rfl) rfl <| wpl_nil <| ex_then <| wpc_seq <| wpc_region <| wpl_q (q_pure rfl) rfl <| wpl_q (q_pure rfl) rfl <| wpl_q (q8_conv Tryd.underlying23 Tryd.underlying5 rfl) rfl ?_
     refine wpl_q (q_strIdx (xs := tab8) Tryd.underlying9 zz7 rfl zz41) rfl ?_
     refine wpl_q (q8_int Tryd.underlying5 Tryd.underlying3 rfl) rfl ?_
     refine wpl_q (q_addN rfl rfl (Nat.le_trans (Nat.add_le_add_left (Nat.le_of_lt (UInt8.toNat_lt _)) _) zz19)) rfl ?_
     refine wpl_q (q_pure rfl) rfl <| wpl_nil <| ex_then <| wpc_ret ?_
     refine ret1 (.inl rfl) rfl rfl ?_
     exact fun w h => ⟨by
       have e0 := sr64_nat x 16 zz19
       have e1 := sr64_nat (sr64 x 16) 8 zz19
       have := len_fin (x := x) (y := (sr64 (sr64 x 16) 8)) 24 (by rw [e1, e0]; first | done | omega) zz12 zz12
       rw [← this], h.below⟩
    ·
     try simp only [decide_eq_true_eq, decide_eq_false_iff_not, ge_iff_le] at hc14
     refine wpc_skip <| ex_then <| wpc_seq <| wpc_region <| wpl_q (q_pure rfl) rfl <| wpl_q (q_pure rfl) rfl <| wpl_q (q8_conv Tryd.underlying23 Tryd.underlying5 rfl) rfl ?_
     refine wpl_q (q_strIdx (xs := tab8) Tryd.underlying9 zz7 rfl zz41) rfl ?_
     refine wpl_q (q8_int Tryd.underlying5 Tryd.underlying3 rfl) rfl ?_
     refine wpl_q (q_addN rfl rfl (Nat.le_trans (Nat.add_le_add_left (Nat.le_of_lt (UInt8.toNat_lt _)) _) zz19)) rfl ?_
     refine wpl_q (q_pure rfl) rfl <| wpl_nil <| ex_then <| wpc_ret ?_
     refine ret1 (.inl rfl) rfl rfl ?_
     exact fun w h => ⟨by
       have e0 := sr64_nat x 16 zz19
       have := len_fin (x := x) (y := (sr64 x 16)) 16 (by rw [e0]; first | done | omega) zz12 zz12
       rw [← this], h.below⟩
   ·
    try simp only [decide_eq_true_eq, decide_eq_false_iff_not, ge_iff_le] at hc8
    refine wpc_skip <| ex_then <| wpc_seq <| wpc_seq <| wpc_region <| wpl_q (q_pure rfl) rfl <| wpl_q (q_pure rfl) rfl <| wpl_nil <| ex_then ?_
    refine wpc_cond rfl (fun hc14 => ?_) (fun hc14 => ?_)
    ·
     try simp only [decide_eq_true_eq, decide_eq_false_iff_not, ge_iff_le] at hc14
     refine wpc_seq <| wpc_region <| wpl_q (q_pure rfl) rfl ?_
     refine wpl_q (q64_shr rfl rfl zz24 8 rfl) rfl ?_
     refine wpl_q (q_pure rfl) rfl <| wpl_nil <| ex_then <| wpc_region <| wpl_q (q_pure rfl) rfl ?_
     refine wpl_q (q_addN (b := 8) rfl rfl zz1) rfl ?_
     refine wpl_q (q_pure rfl) rfl <| wpl_nil <| ex_then <| wpc_seq <| wpc_region <| wpl_q (q_pure rfl) rfl <| wpl_q (q_pure rfl) rfl <| wpl_q (q8_conv Tryd.underlying23 Tryd.underlying5 rfl) rfl ?_
     refine wpl_q (q_strIdx (xs := tab8) Tryd.underlying9 zz7 rfl zz41) rfl ?_
     refine wpl_q (q8_int Tryd.underlying5 Tryd.underlying3 rfl) rfl ?_
     refine wpl_q (q_addN rfl rfl (Nat.le_trans (Nat.add_le_add_left (Nat.le_of_lt (UInt8.toNat_lt _)) _) zz19)) rfl ?_
     refine wpl_q (q_pure rfl) rfl <| wpl_nil <| ex_then <| wpc_ret ?_
     refine ret1 (.inl rfl) rfl rfl ?_
     exact fun w h => ⟨by
       have e0 := sr64_nat x 8 zz19
       have := len_fin (x := x) (y := (sr64 x 8)) 8 (by rw [e0]; first | done | omega) zz12 zz12
       rw [← this], h.below⟩
    ·
     try simp only [decide_eq_true_eq, decide_eq_false_iff_not, ge_iff_le] at hc14
     refine wpc_skip <| ex_then <| wpc_seq <| wpc_region <| wpl_q (q_pure rfl) rfl <| wpl_q (q_pure rfl) rfl <| wpl_q (q8_conv Tryd.underlying23 Tryd.underlying5 rfl) rfl ?_
     refine wpl_q (q_strIdx (xs := tab8) Tryd.underlying9 zz7 rfl zz41) rfl ?_
     refine wpl_q (q8_int Tryd.underlying5 Tryd.underlying3 rfl) rfl ?_
     refine wpl_q (q_addN rfl rfl (Nat.le_trans (Nat.add_le_add_left (Nat.le_of_lt (UInt8.toNat_lt _)) _) zz19)) rfl ?_
     refine wpl_q (q_pure rfl) rfl <| wpl_nil <| ex_then <| wpc_ret ?_
     refine ret1 (.inl rfl) rfl rfl ?_
     exact fun w h => ⟨by
       skip
       have := len_fin (x := x) (y := x) 0 zz40 zz12 zz12
       rw [← this], h.below⟩
theorem len_ (x : UInt64) (w : World)   :
    Calls Tryd.prog 94 [.int .u64 x.toNat].toArray w (Pur w (.int .i64 ((lenF x.toNat : Nat) : Int))) := by
  refine enter (m := 8) (R := Mem w [] [] []) Tryd.func94 rfl rfl (Nat.le_of_ble_eq_true rfl) (Mem.start w) ?_
  refine wpc_seq <| wpc_region <| wpl_q (q_pure rfl) rfl <| wpl_nil <| ex_then <| wpc_seq ?_
  refine wpc_cond_f rfl ?_
  refine wpc_skip <| ex_then <| wpc_seq <| wpc_region <| wpl_q (q_pure rfl) rfl ?_
  refine wpl_t (t_pur Tryd.hb46 rfl fun w h => len64 x w) rfl (fun b7 => ?_)
  refine wpl_q (q_pure rfl) rfl <| wpl_nil <| ex_then <| wpc_ret ?_
  refine ret1 (.inl rfl) rfl rfl ?_
  exact fun w h => ⟨rfl, h.below⟩
theorem wide (n : Nat) (w : World)  (hn : n < 16777216) :
    Calls Tryd.prog 77 [.int .i64 ((n : Nat) : Int)].toArray w (Pur w (.int .i64 ((wideF n : Nat) : Int))) := by
  refine enter (m := 11) (R := Mem w [] [] []) Tryd.func77 rfl rfl (Nat.le_of_ble_eq_true rfl) (Mem.start w) ?_
  refine wpc_seq <| wpc_region <| wpl_q (q_pure rfl) rfl <| wpl_nil <| ex_then <| wpc_seq <| wpc_seq <| wpc_region <| wpl_q (q_pure rfl) rfl <| wpl_q (q_pure rfl) rfl <| wpl_nil <| ex_then ?_
  refine wpc_cond rfl (fun hc4 => ?_) (fun hc4 => ?_)
  ·
   simp only [decide_eq_true_eq] at hc4
   refine wpc_seq <| wpc_region <| wpl_q (q_pure rfl) rfl <| wpl_nil <| ex_then <| wpc_ret ?_
   refine ex_then_ret ?_
   refine ret1 (.inl rfl) rfl rfl ?_
   exact fun w h => ⟨by rw [wideF, if_pos zz12]; rfl, h.below⟩
  ·
   simp only [decide_eq_false_iff_not] at hc4
   refine wpc_skip <| ex_then <| wpc_seq <| wpc_region <| wpl_q (q_pure rfl) rfl <| wpl_q (q64_conv Tryd.underlying3 Tryd.underlying100 rfl) rfl ?_
   refine wpl_t (t_pur (v := .int .i64 ((lenF n : Nat) : Int)) Tryd.hb94 rfl fun w h => by have q := len_ (of64 ((n : Nat) : Int)) w; rw [of64_nat n zz12] at q; rw [of64_nat n zz12]; exact q) rfl (fun b7 => ?_)
   have hle := lenF_le (m := 24) (n := n) zz12
   refine wpl_q (q_addN (b := 7) rfl rfl zz1) rfl ?_
   refine wpl_q (q_quoN (b := 8) rfl rfl zz24 zz1) rfl ?_
   refine wpl_q (q_addN (a := 1) rfl rfl zz1) rfl ?_
   refine wpl_q (q_pure rfl) rfl <| wpl_nil <| ex_then <| wpc_ret ?_
   refine ret1 (.inl rfl) rfl rfl ?_
   exact fun w h => ⟨by rw [wideF, if_neg zz12], h.below⟩
end Go.Proofs.YtgnablliekgbgaaDoor
namespace Go.Proofs.YtgnablliekgbgaaDoor
open Go Go.PL Go.RowKit
mutual
def Tr.cnt : Tr → Nat
  | .nd _ _ l => 1 + cntL l
def cntL : List Tr → Nat
  | [] => 0
  | x :: l => x.cnt + cntL l
end
mutual
def Tr.dep : Tr → Nat
  | .nd _ _ l => depL l + 1
def depL : List Tr → Nat
  | [] => 0
  | x :: l => max x.dep (depL l)
end
mutual
def Tr.byt : Tr → Nat
  | .nd _ bs l => bs.length + bytL l
def bytL : List Tr → Nat
  | [] => 0
  | x :: l => x.byt + bytL l
end
mutual
def Tr.siz : Tr → Nat
  | .nd _ bs l => 1 + wideF (bs.length + sizL l) + (bs.length + sizL l)
def sizL : List Tr → Nat
  | [] => 0
  | x :: l => x.siz + sizL l
end
def badT (t : UInt8) (b n : Nat) : Bool := decide (t = 0) || (decide (t < 128) && decide (0 < n)) || (decide (128 ≤ t) && decide (0 < b))
mutual
def Tr.shp : Tr → Bool
  | .nd t bs l => !badT t bs.length l.length && shpL l
def shpL : List Tr → Bool
  | [] => true
  | x :: l => x.shp && shpL l
end
theorem cntL_app : ∀ (a b : List Tr), cntL (a ++ b) = cntL a + cntL b
  | [], b => by simp [cntL]
  | x :: a, b => by rw [List.cons_append, cntL, cntL, cntL_app a b]; omega
theorem bytL_app : ∀ (a b : List Tr), bytL (a ++ b) = bytL a + bytL b
  | [], b => by simp [bytL]
  | x :: a, b => by rw [List.cons_append, bytL, bytL, bytL_app a b]; omega
theorem sizL_app : ∀ (a b : List Tr), sizL (a ++ b) = sizL a + sizL b
  | [], b => by simp [sizL]
  | x :: a, b => by rw [List.cons_append, sizL, sizL, sizL_app a b]; omega
theorem depL_app : ∀ (a b : List Tr), depL (a ++ b) = max (depL a) (depL b)
  | [], b => by simp [depL]
  | x :: a, b => by rw [List.cons_append, depL, depL, depL_app a b]; omega
section
variable {l : List HT} {i : Nat} (h : i < l.length)
include h
theorem trs_takeS : trs (l.take (i + 1)) = trs (l.take i) ++ [(l.getD i HT.z).tr] := by rw [take_succD HT.z h, trs_append]; rfl
theorem trs_split : trs l = trs (l.take i) ++ (l.getD i HT.z).tr :: trs (l.drop (i + 1)) := by
  conv => lhs; rw [← List.take_append_drop i l, drop_consD HT.z h, trs_append]
  rfl
theorem sizL_take : sizL (trs (l.take (i + 1))) = sizL (trs (l.take i)) + (l.getD i HT.z).tr.siz := by rw [trs_takeS h, sizL_app]; rfl
theorem cntL_kid : cntL (trs (l.take i)) + (l.getD i HT.z).tr.cnt ≤ cntL (trs l) := by rw [trs_split h, cntL_app, cntL]; omega
theorem bytL_kid : bytL (trs (l.take i)) + (l.getD i HT.z).tr.byt ≤ bytL (trs l) := by rw [trs_split h, bytL_app, bytL]; omega
theorem sizL_kid : sizL (trs (l.take i)) + (l.getD i HT.z).tr.siz ≤ sizL (trs l) := by rw [trs_split h, sizL_app, sizL]; omega
theorem depL_kid : (l.getD i HT.z).tr.dep ≤ depL (trs l) := by rw [trs_split h, depL_app, depL]; omega
end
theorem cnt_pos (t : Tr) : 1 ≤ t.cnt := by cases t; rw [Tr.cnt]; omega
theorem cntL_len : ∀ l : List Tr, l.length ≤ cntL l
  | [] => Nat.le_refl _
  | x :: l => by have := cntL_len l; have := cnt_pos x; rw [cntL, List.length_cons]; omega
def Sm (t : Tr) : Prop := t.byt + 5 * t.cnt ≤ 1000000
theorem Sm.kid {tg : UInt8} {bv lv : Value} {bs : List UInt8} {l : List HT} (h : Sm (HT.nd tg bv bs lv l).tr) {i : Nat} (hi : i < l.length) : Sm (l.getD i HT.z).tr := by
  have h1 := cntL_kid hi
  have h2 := bytL_kid hi
  have h : bs.length + bytL (trs l) + 5 * (1 + cntL (trs l)) ≤ 1000000 := h
  unfold Sm; omega
theorem siz_le : ∀ t : Tr, Sm t → t.siz ≤ t.byt + 5 * t.cnt := by
  intro t
  induction t using Tr.ind with
  | _ tg bs l ih =>
    intro h
    have h : bs.length + bytL l + 5 * (1 + cntL l) ≤ 1000000 := h
    have key : ∀ m : List Tr, (∀ x ∈ m, x ∈ l) → bytL m + 5 * cntL m ≤ 1000000 → sizL m ≤ bytL m + 5 * cntL m := by
      intro m
      induction m with
      | nil => intro _ _; exact Nat.le_refl _
      | cons x m ihm =>
        intro hm hb
        rw [bytL, cntL] at hb
        have h1 := ih x (hm x (List.mem_cons_self ..)) (by unfold Sm; omega)
        have h2 := ihm (fun y hy => hm y (List.mem_cons_of_mem _ hy)) zz12
        rw [sizL, bytL, cntL]; omega
    have h1 := key l (fun _ hx => hx) zz12
    have h2 := wideF_le (bs.length + sizL l) zz12
    rw [Tr.siz, Tr.byt, Tr.cnt]; omega
theorem content_le {t : UInt8} {bs : List UInt8} {l : List Tr} (h : Sm (.nd t bs l)) : bs.length + sizL l ≤ 1000000 := by
  have h1 := siz_le _ h
  have h2 : bs.length + bytL l + 5 * (1 + cntL l) ≤ 1000000 := h
  rw [Tr.siz, Tr.byt, Tr.cnt] at h1; omega
theorem size_step (t : HT) (w : World) (ht : HSeen w.cell? t) (hsm : Sm t.tr) (ih : ∀ x ∈ t.kids, ∀ (w : World), HSeen w.cell? x → Sm x.tr → Calls Tryd.prog 76 [.agg x.c.toArray].toArray w (Pur w (.int .i64 ((x.tr.siz : Nat) : Int)))) :
    Calls Tryd.prog 76 [.agg t.c.toArray].toArray w (Pur w (.int .i64 ((t.tr.siz : Nat) : Int))) := by
  obtain ⟨tg, bv, bs, lv, l⟩ := t
  have hb := ht.1
  have hk := ht.2.1
  have svb := hb.sv
  have svl := hk.sv
  have lb := svb.le
  have ll := svl.le
  simp only [maxLen] at lb ll
  refine enter (m := 26) (R := Mem w [] [] []) Tryd.func76 rfl rfl (Nat.le_of_ble_eq_true rfl) (Mem.start w) ?_
  refine wpc_seq <| wpc_region ?_
  refine wpl_t (t_box rfl [.int .u8 (tg.toNat : Int), bv, lv] rfl) rfl (fun b1 => ?_)
  refine wpl_q (q_pure rfl) rfl <| wpl_nil <| ex_then <| wpc_seq <| wpc_region <| wpl_q (q_field Tryd.underlying61 rfl Tryd.ti34 rfl rfl _ rfl) rfl <| wpl_q (q_ld Tryd.underlying34 rfl rfl rfl) rfl ?_
  refine wpl_q (q_lenW Tryd.underlying34 rfl zz3) rfl ?_
  refine wpl_q (q_pure rfl) rfl <| wpl_nil <| ex_then <| wpc_seq <| wpc_seq <| wpc_region <| wpl_q (q_field Tryd.underlying61 rfl Tryd.ti59 rfl rfl _ rfl) rfl <| wpl_q (q_ld Tryd.underlying59 rfl rfl rfl) rfl ?_
  refine wpl_q (q_lenW Tryd.underlying59 rfl zz3) rfl ?_
  refine wpl_q (q_pure rfl) rfl <| wpl_nil <| ex_then <| wpc_block ?_
  refine wpc_loopc (ι := { x : Nat // (x ≤ l.length) }) [(10, _), (11, _)] (fun x Lc => (12, .int .i64 ((x.1 : Nat) : Int)) :: (3, .int .i64 ((bs.length + sizL (trs (l.take x.1)) : Nat) : Int)) :: Lc) (fun x => Mem w [] [] []) (fun x => l.length - x.1) ⟨0, (Nat.zero_le _)⟩ zz9 ?_ ?_
  ·
   exact fun w h => h.sub .nil .nil
  ·
   rintro ⟨i, hi0⟩; try dsimp only
   have hi0 : i ≤ l.length := hi0
   refine wpc_seq <| wpc_region <| wpl_q (q_pure rfl) rfl <| wpl_nil <| ex_then <| wpc_seq ?_
   refine wpc_cond rfl (fun hc13 => ?_) (fun hc13 => ?_)
   ·
    simp only [decide_eq_true_eq] at hc13
    have hil : i < l.length := by omega
    haveI := (ht.kid hil).sv.one
    have hs1 := sizL_take hil
    have hs2 := sizL_kid hil
    have hs3 := content_le hsm
    refine wpc_skip <| ex_then <| wpc_seq <| wpc_block <| wpc_seq <| wpc_region ?_
    refine wpl_q (q_idxW Tryd.underlying59 Tryd.ti61 rfl rfl zz3 zz1) rfl ?_
    refine wpl_q (q_ldWN Tryd.underlying61 rfl Tryd.ti61 rfl (fun w h => h.seen_old hk) (l.getD i HT.z).c (cat_part HT.c_length HT.z hil) (HT.c_length _)) rfl ?_
    refine wpl_t (t_alloc Tryd.ti61 HT.z.c rfl) rfl (fun b5 => ?_)
    refine wpl_t0 (t_stA Tryd.ti61 rfl rfl LenC.h OneC.h LenC.h) (fun _ => ?_)
    refine wpl_nil <| ex_then <| wpc_region <| wpl_q (q_pure rfl) rfl <| wpl_q (q_ldN Tryd.underlying61 rfl Tryd.ti61 rfl LenC.h) rfl ?_
    refine wpl_t (t_pur Tryd.hb76 rfl fun w h => ih (l.getD i HT.z) (getD_memH hil) w ((ht.kid hil).old h) (hsm.kid hil)) rfl (fun b18 => ?_)
    refine wpl_q (q_addN rfl rfl zz1) rfl ?_
    refine wpl_re 19 rfl (congrArg (fun n : Nat => Value.int .i64 (n : Int)) (show bs.length + sizL (trs (l.take i)) + (l.getD i HT.z).tr.siz = bs.length + sizL (trs (l.take (i + 1))) from zz12)) ?_
    refine wpl_q (q_pure rfl) rfl <| wpl_nil <| ex_block <| ex_then <| wpc_region ?_
    refine wpl_q (q_addN (b := 1) rfl rfl zz1) rfl ?_
    refine wpl_q (q_pure rfl) rfl <| wpl_nil ?_
    refine ex_again ⟨i + 1, zz12⟩ ?_ ?_ ?_
    ·
     exact zz9
    ·
     exact fun w h => h.sub .nil .nil
    ·
     (show l.length - (i + 1) < l.length - i); omega
   ·
    simp only [decide_eq_false_iff_not] at hc13
    obtain rfl : i = l.length := by omega
    rw [List.take_length]
    have hs3 := content_le hsm
    have hw := wideF_le (bs.length + sizL (trs l)) zz12
    refine wpc_exit ?_
    refine ex_then_exit ?_
    refine ex_then_exit ?_
    refine ex_block_hit ?_
    refine ex_then <| wpc_seq <| wpc_region <| wpl_q (q_pure rfl) rfl ?_
    refine wpl_t (t_pur Tryd.hb77 rfl fun w h => wide _ w zz12) rfl (fun b22 => ?_)
    refine wpl_q (q_addN (a := 1) rfl rfl zz1) rfl ?_
    refine wpl_q (q_pure rfl) rfl ?_
    refine wpl_q (q_addN rfl rfl zz1) rfl ?_
    refine wpl_q (q_pure rfl) rfl <| wpl_nil <| ex_then <| wpc_ret ?_
    refine ret1 (.inl rfl) rfl rfl ?_
    exact fun w h => ⟨rfl, h.below⟩
theorem size : ∀ (t : HT) (w : World), HSeen w.cell? t → Sm t.tr → Calls Tryd.prog 76 [.agg t.c.toArray].toArray w (Pur w (.int .i64 ((t.tr.siz : Nat) : Int))) := by
  intro t
  induction t using HT.ind with
  | _ tg bv bs lv l ih => intro w h hs; exact size_step _ w h hs (fun x hx w hx' hs' => ih x hx w hx' hs')
end Go.Proofs.YtgnablliekgbgaaDoor
namespace Go.Proofs.YtgnablliekgbgaaDoor
open Go Go.PL Go.RowKit
def checkF (t : Tr) : Int := if 4000 < t.cnt ∨ 12 < t.dep then 4 else if t.shp = false then 8 else if 65536 < t.siz then 4 else 0
end Go.Proofs.YtgnablliekgbgaaDoor
namespace Go.Proofs.YtgnablliekgbgaaDoor
open Go Go.PL Go.RowKit
section
variable {P : Program} {n : Cx} {R : World → Prop} {L : Slots} {Q : Exit → Act → World → Prop} {w0 : World} {Ln : List Nat} {M : List Ent} {S : List Fact}
theorem q_cvBS {s t e : TypeId} {x : Operand} {v : Value} {m : Nat} {bs : List UInt8} (hs' : P.underlying s = some (.slice e)) (he : P.underlying e = some (.int .u8)) (hu : P.underlying t = some .string) (hx : ev L x = some v) (hs : ∀ w, R w → Seen w.cell? v m 1 (v8s bs)) : QOp P n R L (.convert s t x) (str bs) := by
  intro d ty pos af g a w hsl hr
  obtain ⟨h1, ad, cap, rfl, h3, h4, h5⟩ := hs w hr
  have hm : m = bs.length := by rw [v8s_length] at h1; omega
  subst hm
  simp only [execOp, hsl.eval hx]
  rcases h5 with ⟨rfl, rfl⟩ | ⟨a', rfl, h6⟩
  · have h0 : bs.length = 0 := by omega
    obtain rfl : bs = [] := List.eq_nil_of_length_eq_zero h0
    have r := Lib.run_convert_nil_bytes (P := P) w s t e 0 hs' he hu
    have r' : (convert s t (.slice none ([] : List UInt8).length 0)).run P w = _ := r
    simp only [Sem.run_bind, r']; rfl
  · have r := run_convert_bytes_back (P := P) w s t e a' cap bs hs' he hu (fun j hj => by
      refine h6 j _ ?_
      have := v8s_get (xs := bs) (i := j) hj
      rw [this]
      congr 2
      rw [List.getD_eq_getElem?_getD, List.getElem?_eq_getElem hj]; rfl)
    simp only [Sem.run_bind, r]; rfl
theorem t_cvSB {s t e : TypeId} {x : Operand} {bs : List UInt8} (hs' : P.underlying s = some .string) (hu : P.underlying t = some (.slice e)) (he : P.underlying e = some (.int .u8)) (hx : ev L x = some (str bs)) (hl : bs.length ≤ maxLen) :
    TOpP P Q n (Mem w0 Ln M S) L (.convert s t x) Value (fun v => SV v bs.length) (fun v => v) (fun v => Mem w0 Ln M (Go.PL.seen v bs.length 1 (v8s bs) :: S)) := by
  have h : TOp P Q n (Mem w0 Ln M S) L (.convert s t x) { v : Value // SV v bs.length } (fun v => v.1) (fun v => Mem w0 Ln M (Go.PL.seen v.1 bs.length 1 (v8s bs) :: S)) := by
    intro d ty pos af g a w K hsl hm hk
    have r := Lib.run_convert_string_bytes (P := P) w s t e ⟨bs.toArray⟩ hs' hu he
    have hge := grownCap_ge w bs.length 0 e
    have hle := grownCap_le_maxLen w bs.length 0 e hl
    have hx' : ev L x = some (.string ⟨bs.toArray⟩) := hx
    have hsz : (⟨bs.toArray⟩ : ByteArray).size = bs.length := rfl
    unfold Oper.wp
    have hrun : (execOp a.eval ⟨d, .convert s t x, ty, pos, af, g⟩).run P w = .ok (.value (.slice (some ⟨w.heap.size, 0, none⟩) bs.length (grownCap w bs.length 0 e))) (Lib.bytesWorld w e ⟨bs.toArray⟩) := by
      simp only [execOp, hsl.eval hx']
      simp only [Sem.run_bind, r]; rfl
    rw [hrun]
    have hb : Below w.heap.size w (Lib.bytesWorld w e ⟨bs.toArray⟩) := by
      refine ⟨rfl, rfl, rfl, ?_, fun k hk => ?_⟩
      · rw [Lib.bytesWorld_size]; omega
      · exact Lib.bytesWorld_at_old w e _ k hk
    have hsv : SV (.slice (some ⟨w.heap.size, 0, none⟩) bs.length (grownCap w bs.length 0 e)) bs.length := ⟨_, _, rfl, hge, hle, fun h => by cases h⟩
    have hn : New w.heap.size [] [Go.PL.seen (.slice (some ⟨w.heap.size, 0, none⟩) bs.length (grownCap w bs.length 0 e)) bs.length 1 (v8s bs)] (Lib.bytesWorld w e ⟨bs.toArray⟩) := by
      refine ⟨zz40, zz40, zz40, fun f hf => ?_⟩
      rw [List.mem_singleton] at hf
      subst hf
      refine ⟨by rw [v8s_length]; simp, _, _, rfl, hge, hle, .inr ⟨_, rfl, fun j u hj => ?_⟩⟩
      have hj2 : j < bs.length := by
        have := (List.getElem?_eq_some_iff.1 hj).1
        rwa [v8s_length] at this
      rw [v8s_get (xs := bs) (i := j) hj2] at hj
      have hc := Lib.bytesWorld_cell w e ⟨bs.toArray⟩ j hj2
      have ea : (⟨w.heap.size, 0, none⟩ : Addr).add j = ⟨w.heap.size, j, none⟩ := by rw [add_lit, Nat.zero_add]
      rw [ea]
      simp only [rdF]
      rw [if_pos ⟨Nat.le_refl _, rfl⟩, hc, ← hj]
    exact hk ⟨_, hsv⟩ _ (hm.call hb hn)
  exact h.rep fun x w h => ⟨x.1, x.2, rfl, h⟩
end
theorem same_stepB (xs ys : List UInt8) (i : Nat) (h : xs.take i = ys.take i) (hx : i < xs.length) (hy : i < ys.length) (he : xs.getD i 0 = ys.getD i 0) : xs.take (i + 1) = ys.take (i + 1) := by
  rw [take_succD 0 hx, take_succD 0 hy, h, he]
theorem sameB (av : Value) (xs : List UInt8) (bv : Value) (ys : List UInt8) (w : World) (hav : Seen w.cell? av xs.length 1 (v8s xs)) (hbv : Seen w.cell? bv ys.length 1 (v8s ys))  :
    Calls Tryd.prog 21 [av, bv].toArray w (Pur w (.bool (decide (xs = ys)))) := by
  have sav := hav.sv
  have lav := sav.le
  simp only [maxLen] at lav
  have sbv := hbv.sv
  have lbv := sbv.le
  simp only [maxLen] at lbv
  refine enter (m := 26) (R := Mem w [] [] []) Tryd.func21 rfl rfl (Nat.le_of_ble_eq_true rfl) (Mem.start w) ?_
  refine wpc_seq <| wpc_region <| wpl_q (q_pure rfl) rfl <| wpl_nil <| ex_then <| wpc_seq <| wpc_seq <| wpc_region <| wpl_q (q_pure rfl) rfl ?_
  refine wpl_q (q_lenW Tryd.underlying34 rfl zz3) rfl ?_
  refine wpl_q (q_pure rfl) rfl ?_
  refine wpl_q (q_lenW Tryd.underlying34 rfl zz3) rfl ?_
  refine wpl_q (q_pure rfl) rfl <| wpl_nil <| ex_then ?_
  refine wpc_cond rfl (fun hc10 => ?_) (fun hc10 => ?_)
  ·
   simp only [decide_eq_true_eq, bne_iff_ne, ne_eq] at hc10
   have hne : xs ≠ ys := fun e => hc10 (by rw [e])
   refine wpc_seq <| wpc_region <| wpl_q (q_pure rfl) rfl <| wpl_nil <| ex_then <| wpc_ret ?_
   refine ex_then_ret ?_
   refine ret1 (.inl rfl) rfl rfl ?_
   exact fun w h => ⟨by simp [hne], h.below⟩
  ·
   simp only [bne_eq_false_iff_eq] at hc10
   have hl : xs.length = ys.length := by omega
   refine wpc_skip <| ex_then <| wpc_seq <| wpc_seq <| wpc_region <| wpl_q (q_pure rfl) rfl <| wpl_nil <| ex_then <| wpc_block ?_
   refine wpc_loopc (ι := { x : Nat // (x ≤ xs.length) ∧ (xs.take x = ys.take x) }) [(0, _), (1, _)] (fun x Lc => (5, .int .i64 ((x.1 : Nat) : Int)) :: Lc) (fun x => Mem w [] [] []) (fun x => xs.length - x.1) ⟨0, ⟨Nat.zero_le _, rfl⟩⟩ zz9 ?_ ?_
   ·
    exact fun w h => h
   ·
    rintro ⟨i, ⟨hi0, hi1⟩⟩; try dsimp only
    have hi0 : i ≤ xs.length := hi0; have hi1 : xs.take i = ys.take i := hi1
    refine wpc_seq <| wpc_seq <| wpc_region <| wpl_q (q_pure rfl) rfl <| wpl_q (q_pure rfl) rfl ?_
    refine wpl_q (q_lenW Tryd.underlying34 rfl zz3) rfl ?_
    refine wpl_q (q_pure rfl) rfl <| wpl_nil <| ex_then ?_
    refine wpc_cond rfl (fun hc14 => ?_) (fun hc14 => ?_)
    ·
     try simp only [decide_eq_true_eq, decide_eq_false_iff_not, Bool.and_eq_true, Bool.or_eq_true, beq_iff_eq, bne_iff_ne, ne_eq, Bool.not_eq_true', Bool.not_eq_false', Decidable.not_not] at hc14
     refine wpc_skip <| ex_then <| wpc_seq <| wpc_block <| wpc_seq ?_
     refine wpc_draw 9 zz7 (fun _ h => h.drew) ?_
     refine wpd_p 0 rfl zz7 trivial (q_pure rfl) rfl sk0 ?_
     refine wpd_p 1 rfl zz7 trivial (q_pure rfl) rfl sk0 ?_
     refine wpd_p 2 rfl zz7 trivial (q_idxW1 Tryd.underlying34 Tryd.ti5 rfl rfl zz3 zz1) rfl sk0 ?_
     refine wpd_q 3 rfl zz7 trivial (q_ldW Tryd.underlying5 rfl rfl (fun w h => zz14) zz34) rfl (fun _ h => h) ?_
     refine wpd_p 4 rfl zz7 trivial (q_pure rfl) rfl sk0 ?_
     refine wpd_p 5 rfl zz7 trivial (q_pure rfl) rfl sk0 ?_
     refine wpd_p 6 rfl zz7 trivial (q_idxW1 Tryd.underlying34 Tryd.ti5 rfl rfl zz3 zz1) rfl sk0 ?_
     refine wpd_q 7 rfl zz7 trivial (q_ldW Tryd.underlying5 rfl rfl (fun w h => zz14) zz34) rfl (fun _ h => h) ?_
     refine wpd_p 8 rfl zz7 trivial (q8_neq rfl rfl) rfl sk0 ?_
     refine wpd_done zz7 ?_
     refine ex_then ?_
     refine wpc_cond rfl (fun hc25 => ?_) (fun hc25 => ?_)
     ·
      simp only [Bool.not_eq_true', decide_eq_false_iff_not] at hc25
      have hne : xs ≠ ys := fun e => hc25 (by rw [e])
      refine wpc_seq <| wpc_region <| wpl_q (q_pure rfl) rfl <| wpl_nil <| ex_then <| wpc_ret ?_
      refine ex_block_ret ?_
      refine ex_then_ret ?_
      refine ex_then_ret ?_
      refine ex_block_ret ?_
      refine ex_then_ret ?_
      refine ret1 (.inl rfl) rfl rfl ?_
      exact fun w h => ⟨by simp [hne], h.below⟩
     ·
      simp only [Bool.not_eq_false', decide_eq_true_eq] at hc25
      refine wpc_skip <| ex_block <| ex_then <| wpc_region <| wpl_q (q_pure rfl) rfl ?_
      refine wpl_q (q_addN (b := 1) rfl rfl zz1) rfl ?_
      refine wpl_q (q_pure rfl) rfl <| wpl_nil ?_
      refine ex_again ⟨i + 1, ⟨zz12, same_stepB xs ys i hi1 zz12 zz12 hc25⟩⟩ ?_ ?_ ?_
      ·
       exact zz9
      ·
       exact fun w h => by first | exact h | exact h.sub SubC.h SubC.h | exact h.sub zz8 zz8
      ·
       (show xs.length - (i + 1) < xs.length - i); omega
    ·
     simp only [decide_eq_false_iff_not] at hc14
     obtain rfl : i = xs.length := by omega
     have heq : xs = ys := by rw [List.take_length, hl, List.take_length] at hi1; exact hi1
     refine wpc_exit ?_
     refine ex_then_exit ?_
     refine ex_then_exit ?_
     refine ex_block_hit ?_
     refine ex_then <| wpc_seq <| wpc_region <| wpl_q (q_pure rfl) rfl <| wpl_nil <| ex_then <| wpc_ret ?_
     refine ret1 (.inl rfl) rfl rfl ?_
     exact fun w h => ⟨by simp [heq], h.below⟩
end Go.Proofs.YtgnablliekgbgaaDoor
namespace Go.Proofs.YtgnablliekgbgaaDoor
open Go Go.PL Go.RowKit
theorem clNil {r : Rd} {a : Option Addr} {cap m sz : Nat} {vs : List Value} (h : Seen r (.slice a m cap) m sz vs) (hn : a.isNone = true) : m = 0 := by
  obtain ⟨h1, h2, h3⟩ := h.cap
  have := h3 (Option.isNone_iff_eq_none.1 hn)
  omega
theorem sm_len {tg : UInt8} {bv lv : Value} {bs : List UInt8} {l : List HT} (h : Sm (HT.nd tg bv bs lv l).tr) : l.length ≤ 200000 ∧ bs.length ≤ 1000000 := by
  have h1 := cntL_len (trs l)
  rw [trs_length] at h1
  have h : bs.length + bytL (trs l) + 5 * (1 + cntL (trs l)) ≤ 1000000 := h
  omega
theorem tw_get {ns l : List HT} {i : Nat} (hn : ns.length = i) (hi : i < l.length) : (ns ++ l.drop i).getD i HT.z = l.getD i HT.z := by
  rw [List.getD_eq_getElem?_getD, List.getElem?_append_right zz12, hn, Nat.sub_self, List.getElem?_drop, Nat.add_zero, List.getD_eq_getElem?_getD]
theorem tw_put {ns l : List HT} {i : Nat} (hn : ns.length = i) (hi : i < l.length) (y : HT) : (hcs (ns ++ l.drop i)).take (i * 3) ++ y.c ++ (hcs (ns ++ l.drop i)).drop (i * 3 + y.c.length) = hcs (ns ++ [y] ++ l.drop (i + 1)) := by
  rw [cat_put HT.c_length y (by rw [List.length_append, List.length_drop]; omega)]
  congr 2
  rw [List.set_append_right _ _ zz12, hn, Nat.sub_self, drop_consD HT.z hi, List.set_cons_zero, List.append_assoc]; rfl
theorem entsL_snoc (ns : List HT) (y : HT) : (y.ents ++ entsL ns).Perm (entsL (ns ++ [y])) := by
  rw [entsL_append]
  show (y.ents ++ entsL ns).Perm (entsL ns ++ (y.ents ++ []))
  rw [List.append_nil]; exact List.perm_append_comm
theorem snoc_len (ns : List HT) (y : HT) : (ns ++ [y]).length = ns.length + 1 := by rw [List.length_append]; rfl
theorem oneH {t : UInt8} {bv lv : Value} {n m : Nat} (h : SV bv n) (h2 : SV lv m) : OneC [Value.int .u8 (t.toNat : Int), bv, lv] := OneC.cons rfl (OneC.cons h.one (OneC.cons h2.one oneC_nil))
theorem built_o1 (t : UInt8) {v : Value} {n : Nat} (hv : SV v n) : Tryd.prog.built 61 [(0, .int .u8 (t.toNat : Int)), (1, v)] = some [Value.int .u8 (t.toNat : Int), v, nl].toArray := by
  obtain ⟨a, cap, rfl, _⟩ := hv
  kernel_rfl
theorem built_o2 (t : UInt8) {v : Value} {n : Nat} (hv : SV v n) : Tryd.prog.built 61 [(0, .int .u8 (t.toNat : Int)), (2, v)] = some [Value.int .u8 (t.toNat : Int), nl, v].toArray := by
  obtain ⟨a, cap, rfl, _⟩ := hv
  kernel_rfl
theorem built_o0 (t : UInt8) : Tryd.prog.built 61 [(0, .int .u8 (t.toNat : Int))] = some [Value.int .u8 (t.toNat : Int), nl, nl].toArray := by kernel_rfl
theorem built_oz : Tryd.prog.built 61 [] = some [Value.int .u8 0, nl, nl].toArray := by kernel_rfl
theorem madeT {w0 w : World} {S : List Fact} {tg : UInt8} {bv lv : Value} {bs : List UInt8} {l : List HT} (h : Mem w0 [] (.row bv bs.length 5 1 (v8s bs) :: .row lv l.length 61 3 (hcs l) :: entsL l) S w) : New w0.heap.size (HT.nd tg bv bs lv l).ents [] w := h.made (Sub.refl _) .nil
theorem hcs_one {l : List HT} (h : ∀ x ∈ l, x.sv) : ∀ u ∈ hcs l, u.oneCell' = true := by
  intro u hu
  obtain ⟨cs, hc, hu⟩ := List.mem_flatten.1 hu
  obtain ⟨x, hx, rfl⟩ := List.mem_map.1 hc
  exact (h x hx).one.h u hu
theorem HSeenL.sv {r : Rd} {l : List HT} (h : HSeenL r l) : ∀ x ∈ l, x.sv := fun x hx => (HSeenL_iff.1 h x hx).sv
theorem cloneB0 (a : Option Addr) (cap : Nat) (xs : List UInt8) (w : World) (hav : Seen w.cell? (.slice a xs.length cap) xs.length 1 (v8s xs)) (hl : xs.length ≤ 1000000) :
    Calls Tryd.prog 73 [.slice a xs.length cap].toArray w (GivesP w (fun v => SV v xs.length) (fun v => v) (fun v => [.row v xs.length 5 1 (v8s xs)]) (fun _ => [])) := by
  have sav := hav.sv
  refine enter (m := 8) (R := Mem w [] [] []) Tryd.func73 rfl rfl (Nat.le_of_ble_eq_true rfl) (Mem.start w) ?_
  refine wpc_seq <| wpc_region <| wpl_q (q_pure rfl) rfl <| wpl_nil <| ex_then <| wpc_seq <| wpc_seq <| wpc_region <| wpl_q (q_pure rfl) rfl ?_
  refine wpl_q (q_slNil Tryd.underlying34 rfl rfl zz7) rfl ?_
  refine wpl_nil <| ex_then ?_
  refine wpc_cond rfl (fun hc4 => ?_) (fun hc4 => ?_)
  ·
   have h0 := clNil hav hc4
   have hx0 := List.eq_nil_of_length_eq_zero h0
   subst hx0
   refine wpc_seq <| wpc_region <| wpl_q (q_pure rfl) rfl <| wpl_nil <| ex_then <| wpc_ret ?_
   refine ex_then_ret ?_
   refine ret1 (.inl rfl) rfl rfl ?_
   exact fun w h => ⟨.slice none 0 0, SV.nil, rfl, h.below, (h.nilRow 5 1).made zz8 .nil⟩
  ·
   refine wpc_skip <| ex_then <| wpc_seq <| wpc_region ?_
   refine wpl_tp (t_bs0W Tryd.underlying34 Tryd.ti5) rfl (fun b5 p5 => ?_)
   refine wpl_q (q_pure rfl) rfl ?_
   refine wpl_tp (t_ap0 Tryd.underlying34 Tryd.ti5 rfl zz19 rfl rfl (fun w h => h.seen_old hav) (v8s_one _) zz1 zz1) rfl (fun b7 p7 => ?_)
   refine wpl_q (q_pure rfl) rfl <| wpl_nil <| ex_then <| wpc_ret ?_
   refine ret1 (.inl rfl) rfl rfl ?_
   exact fun w h => ⟨b7, p7, rfl, h.below, h.made SubC.h .nil⟩
theorem cloneO0 (a : Option Addr) (cap : Nat) (l : List HT) (w : World) (hav : Seen w.cell? (.slice a l.length cap) l.length 3 (hcs l)) (hl : l.length ≤ 200000) (ho : ∀ x ∈ l, x.sv) :
    Calls Tryd.prog 74 [.slice a l.length cap].toArray w (GivesP w (fun v => SV v l.length) (fun v => v) (fun v => [.row v l.length 61 3 (hcs l)]) (fun _ => [])) := by
  have sav := hav.sv
  refine enter (m := 8) (R := Mem w [] [] []) Tryd.func74 rfl rfl (Nat.le_of_ble_eq_true rfl) (Mem.start w) ?_
  refine wpc_seq <| wpc_region <| wpl_q (q_pure rfl) rfl <| wpl_nil <| ex_then <| wpc_seq <| wpc_seq <| wpc_region <| wpl_q (q_pure rfl) rfl ?_
  refine wpl_q (q_slNil Tryd.underlying59 rfl rfl zz7) rfl ?_
  refine wpl_nil <| ex_then ?_
  refine wpc_cond rfl (fun hc4 => ?_) (fun hc4 => ?_)
  ·
   have h0 := clNil hav hc4
   have hx0 := List.eq_nil_of_length_eq_zero h0
   subst hx0
   refine wpc_seq <| wpc_region <| wpl_q (q_pure rfl) rfl <| wpl_nil <| ex_then <| wpc_ret ?_
   refine ex_then_ret ?_
   refine ret1 (.inl rfl) rfl rfl ?_
   exact fun w h => ⟨.slice none 0 0, SV.nil, rfl, h.below, (h.nilRow 61 3).made zz8 .nil⟩
  ·
   refine wpc_skip <| ex_then <| wpc_seq <| wpc_region ?_
   refine wpl_tp (t_bs0W Tryd.underlying59 Tryd.ti61) rfl (fun b5 p5 => ?_)
   refine wpl_q (q_pure rfl) rfl ?_
   refine wpl_tp (t_ap0 Tryd.underlying59 Tryd.ti61 rfl zz19 rfl rfl (fun w h => h.seen_old hav) (hcs_one ho) zz1 zz1) rfl (fun b7 p7 => ?_)
   refine wpl_q (q_pure rfl) rfl <| wpl_nil <| ex_then <| wpc_ret ?_
   refine ret1 (.inl rfl) rfl rfl ?_
   exact fun w h => ⟨b7, p7, rfl, h.below, h.made SubC.h .nil⟩
theorem cloneB (v : Value) (xs : List UInt8) (w : World) (h : Seen w.cell? v xs.length 1 (v8s xs)) (hl : xs.length ≤ 1000000) : Calls Tryd.prog 73 [v].toArray w (GivesP w (fun v => SV v xs.length) (fun v => v) (fun v => [.row v xs.length 5 1 (v8s xs)]) (fun _ => [])) := by
  obtain ⟨a, cap, rfl, _⟩ := h.sv
  exact cloneB0 a cap xs w h hl
theorem cloneO (v : Value) (l : List HT) (w : World) (h : Seen w.cell? v l.length 3 (hcs l)) (hl : l.length ≤ 200000) (ho : ∀ x ∈ l, x.sv) : Calls Tryd.prog 74 [v].toArray w (GivesP w (fun v => SV v l.length) (fun v => v) (fun v => [.row v l.length 61 3 (hcs l)]) (fun _ => [])) := by
  obtain ⟨a, cap, rfl, _⟩ := h.sv
  exact cloneO0 a cap l w h hl ho
theorem octTwin_step (t : HT) (w : World) (ht : HSeen w.cell? t) (hsm : Sm t.tr) (ih : ∀ x ∈ t.kids, ∀ (w : World), HSeen w.cell? x → Sm x.tr → Calls Tryd.prog 45 [.agg x.c.toArray].toArray w (GivesP w (fun y : HT => y.tr = x.tr ∧ y.sv) (fun y => .agg y.c.toArray) (fun y => y.ents) (fun _ => []))) :
    Calls Tryd.prog 45 [.agg t.c.toArray].toArray w (GivesP w (fun y : HT => y.tr = t.tr ∧ y.sv) (fun y => .agg y.c.toArray) (fun y => y.ents) (fun _ => [])) := by
  obtain ⟨tg, bv, bs, lv, l⟩ := t
  have hb := ht.1
  have hk := ht.2.1
  have svb := hb.sv
  have svl := hk.sv
  have lb := svb.le
  have ll := svl.le
  simp only [maxLen] at lb ll
  have hln := sm_len hsm
  refine enter (m := 29) (R := Mem w [] [] []) Tryd.func45 rfl rfl (Nat.le_of_ble_eq_true rfl) (Mem.start w) ?_
  refine wpc_seq <| wpc_region ?_
  refine wpl_t (t_box rfl [.int .u8 (tg.toNat : Int), bv, lv] rfl) rfl (fun b1 => ?_)
  refine wpl_t (t_alloc Tryd.ti61 [.int .u8 0, nl, nl] rfl) rfl (fun b2 => ?_)
  refine wpl_nil <| ex_then ?_
  refine wpc_cutc ({ x : Nat × Nat × Value × Value // (SV x.2.2.1 bs.length) ∧ (SV x.2.2.2 l.length) }) [] (fun x Lc => (1, .pointer (some ⟨x.1.1, 0, none⟩)) :: (2, .pointer (some ⟨x.1.2.1, 0, none⟩)) :: Lc) (fun x => Mem w [] [.blk x.1.1 61 [.int .u8 (tg.toNat : Int), x.1.2.2.1, x.1.2.2.2], .blk x.1.2.1 61 [.int .u8 0, nl, nl], .row x.1.2.2.1 bs.length 5 1 (v8s bs), .row x.1.2.2.2 l.length 61 3 (hcs l)] []) ?_ ?_
  ·
   refine wpc_draw 7 zz7 (fun _ h => h.drew) ?_
   refine wpd_p 0 rfl zz7 trivial (q_field Tryd.underlying61 rfl Tryd.ti34 rfl rfl _ rfl) rfl sk0 ?_
   refine wpd_q 1 rfl zz7 trivial (q_ld Tryd.underlying34 rfl rfl rfl) rfl (fun _ h => h) ?_
   refine wpd_p 3 rfl zz7 trivial (q_field Tryd.underlying61 rfl Tryd.ti59 rfl rfl _ rfl) rfl sk0 ?_
   refine wpd_q 4 rfl zz7 trivial (q_ld Tryd.underlying59 rfl rfl rfl) rfl (fun _ h => h) ?_
   refine wpd_tp 2 rfl zz7 trivial (t_callP1 Tryd.hb73 rfl fun w h => cloneB _ bs w (h.seen_old hb) hln.2) rfl (fun _ => (fun w h => .inr (h.sub SubC.h SubC.h))) (fun b7 p7 => ?_)
   refine wpd_p 6 rfl zz7 trivial (q_field Tryd.underlying61 rfl Tryd.ti34 rfl rfl _ rfl) rfl (fun w h => .inr (h.sub SubC.h SubC.h)) ?_
   refine wpd_tp 5 rfl zz7 trivial (t_callP1 Tryd.hb74 rfl fun w h => cloneO _ l w (h.seen_old hk) hln.1 ht.2.2.sv) rfl (fun _ => (fun w h => .inr (h.sub SubC.h SubC.h))) (fun b10 p10 => ?_)
   refine wpd_t0 7 rfl zz7 trivial (t_st1 Tryd.ti34 rfl rfl (SV.one zz3) zz6 [.int .u8 (tg.toNat : Int), b7, lv] rfl) (fun _ => skk rfl) (fun _ => ?_)
   refine wpd_p 8 rfl zz7 trivial (q_field Tryd.underlying61 rfl Tryd.ti59 rfl rfl _ rfl) rfl (skk rfl) ?_
   refine wpd_t0 9 rfl zz7 trivial (t_st1 Tryd.ti59 rfl rfl (SV.one zz3) zz6 [.int .u8 (tg.toNat : Int), b7, b10] rfl) (fun _ => skk rfl) (fun _ => ?_)
   refine wpd_done zz7 ?_
   refine ex_mid ⟨(b1, b2, b7, b10), ⟨p7, p10⟩⟩ ?_ ?_
   ·
    exact zz9
   ·
    exact fun w h => by dsimp only; exact h.sel
  ·
   rintro ⟨⟨b1, b2, nb, nv⟩, ⟨hi0, hi1⟩⟩; try dsimp only
   have hi0 : SV nb bs.length := hi0; have hi1 : SV nv l.length := hi1
   have snb : SV nb bs.length := hi0
   have snv : SV nv l.length := hi1
   haveI := oneH (t := tg) snb snv
   refine wpc_seq <| wpc_seq <| wpc_region <| wpl_q (q_field Tryd.underlying61 rfl Tryd.ti59 rfl rfl _ rfl) rfl <| wpl_q (q_ld Tryd.underlying59 rfl rfl rfl) rfl ?_
   refine wpl_q (q_lenW Tryd.underlying59 rfl zz3) rfl ?_
   refine wpl_q (q_pure rfl) rfl <| wpl_nil <| ex_then <| wpc_block ?_
   refine wpc_loopc (ι := { x : Nat × List HT // (x.1 ≤ l.length) ∧ (x.2.length = x.1) ∧ (trs x.2 = trs (l.take x.1)) }) [(1, _), (2, _), (14, _), (15, _)] (fun x Lc => (16, .int .i64 ((x.1.1 : Nat) : Int)) :: Lc) (fun x => Mem w [] (.blk b1 61 [.int .u8 (tg.toNat : Int), nb, nv] :: .blk b2 61 [.int .u8 0, nl, nl] :: .row nb bs.length 5 1 (v8s bs) :: .row nv l.length 61 3 (hcs (x.1.2 ++ l.drop x.1.1)) :: entsL x.1.2) []) (fun x => l.length - x.1.1) ⟨(0, []), ⟨Nat.zero_le _, rfl, rfl⟩⟩ zz9 ?_ ?_
   ·
    exact fun w h => h
   ·
    rintro ⟨⟨i, ns⟩, ⟨hi0, hi1, hi2⟩⟩; try dsimp only
    have hi0 : i ≤ l.length := hi0; have hi1 : ns.length = i := hi1; have hi2 : trs ns = trs (l.take i) := hi2
    refine wpc_seq <| wpc_region <| wpl_q (q_pure rfl) rfl <| wpl_nil <| ex_then <| wpc_seq ?_
    refine wpc_cond rfl (fun hc17 => ?_) (fun hc17 => ?_)
    ·
     simp only [decide_eq_true_eq] at hc17
     have hil : i < l.length := by omega
     haveI := (ht.kid hil).sv.one
     have hin : i < (ns ++ l.drop i).length := by rw [List.length_append, List.length_drop]; omega
     refine wpc_skip <| ex_then <| wpc_seq <| wpc_block <| wpc_seq <| wpc_region <| wpl_q (q_pure rfl) rfl ?_
     refine wpl_q (q_idxW Tryd.underlying59 Tryd.ti61 rfl rfl zz3 zz1) rfl ?_
     refine wpl_q (q_ldWN Tryd.underlying61 rfl Tryd.ti61 rfl (fun w h => h.seenV) (l.getD i HT.z).c (by rw [cat_part HT.c_length HT.z hin, tw_get hi1 hil]) (HT.c_length _)) rfl ?_
     refine wpl_t (t_alloc Tryd.ti61 [.int .u8 0, nl, nl] rfl) rfl (fun b4 => ?_)
     refine wpl_q (q_pure rfl) rfl ?_
     refine wpl_t0 (t_stA Tryd.ti61 rfl rfl LenC.h OneC.h LenC.h) (fun _ => ?_)
     refine wpl_nil <| ex_then ?_
     refine wpc_draw 6 zz7 (fun _ h => h.drew) ?_
     refine wpd_p 0 rfl zz7 trivial (q_field Tryd.underlying61 rfl Tryd.ti59 rfl rfl _ rfl) rfl sk0 ?_
     refine wpd_q 1 rfl zz7 trivial (q_ld Tryd.underlying59 rfl rfl rfl) rfl (fun _ h => h) ?_
     refine wpd_p 2 rfl zz7 trivial (q_pure rfl) rfl sk0 ?_
     refine wpd_q 3 rfl zz7 trivial (q_ldN Tryd.underlying61 rfl Tryd.ti61 rfl LenC.h) rfl (fun _ h => h) ?_
     refine wpd_tp 4 rfl zz7 trivial (t_callE (fun y : HT => .blk b4 61 (l.getD i HT.z).c :: .blk b1 61 [.int .u8 (tg.toNat : Int), nb, nv] :: .blk b2 61 [.int .u8 0, nl, nl] :: .row nb bs.length 5 1 (v8s bs) :: .row nv l.length 61 3 (hcs (ns ++ l.drop i)) :: (y.ents ++ entsL ns)) (fun y => List.perm_append_comm_assoc y.ents [.blk b4 61 (l.getD i HT.z).c, .blk b1 61 [.int .u8 (tg.toNat : Int), nb, nv], .blk b2 61 [.int .u8 0, nl, nl], .row nb bs.length 5 1 (v8s bs), .row nv l.length 61 3 (hcs (ns ++ l.drop i))] (entsL ns)) Tryd.hb45 rfl fun w h => ih (l.getD i HT.z) (getD_memH hil) w ((ht.kid hil).old h) (hsm.kid hil)) rfl (fun _ => (fun w h => .inr (h.sub SubC.h SubC.h))) (fun b25 p25 => ?_)
     haveI := p25.2.one
     refine wpd_p 5 rfl zz7 trivial (q_idxW Tryd.underlying59 Tryd.ti61 rfl rfl zz3 zz1) rfl (fun w h => .inr (h.sub SubC.h SubC.h)) ?_
     refine wpd_t0 6 rfl zz7 trivial (t_stWN (vs := b25.c) Tryd.ti61 rfl rfl rfl (HT.c_length _) OneC.h (by rw [HT.c_length, cat_len HT.c_length, List.length_append, List.length_drop]; omega) (by rw [cat_len HT.c_length, List.length_append, List.length_drop]; omega) (hcs (ns ++ [b25] ++ l.drop (i + 1))) (tw_put hi1 hil b25)) (fun _ => skk rfl) (fun _ => ?_)
     refine wpd_done zz7 ?_
     refine ex_block <| ex_then <| wpc_region ?_
     refine wpl_q (q_addN (b := 1) rfl rfl zz1) rfl ?_
     refine wpl_q (q_pure rfl) rfl <| wpl_nil ?_
     refine ex_again ⟨(i + 1, ns ++ [b25]), ⟨zz12, by rw [snoc_len, hi1], by rw [trs_append, hi2, trs_takeS hil, ← p25.1]; rfl⟩⟩ ?_ ?_ ?_
     ·
      exact zz9
     ·
      exact fun w h => by
        dsimp only
        have h2 := h.sub (M' := .blk b1 61 [.int .u8 (tg.toNat : Int), nb, nv] :: .blk b2 61 [.int .u8 0, nl, nl] :: .row nb bs.length 5 1 (v8s bs) :: .row nv l.length 61 3 (hcs (ns ++ [b25] ++ l.drop (i + 1))) :: (b25.ents ++ entsL ns)) (S' := []) SubC.h .nil
        exact h2.perm (((((entsL_snoc ns b25).cons _).cons _).cons _).cons _)
     ·
      (show l.length - (i + 1) < l.length - i); omega
    ·
     simp only [decide_eq_false_iff_not] at hc17
     obtain rfl : i = l.length := by omega
     rw [List.take_length] at hi2
     refine wpc_exit ?_
     refine ex_then_exit ?_
     refine ex_then_exit ?_
     refine ex_block_hit ?_
     refine ex_then <| wpc_seq <| wpc_region <| wpl_q (q_ldN Tryd.underlying61 rfl Tryd.ti61 rfl LenC.h) rfl ?_
     refine wpl_t0 (t_stA Tryd.ti61 rfl rfl LenC.h OneC.h LenC.h) (fun _ => ?_)
     refine wpl_nil <| ex_then <| wpc_ret ?_
     refine retv1 (.inl rfl) rfl (rv_agg Tryd.underlying61 rfl Tryd.ti61 rfl (fun w h => h.atB) rfl) ?_
     exact fun w h => ⟨.nd tg nb bs nv ns, ⟨by show Tr.nd tg bs (trs ns) = Tr.nd tg bs (trs l); rw [hi2], snb, by rw [hi1]; exact snv⟩, rfl, h.below, by rw [List.drop_length, List.append_nil, ← hi1] at h; exact madeT (h.sub SubC.h .nil)⟩
theorem octTwin : ∀ (t : HT) (w : World), HSeen w.cell? t → Sm t.tr → Calls Tryd.prog 45 [.agg t.c.toArray].toArray w (GivesP w (fun y : HT => y.tr = t.tr ∧ y.sv) (fun y => .agg y.c.toArray) (fun y => y.ents) (fun _ => [])) := by
  intro t
  induction t using HT.ind with
  | _ tg bv bs lv l ih => intro w h hs; exact octTwin_step _ w h hs (fun x hx w hx' hs' => ih x hx w hx' hs')
end Go.Proofs.YtgnablliekgbgaaDoor
namespace Go.Proofs.YtgnablliekgbgaaDoor
open Go Go.PL Go.RowKit
section
variable {P : Program} {n : Cx} {R : World → Prop} {L : Slots}
end
theorem of8_mod (n : Nat) : of8 (((n % 256 : Nat) : Nat) : Int) = of8 ((n : Nat) : Int) := by
  apply UInt8.toNat_inj.1
  have h1 := of8_toNat ((n % 256 : Nat) : Int)
  have h2 := of8_toNat ((n : Nat) : Int)
  omega
def numK : Nat → Nat → List UInt8
  | 0, _ => []
  | k + 1, n => numK k (n / 256) ++ [of8 ((n % 256 : Nat) : Int)]
theorem numK_len : ∀ (k n : Nat), (numK k n).length = k
  | 0, _ => rfl
  | k + 1, n => by rw [numK, List.length_append, numK_len k]; rfl
def kB (n : Nat) : Nat := (lenF n + 7) / 8
def numB (n : Nat) : List UInt8 := numK (kB n) n
theorem kB_step {n : Nat} (h : n ≠ 0) : kB n = kB (n / 256) + 1 := by
  unfold kB
  by_cases h2 : 256 ≤ n
  · rw [lenF_shift 8 n h2]
    show (8 + lenF (n / 256) + 7) / 8 = _
    omega
  · have h1 := lenF_le (m := 8) (n := n) zz12
    have h3 := lenF_step h
    have e : n / 256 = 0 := by omega
    rw [e]
    show _ = 0 + 1
    omega
theorem numB_step {n : Nat} (h : n ≠ 0) : numB n = numB (n / 256) ++ [of8 ((n % 256 : Nat) : Int)] := by
  unfold numB
  rw [kB_step h]; rfl
theorem kB_le {n : Nat} (h : n < 2 ^ 64) : kB n ≤ 8 := by
  have := lenF_le h
  unfold kB; omega
theorem numB_len {n : Nat} (h : n < 2 ^ 64) : (numB n).length ≤ 8 := by rw [numB, numK_len]; exact kB_le h
theorem div_pow (n i : Nat) : n / 2 ^ (8 * (i + 1)) = n / 2 ^ (8 * i) / 256 := by
  rw [Nat.div_div_eq_div_mul, show 8 * (i + 1) = 8 * i + 8 from zz12, Nat.pow_add]
theorem num_step (n k s : Nat) (hs : 1 ≤ s) (hk : s ≤ k) : numK (k - (s - 1)) (n / 2 ^ (8 * (s - 1))) = numK (k - s) (n / 2 ^ (8 * s)) ++ [of8 ((n / 2 ^ (8 * (s - 1)) : Nat) : Int)] := by
  obtain ⟨m, rfl⟩ : ∃ m, s = m + 1 := ⟨s - 1, zz12⟩
  rw [show k - (m + 1 - 1) = (k - (m + 1)) + 1 from zz12, numK, Nat.add_sub_cancel, ← div_pow]
  congr 2
  exact of8_mod _
theorem numK_all (n : Nat) : numK (kB n - kB n) (n / 2 ^ (8 * kB n)) = [] := by rw [Nat.sub_self]; rfl
theorem seen_nil (r : Rd) (t : TypeId) (sz : Nat) : Seen r (.slice none 0 0) 0 sz [] := ⟨zz40, none, 0, rfl, Nat.le_refl _, zz19, .inl ⟨rfl, rfl⟩⟩
theorem made_str {w0 w : World} {M : List Ent} {S : List Fact} {tg : UInt8} {b : Value} {bs : List UInt8} (h : Mem w0 [] M (Go.PL.seen b bs.length 1 (v8s bs) :: S) w) : New w0.heap.size [] [Go.Proofs.YtgnablliekgbgaaDoor.hseen (.nd tg b bs nl [])] w :=
  (h.imp (T := [Go.Proofs.YtgnablliekgbgaaDoor.hseen (.nd tg b bs nl [])]) fun r hs f hf => by
    rw [List.mem_singleton] at hf; subst hf
    exact ⟨hs _ (List.mem_cons_self ..), seen_nil _ 61 3, trivial⟩).made .nil (Sub.refl _)
theorem octNum (tg : UInt8) (z : UInt64) (w : World)   :
    Calls Tryd.prog 24 [.int .u8 tg.toNat, .int .u64 z.toNat].toArray w (GivesP w (fun y : HT => y.tr = Tr.nd tg (numB z.toNat) [] ∧ y.sv) (fun y => .agg y.c.toArray) (fun y => y.ents) (fun _ => [])) := by
  have hkx := kB_le z.toNat_lt
  have hlx := lenF_le (m := 64) z.toNat_lt
  have hkd : (lenF z.toNat + 7) / 8 = kB z.toNat := rfl
  refine enter (m := 29) (R := Mem w [] [] []) Tryd.func24 rfl rfl (Nat.le_of_ble_eq_true rfl) (Mem.start w) ?_
  refine wpc_seq <| wpc_region ?_
  refine wpl_t (t_alloc Tryd.ti61 [.int .u8 0, nl, nl] rfl) rfl (fun b4 => ?_)
  refine wpl_nil <| ex_then <| wpc_seq <| wpc_region <| wpl_q (q_pure rfl) rfl ?_
  refine wpl_q (q_build (cs := [.int .u8 (tg.toNat : Int), nl, nl]) rfl (built_o0 tg)) rfl ?_
  refine wpl_t (t_alloc Tryd.ti61 [.int .u8 0, nl, nl] rfl) rfl (fun b5 => ?_)
  refine wpl_t0 (t_stA Tryd.ti61 rfl rfl LenC.h OneC.h LenC.h) (fun _ => ?_)
  refine wpl_nil <| ex_then <| wpc_seq <| wpc_seq <| wpc_region <| wpl_q (q_pure rfl) rfl ?_
  refine wpl_t (t_pur (v := .int .i64 ((lenF z.toNat : Nat) : Int)) Tryd.hb46 rfl fun w h => len64 z w) rfl (fun b10 => ?_)
  refine wpl_q (q_addN (b := 7) rfl rfl zz1) rfl ?_
  refine wpl_q (q_quoN (b := 8) rfl rfl zz24 zz1) rfl ?_
  refine wpl_q (q_pure rfl) rfl <| wpl_nil <| ex_then <| wpc_block ?_
  refine wpc_loopc (ι := { x : Nat × Value // (x.1 ≤ kB z.toNat) ∧ (SV x.2 (kB z.toNat - x.1)) }) [(1, _), (4, _), (5, _)] (fun x Lc => (6, .int .i64 ((x.1.1 : Nat) : Int)) :: Lc) (fun x => Mem w [] [.blk b4 61 [.int .u8 0, nl, nl], .blk b5 61 [.int .u8 (tg.toNat : Int), x.1.2, nl], .row x.1.2 (kB z.toNat - x.1.1) 5 1 (v8s (numK (kB z.toNat - x.1.1) (z.toNat / 2 ^ (8 * x.1.1))))] []) (fun x => x.1.1) ⟨(kB z.toNat, nl), ⟨Nat.le_refl _, by rw [Nat.sub_self]; exact SV.nil⟩⟩ zz9 ?_ ?_
  ·
   exact fun w h => by
     dsimp only
     rw [numK_all, Nat.sub_self]
     have h2 : Mem _ _ [.blk b4 61 [.int .u8 0, nl, nl], .blk b5 61 [.int .u8 (tg.toNat : Int), nl, nl], .row nl 0 5 1 []] [] w := (h.nilRow 5 1).sel
     exact h2
  ·
   rintro ⟨⟨s, nb⟩, ⟨hi0, hi1⟩⟩; try dsimp only
   have hi0 : s ≤ kB z.toNat := hi0; have hi1 : SV nb (kB z.toNat - s) := hi1
   refine wpc_seq <| wpc_seq <| wpc_region <| wpl_q (q_pure rfl) rfl <| wpl_q (q_pure rfl) rfl <| wpl_nil <| ex_then ?_
   refine wpc_cond rfl (fun hc14 => ?_) (fun hc14 => ?_)
   ·
    simp only [decide_eq_true_eq] at hc14
    have hs1 : 1 ≤ s := by omega
    refine wpc_skip <| ex_then <| wpc_seq <| wpc_block ?_
    refine wpc_draw 9 zz7 (fun _ h => h.drew) ?_
    refine wpd_p 0 rfl zz7 trivial (q_field Tryd.underlying61 rfl Tryd.ti34 rfl rfl _ rfl) rfl sk0 ?_
    refine wpd_q 1 rfl zz7 trivial (q_ld Tryd.underlying34 rfl rfl rfl) rfl (fun _ h => h) ?_
    refine wpd_p 2 rfl zz7 trivial (q_pure rfl) rfl sk0 ?_
    refine wpd_p 3 rfl zz7 trivial (q_pure rfl) rfl sk0 ?_
    refine wpd_p 4 rfl zz7 trivial (q_subN (b := 1) rfl rfl zz12 zz1) rfl sk0 ?_
    refine wpd_p 5 rfl zz7 trivial (q_mulN (a := 8) rfl rfl zz1) rfl sk0 ?_
    refine wpd_p 6 rfl zz7 trivial (q64_shr rfl rfl zz24 _ rfl) rfl sk0 ?_
    refine wpd_p 7 rfl zz7 trivial (q8_conv Tryd.underlying23 Tryd.underlying5 rfl) rfl sk0 ?_
    refine wpd_tp 8 rfl zz7 trivial (t_bsV (v8s [_]) Tryd.underlying34 Tryd.ti5 rfl rfl zz19 zz19 rfl (v8s_one _)) rfl (fun _ => (fun w h => .inr (h.sub SubC.h SubC.h))) (fun b25 p25 => ?_)
    refine wpd_tp 9 rfl zz7 trivial (t_apW Tryd.underlying34 Tryd.ti5 rfl zz19 rfl rfl (fun w h => zz14) OneC.h zz1 zz1 (v8s (numK (kB z.toNat - (s - 1)) (z.toNat / 2 ^ (8 * (s - 1))))) (by rw [← v8s_append, num_step _ _ s hs1 hi0]; congr 3; exact congrArg (fun n : Nat => of8 (n : Int)) (sr64_nat z (8 * (s - 1)) zz12))) rfl (fun _ => skk rfl) (fun b26 p26 => ?_)
    refine wpd_p 10 rfl zz7 trivial (q_field Tryd.underlying61 rfl Tryd.ti34 rfl rfl _ rfl) rfl (skk rfl) ?_
    refine wpd_t0 11 rfl zz7 trivial (t_st1 Tryd.ti34 rfl rfl (SV.one zz3) zz6 [.int .u8 (tg.toNat : Int), b26, nl] rfl) (fun _ => skk rfl) (fun _ => ?_)
    refine wpd_done zz7 ?_
    refine ex_block <| ex_then <| wpc_region <| wpl_q (q_pure rfl) rfl ?_
    refine wpl_q (q_subN (b := 1) rfl rfl zz12 zz1) rfl ?_
    refine wpl_q (q_pure rfl) rfl <| wpl_nil ?_
    refine ex_again ⟨(s - 1, b26), ⟨zz12, by show SV b26 (kB z.toNat - (s - 1)); rw [show kB z.toNat - (s - 1) = (kB z.toNat - s) + 1 from zz12]; exact p26⟩⟩ ?_ ?_ ?_
    ·
     exact zz9
    ·
     exact fun w h => by
       dsimp only
       rw [show (kB z.toNat - s) + 1 = kB z.toNat - (s - 1) from zz12] at h
       exact h.sel
    ·
     (show (s - 1) < s); omega
   ·
    simp only [decide_eq_false_iff_not] at hc14
    obtain rfl : s = 0 := by omega
    haveI := oneH (t := tg) hi1 SV.nil
    refine wpc_exit ?_
    refine ex_then_exit ?_
    refine ex_then_exit ?_
    refine ex_block_hit ?_
    refine ex_then <| wpc_seq <| wpc_region <| wpl_q (q_ldN Tryd.underlying61 rfl Tryd.ti61 rfl LenC.h) rfl ?_
    refine wpl_t0 (t_stA Tryd.ti61 rfl rfl LenC.h OneC.h LenC.h) (fun _ => ?_)
    refine wpl_nil <| ex_then <| wpc_ret ?_
    refine retv1 (.inl rfl) rfl (rv_agg Tryd.underlying61 rfl Tryd.ti61 rfl (fun w h => h.atB) zz0) ?_
    exact fun w1 h => by
      rw [show z.toNat / 2 ^ (8 * 0) = z.toNat from Nat.div_one _, Nat.sub_zero, show numK (kB z.toNat) z.toNat = numB z.toNat from rfl] at h
      have hl : (numB z.toNat).length = kB z.toNat := numK_len _ _
      have h2 : Mem w [] [.row nb (numB z.toNat).length 5 1 (v8s (numB z.toNat)), .row nl 0 61 3 (hcs [])] [] w1 := by rw [hl]; have h3 : Mem w [] [.row nb (kB z.toNat) 5 1 (v8s (numB z.toNat)), .row nl 0 61 3 []] [] w1 := (h.nilRow 61 3).sel; exact h3
      exact ⟨.nd tg nb (numB z.toNat) nl [], ⟨rfl, by rw [hl]; exact hi1, SV.nil⟩, rfl, h.below, madeT h2⟩
theorem octStr (tg : UInt8) (bs : List UInt8) (w : World)  (hl : bs.length ≤ maxLen) :
    Calls Tryd.prog 49 [.int .u8 tg.toNat, str bs].toArray w (GivesP w (fun y : HT => y.tr = Tr.nd tg bs [] ∧ y.sv) (fun y => .agg y.c.toArray) (fun _ => []) (fun y => [Go.Proofs.YtgnablliekgbgaaDoor.hseen y])) := by
  refine enter (m := 9) (R := Mem w [] [] []) Tryd.func49 rfl rfl (Nat.le_of_ble_eq_true rfl) (Mem.start w) ?_
  refine wpc_seq <| wpc_region ?_
  refine wpl_t (t_alloc Tryd.ti61 [.int .u8 0, nl, nl] rfl) rfl (fun b4 => ?_)
  refine wpl_nil <| ex_then <| wpc_seq <| wpc_region <| wpl_q (q_pure rfl) rfl <| wpl_q (q_pure rfl) rfl ?_
  refine wpl_tp (t_cvSB Tryd.underlying9 Tryd.underlying34 Tryd.underlying5 rfl hl) rfl (fun b7 p7 => ?_)
  haveI := oneH (t := tg) p7 SV.nil
  refine wpl_q (q_build (cs := [.int .u8 (tg.toNat : Int), b7, nl]) rfl (built_o1 tg p7)) rfl ?_
  refine wpl_t0 (t_stA Tryd.ti61 rfl rfl LenC.h OneC.h LenC.h) (fun _ => ?_)
  refine wpl_nil <| ex_then <| wpc_ret ?_
  refine retv1 (.inl rfl) rfl (rv_agg Tryd.underlying61 rfl Tryd.ti61 rfl (fun w h => h.atB) zz0) ?_
  exact fun w1 h => ⟨.nd tg b7 bs nl [], ⟨rfl, p7, SV.nil⟩, rfl, h.below, made_str h⟩
end Go.Proofs.YtgnablliekgbgaaDoor
namespace Go.Proofs.YtgnablliekgbgaaDoor
open Go Go.PL Go.RowKit
def Tr.tg : Tr → UInt8 | .nd t _ _ => t
def Tr.bs : Tr → List UInt8 | .nd _ bs _ => bs
def Tr.kids : Tr → List Tr | .nd _ _ l => l
def numOf (bs : List UInt8) : Nat := bs.foldl (fun n b => 256 * n + b.toNat) 0
theorem numOf_take {bs : List UInt8} {i : Nat} (h : i < bs.length) : numOf (bs.take (i + 1)) = 256 * numOf (bs.take i) + (bs.getD i 0).toNat := by
  rw [take_succD 0 h, numOf, List.foldl_append]; rfl
theorem numOf_lt {bs : List UInt8} : ∀ {i : Nat}, i ≤ bs.length → numOf (bs.take i) < 256 ^ i
  | 0, _ => by rw [List.take_zero]; decide
  | i + 1, h => by
    have h1 := numOf_lt (bs := bs) (i := i) zz12
    have h2 := (bs.getD i 0).toNat_lt
    rw [numOf_take zz12, Nat.pow_succ]; omega
theorem or_step {v : UInt64} (b : UInt8) {n : Nat} (hv : v.toNat = n) (h : n < 2 ^ 56) : ((sl64 v 8) ||| of64 (b.toNat : Int)).toNat = 256 * n + b.toNat := by
  have hb := b.toNat_lt
  have h1 : (sl64 v 8).toNat = 256 * n := by
    show (UInt64.ofNat (v.toNat * 2 ^ min 8 64)).toNat = _
    rw [hv, UInt64.toNat_ofNat']
    show n * 256 % 2 ^ 64 = _
    omega
  rw [UInt64.toNat_or, h1, of64_nat _ zz12]
  have h2 := Nat.shiftLeft_add_eq_or_of_lt (i := 8) (b := b.toNat) zz12 n
  rw [Nat.shiftLeft_eq, Nat.mul_comm] at h2
  exact h2.symm
theorem numOf_56 {bs : List UInt8} {i : Nat} (hi : i < bs.length) (hl : bs.length ≤ 8) : numOf (bs.take i) < 2 ^ 56 := by
  have h1 := numOf_lt (bs := bs) (i := i) zz12
  have h2 : 256 ^ i ≤ 256 ^ 7 := Nat.pow_le_pow_right zz19 zz12
  have h3 : (256 : Nat) ^ 7 = 2 ^ 56 := by decide
  omega
def badN (g : UInt8) (t : Tr) : Prop := t.tg ≠ g ∨ 0 < t.kids.length ∨ 8 < t.bs.length ∨ (0 < t.bs.length ∧ t.bs.getD 0 0 = 0)
instance {g : UInt8} {t : Tr} : Decidable (badN g t) := by unfold badN; exact inferInstance
def rdNum (t : Tr) (g : UInt8) (mx : UInt64) : UInt64 × Nat := if badN g t then (0, 12) else if mx.toNat < numOf t.bs then (0, 12) else (UInt64.ofNat (numOf t.bs), 0)
theorem octReadNum (t : HT) (g : UInt8) (mx : UInt64) (w : World) (ht : HSeen w.cell? t)  :
    Calls Tryd.prog 65 [.agg t.c.toArray, .int .u8 g.toNat, .int .u64 mx.toNat].toArray w (Pur w (.tuple #[.int .u64 ((rdNum t.tr g mx).1.toNat : Int), .int .i64 (((rdNum t.tr g mx).2 : Nat) : Int)])) := by
  obtain ⟨tg, bv, bs, lv, l⟩ := t
  have hb := ht.1
  have hk := ht.2.1
  have svb := hb.sv
  have svl := hk.sv
  have lb := svb.le
  have ll := svl.le
  simp only [maxLen] at lb ll
  refine enter (m := 57) (R := Mem w [] [] []) Tryd.func65 rfl rfl (Nat.le_of_ble_eq_true rfl) (Mem.start w) ?_
  refine wpc_seq <| wpc_region ?_
  refine wpl_t (t_box rfl [.int .u8 (tg.toNat : Int), bv, lv] rfl) rfl (fun b3 => ?_)
  refine wpl_q (q_pure rfl) rfl <| wpl_q (q_pure rfl) rfl <| wpl_nil <| ex_then <| wpc_seq <| wpc_seq <| wpc_region <| wpl_q (q_field Tryd.underlying61 rfl Tryd.ti5 rfl rfl _ rfl) rfl ?_
  refine wpl_q (q_ld Tryd.underlying5 rfl rfl zz34) rfl ?_
  refine wpl_q (q_pure rfl) rfl <| wpl_q (q8_neq rfl rfl) rfl <| wpl_q (q_pure rfl) rfl ?_
  refine wpl_bool2 15 14 rfl rfl (fun hb15 => ?_) (fun hb15 => ?_)
  ·
   have hN : badN g (HT.nd tg bv bs lv l).tr := .inl (show ¬ tg = g by simpa using hb15)
   refine wpl_off rfl rfl rfl rfl <| wpl_off rfl rfl rfl rfl <| wpl_off rfl rfl rfl rfl <| wpl_off rfl rfl rfl rfl <| wpl_q (q_pure rfl) rfl <| wpl_q (q_pure rfl) rfl <| wpl_off rfl rfl rfl rfl <| wpl_off rfl rfl rfl rfl <| wpl_off rfl rfl rfl rfl <| wpl_off rfl rfl rfl rfl <| wpl_q (q_pure rfl) rfl <| wpl_q (q_pure rfl) rfl ?_
   refine wpl_off rfl rfl rfl rfl <| wpl_off rfl rfl rfl rfl <| wpl_off rfl rfl rfl rfl <| wpl_off rfl rfl rfl rfl <| wpl_off rfl rfl rfl rfl <| wpl_off rfl rfl rfl rfl <| wpl_off rfl rfl rfl rfl <| wpl_off rfl rfl rfl rfl <| wpl_off rfl rfl rfl rfl <| wpl_off rfl rfl rfl rfl <| wpl_off rfl rfl rfl rfl <| wpl_q (q_pure rfl) rfl ?_
   refine wpl_nil <| ex_then ?_
   refine wpc_cond_t rfl ?_
   refine wpc_seq <| wpc_region <| wpl_q (q_pure rfl) rfl <| wpl_q (q_pure rfl) rfl <| wpl_nil <| ex_then <| wpc_ret ?_
   refine ex_then_ret ?_
   refine ret2 (.inl rfl) rfl rfl rfl ?_
   exact fun w h => ⟨by rw [rdNum, if_pos hN]; rfl, h.below⟩
  ·
   have n1 : tg = g := by simpa using hb15
   refine wpl_on rfl rfl <| wpl_q (q_field Tryd.underlying61 rfl Tryd.ti59 rfl rfl _ rfl) rfl <| wpl_on rfl rfl <| wpl_q (q_ld Tryd.underlying59 rfl rfl rfl) rfl <| wpl_on rfl rfl ?_
   refine wpl_q (q_lenW Tryd.underlying59 rfl zz3) rfl ?_
   refine wpl_on rfl rfl <| wpl_q (q_pure rfl) rfl <| wpl_q (q_pure rfl) rfl <| wpl_q (q_pure rfl) rfl ?_
   refine wpl_bool2 21 19 rfl rfl (fun hb21 => ?_) (fun hb21 => ?_)
   ·
    try simp only [decide_eq_true_eq] at hb21
    have hN : badN g (HT.nd tg bv bs lv l).tr := .inr (.inl (by show 0 < (trs l).length; rw [trs_length]; omega))
    refine wpl_off rfl rfl rfl rfl <| wpl_off rfl rfl rfl rfl <| wpl_off rfl rfl rfl rfl <| wpl_off rfl rfl rfl rfl <| wpl_q (q_pure rfl) rfl <| wpl_q (q_pure rfl) rfl <| wpl_off rfl rfl rfl rfl <| wpl_off rfl rfl rfl rfl <| wpl_off rfl rfl rfl rfl <| wpl_off rfl rfl rfl rfl <| wpl_off rfl rfl rfl rfl <| wpl_off rfl rfl rfl rfl ?_
    refine wpl_off rfl rfl rfl rfl <| wpl_off rfl rfl rfl rfl <| wpl_off rfl rfl rfl rfl <| wpl_off rfl rfl rfl rfl <| wpl_off rfl rfl rfl rfl <| wpl_q (q_pure rfl) rfl <| wpl_nil <| ex_then ?_
    refine wpc_cond_t rfl ?_
    refine wpc_seq <| wpc_region <| wpl_q (q_pure rfl) rfl <| wpl_q (q_pure rfl) rfl <| wpl_nil <| ex_then <| wpc_ret ?_
    refine ex_then_ret ?_
    refine ret2 (.inl rfl) rfl rfl rfl ?_
    exact fun w h => ⟨by rw [rdNum, if_pos hN]; rfl, h.below⟩
   ·
    try simp only [decide_eq_false_iff_not] at hb21
    have n2 : ¬ 0 < (trs l).length := by rw [trs_length]; omega
    refine wpl_on rfl rfl <| wpl_q (q_field Tryd.underlying61 rfl Tryd.ti34 rfl rfl _ rfl) rfl <| wpl_on rfl rfl <| wpl_q (q_ld Tryd.underlying34 rfl rfl rfl) rfl <| wpl_on rfl rfl ?_
    refine wpl_q (q_lenW Tryd.underlying34 rfl zz3) rfl ?_
    refine wpl_on rfl rfl <| wpl_q (q_pure rfl) rfl <| wpl_q (q_pure rfl) rfl <| wpl_q (q_pure rfl) rfl ?_
    refine wpl_bool2 27 25 rfl rfl (fun hb27 => ?_) (fun hb27 => ?_)
    ·
     try simp only [decide_eq_true_eq] at hb27
     have hN : badN g (HT.nd tg bv bs lv l).tr := .inr (.inr (.inl (by show 8 < bs.length; omega)))
     refine wpl_off rfl rfl rfl rfl <| wpl_off rfl rfl rfl rfl <| wpl_off rfl rfl rfl rfl <| wpl_off rfl rfl rfl rfl <| wpl_off rfl rfl rfl rfl <| wpl_off rfl rfl rfl rfl <| wpl_off rfl rfl rfl rfl <| wpl_off rfl rfl rfl rfl <| wpl_off rfl rfl rfl rfl <| wpl_off rfl rfl rfl rfl <| wpl_off rfl rfl rfl rfl <| wpl_q (q_pure rfl) rfl ?_
     refine wpl_nil <| ex_then ?_
     refine wpc_cond_t rfl ?_
     refine wpc_seq <| wpc_region <| wpl_q (q_pure rfl) rfl <| wpl_q (q_pure rfl) rfl <| wpl_nil <| ex_then <| wpc_ret ?_
     refine ex_then_ret ?_
     refine ret2 (.inl rfl) rfl rfl rfl ?_
     exact fun w h => ⟨by rw [rdNum, if_pos hN]; rfl, h.below⟩
    ·
     try simp only [decide_eq_false_iff_not] at hb27
     have n3 : ¬ 8 < bs.length := by omega
     refine wpl_on rfl rfl <| wpl_q (q_field Tryd.underlying61 rfl Tryd.ti34 rfl rfl _ rfl) rfl <| wpl_on rfl rfl <| wpl_q (q_ld Tryd.underlying34 rfl rfl rfl) rfl <| wpl_on rfl rfl ?_
     refine wpl_q (q_lenW Tryd.underlying34 rfl zz3) rfl ?_
     refine wpl_on rfl rfl <| wpl_q (q_pure rfl) rfl <| wpl_on rfl rfl <| wpl_q (q_pure rfl) rfl ?_
     refine wpl_bool2 32 31 rfl rfl (fun hb32 => ?_) (fun hb32 => ?_)
     ·
      try simp only [decide_eq_true_eq] at hb32
      have p4 : 0 < bs.length := by omega
      refine wpl_on rfl rfl <| wpl_q (q_field Tryd.underlying61 rfl Tryd.ti34 rfl rfl _ rfl) rfl <| wpl_on rfl rfl <| wpl_q (q_ld Tryd.underlying34 rfl rfl rfl) rfl <| wpl_on rfl rfl ?_
      refine wpl_q (q_idxW1 (j := 0) Tryd.underlying34 Tryd.ti5 rfl rfl zz3 zz1) rfl ?_
      refine wpl_on rfl rfl ?_
      refine wpl_q (q_ldW Tryd.underlying5 rfl rfl (fun w h => zz14) zz34) rfl ?_
      refine wpl_on rfl rfl ?_
      refine wpl_q (q8_eql (b := (0 : UInt8)) rfl rfl) rfl ?_
      refine wpl_on rfl rfl <| wpl_q (q_pure rfl) rfl <| wpl_q (q_pure rfl) rfl <| wpl_nil <| ex_then ?_
      refine wpc_cond rfl (fun hc39 => ?_) (fun hc39 => ?_)
      ·
       have hN : badN g (HT.nd tg bv bs lv l).tr := .inr (.inr (.inr ⟨p4, show bs.getD 0 0 = 0 by simpa using hc39⟩))
       refine wpc_seq <| wpc_region <| wpl_q (q_pure rfl) rfl <| wpl_q (q_pure rfl) rfl <| wpl_nil <| ex_then <| wpc_ret ?_
       refine ex_then_ret ?_
       refine ret2 (.inl rfl) rfl rfl rfl ?_
       exact fun w h => ⟨by rw [rdNum, if_pos hN]; rfl, h.below⟩
      ·
       have n4 : ¬ bs.getD 0 0 = 0 := by simpa using hc39
       have hB : ¬ badN g (HT.nd tg bv bs lv l).tr := by rintro (h | h | h | h); exact h n1; exact n2 h; exact n3 h; exact n4 h.2
       refine wpc_skip <| ex_then <| wpc_seq <| wpc_region <| wpl_q (q_pure rfl) rfl <| wpl_nil <| ex_then <| wpc_seq <| wpc_seq <| wpc_region <| wpl_q (q_field Tryd.underlying61 rfl Tryd.ti34 rfl rfl _ rfl) rfl <| wpl_q (q_ld Tryd.underlying34 rfl rfl rfl) rfl ?_
       refine wpl_q (q_lenW Tryd.underlying34 rfl zz3) rfl ?_
       refine wpl_q (q_pure rfl) rfl <| wpl_nil <| ex_then <| wpc_block ?_
       refine wpc_loopc (ι := { x : Nat × UInt64 // (x.1 ≤ bs.length) ∧ (x.2.toNat = numOf (bs.take x.1)) }) [(2, _), (41, _), (42, _)] (fun x Lc => (43, .int .i64 ((x.1.1 : Nat) : Int)) :: (8, .int .u64 (x.1.2.toNat : Int)) :: Lc) (fun x => Mem w [] [.blk b3 61 [.int .u8 (tg.toNat : Int), bv, lv]] []) (fun x => bs.length - x.1.1) ⟨(0, 0), ⟨Nat.zero_le _, rfl⟩⟩ zz9 ?_ ?_
       ·
        exact fun w h => h
       ·
        rintro ⟨⟨i, v⟩, ⟨hi0, hi1⟩⟩; try dsimp only
        have hi0 : i ≤ bs.length := hi0; have hi1 : v.toNat = numOf (bs.take i) := hi1
        refine wpc_seq <| wpc_region <| wpl_q (q_pure rfl) rfl <| wpl_nil <| ex_then <| wpc_seq ?_
        refine wpc_cond rfl (fun hc44 => ?_) (fun hc44 => ?_)
        ·
         simp only [decide_eq_true_eq] at hc44
         refine wpc_skip <| ex_then <| wpc_seq <| wpc_block <| wpc_seq <| wpc_region ?_
         refine wpl_q (q_idxW1 Tryd.underlying34 Tryd.ti5 rfl rfl zz3 zz1) rfl ?_
         refine wpl_q (q_ldW Tryd.underlying5 rfl rfl (fun w h => zz14) zz34) rfl ?_
         refine wpl_q (q_pure rfl) rfl <| wpl_nil <| ex_then <| wpc_region <| wpl_q (q_pure rfl) rfl ?_
         refine wpl_q (q64_shl rfl rfl zz24 8 rfl) rfl ?_
         refine wpl_q (q_pure rfl) rfl <| wpl_q (q64_conv Tryd.underlying5 Tryd.underlying23 rfl) rfl <| wpl_q (q64_or rfl rfl) rfl <| wpl_q (q_pure rfl) rfl <| wpl_nil <| ex_block <| ex_then <| wpc_region ?_
         refine wpl_q (q_addN (b := 1) rfl rfl zz1) rfl ?_
         refine wpl_q (q_pure rfl) rfl <| wpl_nil ?_
         refine ex_again ⟨(i + 1, (sl64 v 8) ||| of64 ((bs.getD i 0).toNat : Int)), ⟨zz12, by rw [numOf_take zz12]; exact or_step _ hi1 (numOf_56 zz12 zz12)⟩⟩ ?_ ?_ ?_
         ·
          exact zz9
         ·
          exact fun w h => h
         ·
          (show bs.length - (i + 1) < bs.length - i); omega
        ·
         simp only [decide_eq_false_iff_not] at hc44
         obtain rfl : i = bs.length := by omega
         rw [List.take_length] at hi1
         have hvv : v = UInt64.ofNat (numOf bs) := UInt64.toNat_inj.1 (by rw [← hi1]; exact congrArg UInt64.toNat (UInt64.ofNat_toNat).symm)
         refine wpc_exit ?_
         refine ex_then_exit ?_
         refine ex_then_exit ?_
         refine ex_block_hit ?_
         refine ex_then <| wpc_seq <| wpc_seq <| wpc_region <| wpl_q (q_pure rfl) rfl <| wpl_q (q_pure rfl) rfl <| wpl_q (q_pure rfl) rfl <| wpl_nil <| ex_then ?_
         refine wpc_cond rfl (fun hc55 => ?_) (fun hc55 => ?_)
         ·
          have hgt : mx.toNat < numOf bs := by rw [← hi1]; simp only [decide_eq_true_eq] at hc55; omega
          refine wpc_seq <| wpc_region <| wpl_q (q_pure rfl) rfl <| wpl_q (q_pure rfl) rfl <| wpl_nil <| ex_then <| wpc_ret ?_
          refine ex_then_ret ?_
          refine ret2 (.inl rfl) rfl rfl rfl ?_
          exact fun w h => ⟨by rw [rdNum, if_neg hB, if_pos (show mx.toNat < numOf (HT.nd tg bv bs lv l).tr.bs from hgt)]; rfl, h.below⟩
         ·
          have hng : ¬ mx.toNat < numOf bs := by rw [← hi1]; simp only [decide_eq_false_iff_not] at hc55; omega
          refine wpc_skip <| ex_then <| wpc_seq <| wpc_region <| wpl_q (q_pure rfl) rfl <| wpl_q (q_pure rfl) rfl <| wpl_q (q_pure rfl) rfl <| wpl_nil <| ex_then <| wpc_ret ?_
          refine ret2 (.inl rfl) rfl rfl rfl ?_
          exact fun w h => ⟨by rw [rdNum, if_neg hB, if_neg (show ¬ mx.toNat < numOf (HT.nd tg bv bs lv l).tr.bs from hng), hvv]; rfl, h.below⟩
     ·
      try simp only [decide_eq_false_iff_not] at hb32
      have hB : ¬ badN g (HT.nd tg bv bs lv l).tr := by rintro (h | h | h | h); exact h n1; exact n2 h; exact n3 h; have h : 0 < bs.length := h.1; omega
      refine wpl_off rfl rfl rfl rfl <| wpl_off rfl rfl rfl rfl <| wpl_off rfl rfl rfl rfl <| wpl_off rfl rfl rfl rfl <| wpl_off rfl rfl rfl rfl <| wpl_on rfl rfl <| wpl_q (q_pure rfl) rfl <| wpl_q (q_pure rfl) rfl <| wpl_nil <| ex_then ?_
      refine wpc_cond_f rfl ?_
      refine wpc_skip <| ex_then <| wpc_seq <| wpc_region <| wpl_q (q_pure rfl) rfl <| wpl_nil <| ex_then <| wpc_seq <| wpc_seq <| wpc_region <| wpl_q (q_field Tryd.underlying61 rfl Tryd.ti34 rfl rfl _ rfl) rfl <| wpl_q (q_ld Tryd.underlying34 rfl rfl rfl) rfl ?_
      refine wpl_q (q_lenW Tryd.underlying34 rfl zz3) rfl ?_
      refine wpl_q (q_pure rfl) rfl <| wpl_nil <| ex_then <| wpc_block ?_
      refine wpc_loopc (ι := { x : Nat × UInt64 // (x.1 ≤ bs.length) ∧ (x.2.toNat = numOf (bs.take x.1)) }) [(2, _), (41, _), (42, _)] (fun x Lc => (43, .int .i64 ((x.1.1 : Nat) : Int)) :: (8, .int .u64 (x.1.2.toNat : Int)) :: Lc) (fun x => Mem w [] [.blk b3 61 [.int .u8 (tg.toNat : Int), bv, lv]] []) (fun x => bs.length - x.1.1) ⟨(0, 0), ⟨Nat.zero_le _, rfl⟩⟩ zz9 ?_ ?_
      ·
       exact fun w h => h
      ·
       rintro ⟨⟨i, v⟩, ⟨hi0, hi1⟩⟩; try dsimp only
       have hi0 : i ≤ bs.length := hi0; have hi1 : v.toNat = numOf (bs.take i) := hi1
       refine wpc_seq <| wpc_region <| wpl_q (q_pure rfl) rfl <| wpl_nil <| ex_then <| wpc_seq ?_
       refine wpc_cond rfl (fun hc44 => ?_) (fun hc44 => ?_)
       ·
        simp only [decide_eq_true_eq] at hc44
        refine wpc_skip <| ex_then <| wpc_seq <| wpc_block <| wpc_seq <| wpc_region ?_
        refine wpl_q (q_idxW1 Tryd.underlying34 Tryd.ti5 rfl rfl zz3 zz1) rfl ?_
        refine wpl_q (q_ldW Tryd.underlying5 rfl rfl (fun w h => zz14) zz34) rfl ?_
        refine wpl_q (q_pure rfl) rfl <| wpl_nil <| ex_then <| wpc_region <| wpl_q (q_pure rfl) rfl ?_
        refine wpl_q (q64_shl rfl rfl zz24 8 rfl) rfl ?_
        refine wpl_q (q_pure rfl) rfl <| wpl_q (q64_conv Tryd.underlying5 Tryd.underlying23 rfl) rfl <| wpl_q (q64_or rfl rfl) rfl <| wpl_q (q_pure rfl) rfl <| wpl_nil <| ex_block <| ex_then <| wpc_region ?_
        refine wpl_q (q_addN (b := 1) rfl rfl zz1) rfl ?_
        refine wpl_q (q_pure rfl) rfl <| wpl_nil ?_
        refine ex_again ⟨(i + 1, (sl64 v 8) ||| of64 ((bs.getD i 0).toNat : Int)), ⟨zz12, by rw [numOf_take zz12]; exact or_step _ hi1 (numOf_56 zz12 zz12)⟩⟩ ?_ ?_ ?_
        ·
         exact zz9
        ·
         exact fun w h => h
        ·
         (show bs.length - (i + 1) < bs.length - i); omega
       ·
        simp only [decide_eq_false_iff_not] at hc44
        obtain rfl : i = bs.length := by omega
        rw [List.take_length] at hi1
        have hvv : v = UInt64.ofNat (numOf bs) := UInt64.toNat_inj.1 (by rw [← hi1]; exact congrArg UInt64.toNat (UInt64.ofNat_toNat).symm)
        refine wpc_exit ?_
        refine ex_then_exit ?_
        refine ex_then_exit ?_
        refine ex_block_hit ?_
        refine ex_then <| wpc_seq <| wpc_seq <| wpc_region <| wpl_q (q_pure rfl) rfl <| wpl_q (q_pure rfl) rfl <| wpl_q (q_pure rfl) rfl <| wpl_nil <| ex_then ?_
        refine wpc_cond rfl (fun hc55 => ?_) (fun hc55 => ?_)
        ·
         have hgt : mx.toNat < numOf bs := by rw [← hi1]; simp only [decide_eq_true_eq] at hc55; omega
         refine wpc_seq <| wpc_region <| wpl_q (q_pure rfl) rfl <| wpl_q (q_pure rfl) rfl <| wpl_nil <| ex_then <| wpc_ret ?_
         refine ex_then_ret ?_
         refine ret2 (.inl rfl) rfl rfl rfl ?_
         exact fun w h => ⟨by rw [rdNum, if_neg hB, if_pos (show mx.toNat < numOf (HT.nd tg bv bs lv l).tr.bs from hgt)]; rfl, h.below⟩
        ·
         have hng : ¬ mx.toNat < numOf bs := by rw [← hi1]; simp only [decide_eq_false_iff_not] at hc55; omega
         refine wpc_skip <| ex_then <| wpc_seq <| wpc_region <| wpl_q (q_pure rfl) rfl <| wpl_q (q_pure rfl) rfl <| wpl_q (q_pure rfl) rfl <| wpl_nil <| ex_then <| wpc_ret ?_
         refine ret2 (.inl rfl) rfl rfl rfl ?_
         exact fun w h => ⟨by rw [rdNum, if_neg hB, if_neg (show ¬ mx.toNat < numOf (HT.nd tg bv bs lv l).tr.bs from hng), hvv]; rfl, h.below⟩
theorem sub_left {α : Type} : ∀ (l X : List α), Sub l (l ++ X)
  | [], _ => .nil
  | _ :: l, X => .keep (sub_left l X)
section
variable {P : Program} {n : Cx} {R : World → Prop} {L : Slots}
theorem q_fieldC {t : Nat} {x : Operand} {f : Nat} {fs : Array Field} {fd : Field} {cs : List Value} {v : Value} {d : TypeDesc} (hu : P.underlying t = some (.struct fs)) (hf : fs[f]? = some fd) (hd : P.underlying fd.type = some d) (ha : isAggD d = false)
    (hx : ev L x = some (.agg cs.toArray)) (hv : cs[fd.offset]? = some v) : QOp P n R L (.field t x f) v := by
  intro d' ty pos af g a w hs _
  have hp : (part fd.type cs.toArray fd.offset).run P w = .ok v w := by
    unfold part
    simp [run_agg hd, ha, hv]
  simp only [execOp, hs.eval hx]
  simp [Instr.field, asAgg, run_underlying hu, hf] at hp ⊢
  simp [hp]
end
def badS (g : UInt8) (mx : Int) (t : Tr) : Prop := t.tg ≠ g ∨ 0 < t.kids.length ∨ mx < (t.bs.length : Int)
instance {g : UInt8} {mx : Int} {t : Tr} : Decidable (badS g mx t) := by unfold badS; exact inferInstance
def rdStr (t : Tr) (g : UInt8) (mx : Int) : List UInt8 × Nat := if badS g mx t then ([], 12) else (t.bs, 0)
def badL (g : UInt8) (lo hi : Int) (t : Tr) : Prop := t.tg ≠ g ∨ 0 < t.bs.length ∨ (t.kids.length : Int) < lo ∨ hi < (t.kids.length : Int)
instance {g : UInt8} {lo hi : Int} {t : Tr} : Decidable (badL g lo hi t) := by unfold badL; exact inferInstance
def rdSeq (t : Tr) (g : UInt8) (lo hi : Int) : List Tr × Nat := if badL g lo hi t then ([], 12) else (t.kids, 0)
theorem octReadStr (t : HT) (g : UInt8) (mx : Int) (w : World) (ht : HSeen w.cell? t)  :
    Calls Tryd.prog 67 [.agg t.c.toArray, .int .u8 g.toNat, .int .i64 mx].toArray w (Pur w (.tuple #[str (rdStr t.tr g mx).1, .int .i64 (((rdStr t.tr g mx).2 : Nat) : Int)])) := by
  obtain ⟨tg, bv, bs, lv, l⟩ := t
  have hb := ht.1
  have hk := ht.2.1
  have svb := hb.sv
  have svl := hk.sv
  have lb := svb.le
  have ll := svl.le
  simp only [maxLen] at lb ll
  refine enter (m := 28) (R := Mem w [] [] []) Tryd.func67 rfl rfl (Nat.le_of_ble_eq_true rfl) (Mem.start w) ?_
  refine wpc_seq <| wpc_region ?_
  refine wpl_t (t_box rfl [.int .u8 (tg.toNat : Int), bv, lv] rfl) rfl (fun b3 => ?_)
  refine wpl_q (q_pure rfl) rfl <| wpl_q (q_pure rfl) rfl <| wpl_nil <| ex_then <| wpc_seq <| wpc_seq <| wpc_region <| wpl_q (q_field Tryd.underlying61 rfl Tryd.ti5 rfl rfl _ rfl) rfl ?_
  refine wpl_q (q_ld Tryd.underlying5 rfl rfl zz34) rfl ?_
  refine wpl_q (q_pure rfl) rfl <| wpl_q (q8_neq rfl rfl) rfl <| wpl_q (q_pure rfl) rfl ?_
  refine wpl_bool2 12 11 rfl rfl (fun hb12 => ?_) (fun hb12 => ?_)
  ·
   have hN : badS g mx (HT.nd tg bv bs lv l).tr := .inl (show ¬ tg = g by simpa using hb12)
   refine wpl_off rfl rfl rfl rfl <| wpl_off rfl rfl rfl rfl <| wpl_off rfl rfl rfl rfl <| wpl_off rfl rfl rfl rfl <| wpl_q (q_pure rfl) rfl <| wpl_q (q_pure rfl) rfl <| wpl_off rfl rfl rfl rfl <| wpl_off rfl rfl rfl rfl <| wpl_off rfl rfl rfl rfl <| wpl_off rfl rfl rfl rfl <| wpl_off rfl rfl rfl rfl <| wpl_q (q_pure rfl) rfl ?_
   refine wpl_nil <| ex_then ?_
   refine wpc_cond_t rfl ?_
   refine wpc_seq <| wpc_region <| wpl_q (q_pure rfl) rfl <| wpl_q (q_pure rfl) rfl <| wpl_nil <| ex_then <| wpc_ret ?_
   refine ex_then_ret ?_
   refine ret2 (.inl rfl) rfl rfl rfl ?_
   exact fun w h => ⟨by rw [rdStr, if_pos hN]; rfl, h.below⟩
  ·
   have n1 : tg = g := by simpa using hb12
   refine wpl_on rfl rfl <| wpl_q (q_field Tryd.underlying61 rfl Tryd.ti59 rfl rfl _ rfl) rfl <| wpl_on rfl rfl <| wpl_q (q_ld Tryd.underlying59 rfl rfl rfl) rfl <| wpl_on rfl rfl ?_
   refine wpl_q (q_lenW Tryd.underlying59 rfl zz3) rfl ?_
   refine wpl_on rfl rfl <| wpl_q (q_pure rfl) rfl <| wpl_q (q_pure rfl) rfl <| wpl_q (q_pure rfl) rfl ?_
   refine wpl_bool2 18 16 rfl rfl (fun hb18 => ?_) (fun hb18 => ?_)
   ·
    try simp only [decide_eq_true_eq] at hb18
    have hN : badS g mx (HT.nd tg bv bs lv l).tr := .inr (.inl (by show 0 < (trs l).length; rw [trs_length]; omega))
    refine wpl_off rfl rfl rfl rfl <| wpl_off rfl rfl rfl rfl <| wpl_off rfl rfl rfl rfl <| wpl_off rfl rfl rfl rfl <| wpl_off rfl rfl rfl rfl <| wpl_q (q_pure rfl) rfl <| wpl_nil <| ex_then ?_
    refine wpc_cond_t rfl ?_
    refine wpc_seq <| wpc_region <| wpl_q (q_pure rfl) rfl <| wpl_q (q_pure rfl) rfl <| wpl_nil <| ex_then <| wpc_ret ?_
    refine ex_then_ret ?_
    refine ret2 (.inl rfl) rfl rfl rfl ?_
    exact fun w h => ⟨by rw [rdStr, if_pos hN]; rfl, h.below⟩
   ·
    try simp only [decide_eq_false_iff_not] at hb18
    have n2 : ¬ 0 < (trs l).length := by rw [trs_length]; omega
    refine wpl_on rfl rfl <| wpl_q (q_field Tryd.underlying61 rfl Tryd.ti34 rfl rfl _ rfl) rfl <| wpl_on rfl rfl <| wpl_q (q_ld Tryd.underlying34 rfl rfl rfl) rfl <| wpl_on rfl rfl ?_
    refine wpl_q (q_lenW Tryd.underlying34 rfl zz3) rfl ?_
    refine wpl_on rfl rfl <| wpl_q (q_pure rfl) rfl <| wpl_on rfl rfl <| wpl_q (q_pure rfl) rfl <| wpl_q (q_pure rfl) rfl <| wpl_nil <| ex_then ?_
    refine wpc_cond rfl (fun hc24 => ?_) (fun hc24 => ?_)
    ·
     simp only [decide_eq_true_eq] at hc24
     have hN : badS g mx (HT.nd tg bv bs lv l).tr := .inr (.inr (by show mx < (bs.length : Int); omega))
     refine wpc_seq <| wpc_region <| wpl_q (q_pure rfl) rfl <| wpl_q (q_pure rfl) rfl <| wpl_nil <| ex_then <| wpc_ret ?_
     refine ex_then_ret ?_
     refine ret2 (.inl rfl) rfl rfl rfl ?_
     exact fun w h => ⟨by rw [rdStr, if_pos hN]; rfl, h.below⟩
    ·
     simp only [decide_eq_false_iff_not] at hc24
     have hB : ¬ badS g mx (HT.nd tg bv bs lv l).tr := by rintro (h | h | h); exact h n1; exact n2 h; have h : mx < (bs.length : Int) := h; omega
     refine wpc_skip <| ex_then <| wpc_seq <| wpc_region <| wpl_q (q_field Tryd.underlying61 rfl Tryd.ti34 rfl rfl _ rfl) rfl <| wpl_q (q_ld Tryd.underlying34 rfl rfl rfl) rfl ?_
     refine wpl_q (q_cvBS Tryd.underlying34 Tryd.underlying5 Tryd.underlying9 rfl (fun w h => h.seen_old hb)) rfl ?_
     refine wpl_q (q_pure rfl) rfl <| wpl_q (q_pure rfl) rfl <| wpl_nil <| ex_then <| wpc_ret ?_
     refine ret2 (.inl rfl) rfl rfl rfl ?_
     exact fun w h => ⟨by rw [rdStr, if_neg hB]; rfl, h.below⟩
theorem octReadSeq (t : HT) (g : UInt8) (lo : Int) (hi : Int) (w : World) (ht : HSeen w.cell? t) (hsm : Sm t.tr) :
    Calls Tryd.prog 66 [.agg t.c.toArray, .int .u8 g.toNat, .int .i64 lo, .int .i64 hi].toArray w (GivesP w (fun y : Value × List HT => trs y.2 = (rdSeq t.tr g lo hi).1 ∧ SV y.1 y.2.length ∧ ∀ x ∈ y.2, x.sv) (fun y => .tuple #[y.1, .int .i64 (((rdSeq t.tr g lo hi).2 : Nat) : Int)]) (fun y => .row y.1 y.2.length 61 3 (hcs y.2) :: entsL y.2) (fun _ => [])) := by
  obtain ⟨tg, bv, bs, lv, l⟩ := t
  have hb := ht.1
  have hk := ht.2.1
  have svb := hb.sv
  have svl := hk.sv
  have lb := svb.le
  have ll := svl.le
  simp only [maxLen] at lb ll
  refine enter (m := 37) (R := Mem w [] [] []) Tryd.func66 rfl rfl (Nat.le_of_ble_eq_true rfl) (Mem.start w) ?_
  refine wpc_seq <| wpc_region ?_
  refine wpl_t (t_box rfl [.int .u8 (tg.toNat : Int), bv, lv] rfl) rfl (fun b4 => ?_)
  refine wpl_q (q_pure rfl) rfl <| wpl_q (q_pure rfl) rfl <| wpl_nil <| ex_then <| wpc_seq <| wpc_seq <| wpc_region <| wpl_q (q_field Tryd.underlying61 rfl Tryd.ti5 rfl rfl _ rfl) rfl ?_
  refine wpl_q (q_ld Tryd.underlying5 rfl rfl zz34) rfl ?_
  refine wpl_q (q_pure rfl) rfl <| wpl_q (q8_neq rfl rfl) rfl <| wpl_q (q_pure rfl) rfl ?_
  refine wpl_bool2 14 13 rfl rfl (fun hb14 => ?_) (fun hb14 => ?_)
  ·
   have hN : badL g lo hi (HT.nd tg bv bs lv l).tr := .inl (show ¬ tg = g by simpa using hb14)
   refine wpl_off rfl rfl rfl rfl <| wpl_off rfl rfl rfl rfl <| wpl_off rfl rfl rfl rfl <| wpl_off rfl rfl rfl rfl <| wpl_q (q_pure rfl) rfl <| wpl_q (q_pure rfl) rfl <| wpl_off rfl rfl rfl rfl <| wpl_off rfl rfl rfl rfl <| wpl_off rfl rfl rfl rfl <| wpl_off rfl rfl rfl rfl <| wpl_off rfl rfl rfl rfl <| wpl_q (q_pure rfl) rfl ?_
   refine wpl_q (q_pure rfl) rfl <| wpl_off rfl rfl rfl rfl <| wpl_off rfl rfl rfl rfl <| wpl_off rfl rfl rfl rfl <| wpl_off rfl rfl rfl rfl <| wpl_off rfl rfl rfl rfl <| wpl_q (q_pure rfl) rfl <| wpl_nil <| ex_then ?_
   refine wpc_cond_t rfl ?_
   refine wpc_seq <| wpc_region <| wpl_q (q_pure rfl) rfl <| wpl_q (q_pure rfl) rfl <| wpl_nil <| ex_then <| wpc_ret ?_
   refine ex_then_ret ?_
   refine ret2 (.inl rfl) rfl rfl rfl ?_
   exact fun w1 h => ⟨(nl, []), ⟨by rw [rdSeq, if_pos hN]; rfl, SV.nil, fun x hx => by cases hx⟩, by rw [rdSeq, if_pos hN]; rfl, h.below, (show Mem w [] [.row nl 0 61 3 []] [] w1 from (h.nilRow 61 3).sel).made (Sub.refl _) .nil⟩
  ·
   have n1 : tg = g := by simpa using hb14
   refine wpl_on rfl rfl <| wpl_q (q_field Tryd.underlying61 rfl Tryd.ti34 rfl rfl _ rfl) rfl <| wpl_on rfl rfl <| wpl_q (q_ld Tryd.underlying34 rfl rfl rfl) rfl <| wpl_on rfl rfl ?_
   refine wpl_q (q_lenW Tryd.underlying34 rfl zz3) rfl ?_
   refine wpl_on rfl rfl <| wpl_q (q_pure rfl) rfl <| wpl_q (q_pure rfl) rfl <| wpl_q (q_pure rfl) rfl ?_
   refine wpl_bool2 20 18 rfl rfl (fun hb20 => ?_) (fun hb20 => ?_)
   ·
    try simp only [decide_eq_true_eq] at hb20
    have hN : badL g lo hi (HT.nd tg bv bs lv l).tr := .inr (.inl (by show 0 < bs.length; omega))
    refine wpl_off rfl rfl rfl rfl <| wpl_off rfl rfl rfl rfl <| wpl_off rfl rfl rfl rfl <| wpl_off rfl rfl rfl rfl <| wpl_off rfl rfl rfl rfl <| wpl_q (q_pure rfl) rfl <| wpl_q (q_pure rfl) rfl <| wpl_off rfl rfl rfl rfl <| wpl_off rfl rfl rfl rfl <| wpl_off rfl rfl rfl rfl <| wpl_off rfl rfl rfl rfl <| wpl_off rfl rfl rfl rfl ?_
    refine wpl_q (q_pure rfl) rfl <| wpl_nil <| ex_then ?_
    refine wpc_cond_t rfl ?_
    refine wpc_seq <| wpc_region <| wpl_q (q_pure rfl) rfl <| wpl_q (q_pure rfl) rfl <| wpl_nil <| ex_then <| wpc_ret ?_
    refine ex_then_ret ?_
    refine ret2 (.inl rfl) rfl rfl rfl ?_
    exact fun w1 h => ⟨(nl, []), ⟨by rw [rdSeq, if_pos hN]; rfl, SV.nil, fun x hx => by cases hx⟩, by rw [rdSeq, if_pos hN]; rfl, h.below, (show Mem w [] [.row nl 0 61 3 []] [] w1 from (h.nilRow 61 3).sel).made (Sub.refl _) .nil⟩
   ·
    try simp only [decide_eq_false_iff_not] at hb20
    have n2 : ¬ 0 < bs.length := by omega
    refine wpl_on rfl rfl <| wpl_q (q_field Tryd.underlying61 rfl Tryd.ti59 rfl rfl _ rfl) rfl <| wpl_on rfl rfl <| wpl_q (q_ld Tryd.underlying59 rfl rfl rfl) rfl <| wpl_on rfl rfl ?_
    refine wpl_q (q_lenW Tryd.underlying59 rfl zz3) rfl ?_
    refine wpl_on rfl rfl <| wpl_q (q_pure rfl) rfl <| wpl_on rfl rfl <| wpl_q (q_pure rfl) rfl <| wpl_q (q_pure rfl) rfl <| wpl_q (q_pure rfl) rfl ?_
    refine wpl_bool2 27 25 rfl rfl (fun hb27 => ?_) (fun hb27 => ?_)
    ·
     try simp only [decide_eq_true_eq] at hb27
     have hN : badL g lo hi (HT.nd tg bv bs lv l).tr := .inr (.inr (.inl (by show ((trs l).length : Int) < lo; rw [trs_length]; omega)))
     refine wpl_off rfl rfl rfl rfl <| wpl_off rfl rfl rfl rfl <| wpl_off rfl rfl rfl rfl <| wpl_off rfl rfl rfl rfl <| wpl_off rfl rfl rfl rfl <| wpl_q (q_pure rfl) rfl <| wpl_nil <| ex_then ?_
     refine wpc_cond_t rfl ?_
     refine wpc_seq <| wpc_region <| wpl_q (q_pure rfl) rfl <| wpl_q (q_pure rfl) rfl <| wpl_nil <| ex_then <| wpc_ret ?_
     refine ex_then_ret ?_
     refine ret2 (.inl rfl) rfl rfl rfl ?_
     exact fun w1 h => ⟨(nl, []), ⟨by rw [rdSeq, if_pos hN]; rfl, SV.nil, fun x hx => by cases hx⟩, by rw [rdSeq, if_pos hN]; rfl, h.below, (show Mem w [] [.row nl 0 61 3 []] [] w1 from (h.nilRow 61 3).sel).made (Sub.refl _) .nil⟩
    ·
     try simp only [decide_eq_false_iff_not] at hb27
     have n3 : ¬ ((trs l).length : Int) < lo := by rw [trs_length]; omega
     refine wpl_on rfl rfl <| wpl_q (q_field Tryd.underlying61 rfl Tryd.ti59 rfl rfl _ rfl) rfl <| wpl_on rfl rfl <| wpl_q (q_ld Tryd.underlying59 rfl rfl rfl) rfl <| wpl_on rfl rfl ?_
     refine wpl_q (q_lenW Tryd.underlying59 rfl zz3) rfl ?_
     refine wpl_on rfl rfl <| wpl_q (q_pure rfl) rfl <| wpl_on rfl rfl <| wpl_q (q_pure rfl) rfl <| wpl_q (q_pure rfl) rfl <| wpl_nil <| ex_then ?_
     refine wpc_cond rfl (fun hc33 => ?_) (fun hc33 => ?_)
     ·
      simp only [decide_eq_true_eq] at hc33
      have hN : badL g lo hi (HT.nd tg bv bs lv l).tr := .inr (.inr (.inr (by show hi < ((trs l).length : Int); rw [trs_length]; omega)))
      refine wpc_seq <| wpc_region <| wpl_q (q_pure rfl) rfl <| wpl_q (q_pure rfl) rfl <| wpl_nil <| ex_then <| wpc_ret ?_
      refine ex_then_ret ?_
      refine ret2 (.inl rfl) rfl rfl rfl ?_
      exact fun w1 h => ⟨(nl, []), ⟨by rw [rdSeq, if_pos hN]; rfl, SV.nil, fun x hx => by cases hx⟩, by rw [rdSeq, if_pos hN]; rfl, h.below, (show Mem w [] [.row nl 0 61 3 []] [] w1 from (h.nilRow 61 3).sel).made (Sub.refl _) .nil⟩
     ·
      simp only [decide_eq_false_iff_not] at hc33
      have hB : ¬ badL g lo hi (HT.nd tg bv bs lv l).tr := by rintro (h | h | h | h); exact h n1; exact n2 h; exact n3 h; have h : hi < ((trs l).length : Int) := h; rw [trs_length] at h; omega
      refine wpc_skip <| ex_then <| wpc_seq <| wpc_region <| wpl_q (q_ldN Tryd.underlying61 rfl Tryd.ti61 rfl LenC.h) rfl ?_
      refine wpl_tp (t_callE (fun y : HT => (y.ents ++ [.blk b4 61 [.int .u8 (tg.toNat : Int), bv, lv]])) (fun y => List.Perm.refl _) Tryd.hb45 rfl fun w h => octTwin (.nd tg bv bs lv l) w (ht.old h) hsm) rfl (fun b35 p35 => ?_)
      obtain ⟨g2, v2, cs2, u2, m2⟩ := b35
      obtain ⟨e35, sv2, su2⟩ := p35
      refine wpl_q (q_fieldC Tryd.underlying61 rfl Tryd.underlying59 rfl rfl rfl) rfl <| wpl_q (q_pure rfl) rfl <| wpl_q (q_pure rfl) rfl <| wpl_nil <| ex_then <| wpc_ret ?_
      refine ret2 (.inl rfl) rfl rfl rfl ?_
      exact fun w h => ⟨(u2, m2), ⟨by rw [rdSeq, if_neg hB]; exact congrArg Tr.kids e35, su2, HSeenL.sv (Mem.hseen h (t := .nd g2 v2 cs2 u2 m2)).2.2⟩, by rw [rdSeq, if_neg hB]; rfl, h.below, h.made (.drop (sub_left (.row u2 m2.length 61 3 (hcs m2) :: entsL m2) _)) .nil⟩
theorem octSeq (tg : UInt8) (lv : Value) (l : List HT) (w : World) (hlv : Seen w.cell? lv l.length 3 (hcs l)) (hhl : HSeenL w.cell? l) (hsm : Sm (Tr.nd tg [] (trs l))) :
    Calls Tryd.prog 23 [.int .u8 tg.toNat, lv].toArray w (GivesP w (fun y : HT => y.tr = Tr.nd tg [] (trs l) ∧ y.sv) (fun y => .agg y.c.toArray) (fun y => y.ents) (fun _ => [])) := by
  have slv := hlv.sv
  have llv := slv.le
  simp only [maxLen] at llv
  have ht : HSeen w.cell? (.nd tg nl [] lv l) := ⟨seen_nil _ 5 1, hlv, hhl⟩
  refine enter (m := 9) (R := Mem w [] [] []) Tryd.func23 rfl rfl (Nat.le_of_ble_eq_true rfl) (Mem.start w) ?_
  refine wpc_seq <| wpc_region ?_
  refine wpl_t (t_alloc Tryd.ti61 [.int .u8 0, nl, nl] rfl) rfl (fun b4 => ?_)
  refine wpl_nil <| ex_then <| wpc_seq <| wpc_region <| wpl_q (q_pure rfl) rfl <| wpl_q (q_pure rfl) rfl ?_
  refine wpl_q (q_build (cs := [.int .u8 (tg.toNat : Int), nl, lv]) rfl (built_o2 tg slv)) rfl ?_
  refine wpl_tp (t_callE (fun y : HT => .blk b4 61 [.int .u8 0, nl, nl] :: y.ents) (fun y => List.perm_append_comm) Tryd.hb45 rfl fun w h => octTwin (.nd tg nl [] lv l) w (ht.old h) hsm) rfl (fun b8 p8 => ?_)
  haveI := p8.2.one
  refine wpl_t0 (t_stA Tryd.ti61 rfl rfl LenC.h OneC.h LenC.h) (fun _ => ?_)
  refine wpl_nil <| ex_then <| wpc_ret ?_
  refine retv1 (.inl rfl) rfl (rv_agg Tryd.underlying61 rfl Tryd.ti61 rfl (fun w h => h.atB) LenC.h) ?_
  exact fun w1 h => ⟨b8, p8, rfl, h.below, h.made (.drop (Sub.refl _)) .nil⟩
end Go.Proofs.YtgnablliekgbgaaDoor
namespace Go.Proofs.YtgnablliekgbgaaDoor
open Go Go.PL Go.RowKit
theorem frz {P : Program} {k : FuncId} {vs : Array Value} {w : World} {p : HT → Prop} {V : HT → Value} (h : Calls P k vs w (GivesP w p V (fun y => y.ents) (fun _ => []))) : Calls P k vs w (GivesP w p V (fun _ => []) (fun y => [Go.Proofs.YtgnablliekgbgaaDoor.hseen y])) := by
  refine h.mono ?_
  rintro e w' ⟨y, hp, rfl, hb, hn⟩
  have hm := (Mem.start w).call hb hn
  rw [List.append_nil, List.append_nil] at hm
  exact ⟨y, hp, rfl, hb, new_freeze hm⟩
end Go.Proofs.YtgnablliekgbgaaDoor
namespace Go.Proofs.YtgnablliekgbgaaDoor
open Go Go.PL Go.RowKit
def StabT (K : List Nat → World → Prop) : Prop := ∀ T T' w1 w2, K T w1 → Mem w1 T [] [] w2 → (∀ k, k ∈ T' → (k ∈ T ∨ w1.heap.size ≤ k) ∧ k < w2.heap.size) → K T' w2
def YieldN (P : Program) (l : Nat) {α ι : Type} (encs : α → ι → Array Value) (xs : List α) (J : List Nat → List α → World → Prop) (K : List Nat → World → Prop) : Prop :=
  ∀ T pre x i w1, J T pre w1 → (pre ++ [x]) <+: xs → YieldAt Fence.wide 0 P l (encs x i) w1 fun e w' =>
    ((e = .returned (.bool true) ∧ J T (pre ++ [x]) w') ∨ (e = .returned (.bool false) ∧ K T w')) ∧ ∀ k, k ∈ T → w'.heap[k]? = w1.heap[k]?
def IterPostN {α : Type} (J : List Nat → List α → World → Prop) (K : List Nat → World → Prop) (xs : List α) (e : Ending) (w : World) : Prop := (∃ v, e = .returned v) ∧ ((∃ T, J T xs w) ∨ ∃ T, K T w)
def IterN (P : Program) (gf : FuncId) (lb : Array Value) {α ι : Type} (encs : α → ι → Array Value) (Inv : World → Prop) (xs : List α) (T0 : List Nat) (W : World) : Prop :=
  ∀ (l : Nat) (J : List Nat → List α → World → Prop) (K : List Nat → World → Prop), StabJ J → (∀ T pre w1, J T pre w1 → Inv w1) → StabT K → YieldN P l encs xs J K →
    J T0 [] W → Calls P gf (#[.func (.yield l) #[] #[]] ++ lb) W (IterPostN J K xs)
theorem iter_doneN {α : Type} {J : List Nat → List α → World → Prop} {K : List Nat → World → Prop} {xs : List α} {v : Value} {wb w : World} {T0 : List Nat} {M : List Ent} {S : List Fact} (hst : StabJ J) (hJ : J T0 xs wb) (h : Mem wb T0 M S w) : IterPostN J K xs (.returned v) w :=
  ⟨⟨v, rfl⟩, .inl ⟨[], hst _ _ _ _ _ hJ (h.sub .nil .nil) (fun k hk => by cases hk)⟩⟩
theorem iter_stopN {α : Type} {J : List Nat → List α → World → Prop} {K : List Nat → World → Prop} {xs : List α} {v : Value} {wb w : World} {T0 : List Nat} {M : List Ent} {S : List Fact} (hsk : StabT K) (hK : K T0 wb) (h : Mem wb T0 M S w) : IterPostN J K xs (.returned v) w :=
  ⟨⟨v, rfl⟩, .inr ⟨[], hsk _ _ _ _ hK (h.sub .nil .nil) (fun k hk => by cases hk)⟩⟩
theorem asEnts (w : World) : ∀ (T : List Nat), (∀ j ∈ T, j < w.heap.size) → ∃ TE : List Ent, (∀ e ∈ TE, ∃ j o, e = .obj j o ∧ j ∈ T ∧ w.heap[j]? = some o) ∧ (∀ j ∈ T, ∃ o, Ent.obj j o ∈ TE) ∧ TE.Pairwise fun e f => ∀ k, e.num = some k → f.num ≠ some k
  | [], _ => ⟨[], fun e he => (by cases he), fun j hj => (by cases hj), .nil⟩
  | j :: T, h => by
    obtain ⟨TE, h1, h2, h3⟩ := asEnts w T fun k hk => h k (List.mem_cons_of_mem _ hk)
    by_cases hj : j ∈ T
    · refine ⟨TE, fun e he => ?_, fun k hk => ?_, h3⟩
      · obtain ⟨a, o, e1, e2, e3⟩ := h1 e he
        exact ⟨a, o, e1, List.mem_cons_of_mem _ e2, e3⟩
      · rcases List.mem_cons.1 hk with rfl | hk
        · exact h2 _ hj
        · exact h2 _ hk
    · have hlt := h j (List.mem_cons_self ..)
      refine ⟨.obj j (w.heap[j]) :: TE, fun e he => ?_, fun k hk => ?_, List.pairwise_cons.2 ⟨fun f hf k hk hfk => ?_, h3⟩⟩
      · rcases List.mem_cons.1 he with rfl | he
        · exact ⟨j, _, rfl, List.mem_cons_self .., Array.getElem?_eq_getElem hlt⟩
        · obtain ⟨a, o, e1, e2, e3⟩ := h1 e he
          exact ⟨a, o, e1, List.mem_cons_of_mem _ e2, e3⟩
      · rcases List.mem_cons.1 hk with rfl | hk
        · exact ⟨_, List.mem_cons_self ..⟩
        · obtain ⟨o, ho⟩ := h2 k hk
          exact ⟨o, List.mem_cons_of_mem _ ho⟩
      · obtain ⟨a, o, rfl, e2, _⟩ := h1 f hf
        cases hk; cases hfk
        exact hj e2
def Nest (B : List Nat → World → Prop) (MM : List Ent) (T : List Nat) (w : World) : Prop := B (nums MM ++ T) w ∧ Mem w (nums MM) MM [] w ∧ ∀ j ∈ T, inM MM j = false ∧ j < w.heap.size
theorem nest_stab {B : List Nat → World → Prop} (hB : StabT B) (MM : List Ent) : StabT (Nest B MM) := by
  rintro T T' w1 w2 ⟨j1, j2, j3⟩ hc hT
  have hlt : ∀ k, k ∈ nums MM → k < w1.heap.size := fun k hk => (nums_lt j2 k hk).2
  have hkeep : ∀ k, k ∈ nums MM → w2.heap[k]? = w1.heap[k]? := fun k hk => hc.old k (hlt k hk) fun hm => by
    obtain ⟨e, he, hn⟩ := mem_nums.1 hk
    exact inM_not (j3 k hm).1 e he hn
  refine ⟨hB _ _ _ _ j1 (hc.lend fun k hk => List.mem_append_right _ hk) fun k hk => ?_, j2.again hkeep, fun j hj => ?_⟩
  · rcases List.mem_append.1 hk with hk | hk
    · exact ⟨.inl (List.mem_append_left _ hk), Nat.lt_of_lt_of_le (hlt k hk) hc.size⟩
    · obtain ⟨h1, h2⟩ := hT k hk
      exact ⟨h1.imp (fun h => List.mem_append_right _ h) id, h2⟩
  · obtain ⟨h1, h2⟩ := hT j hj
    refine ⟨?_, h2⟩
    rcases h1 with h1 | h1
    · exact (j3 j h1).1
    · cases hm : inM MM j
      · rfl
      · obtain ⟨e, he, hn⟩ := inM_iff.1 hm
        have := hlt j (mem_nums.2 ⟨e, he, hn⟩)
        omega
theorem stabJ_T {α : Type} {J : List Nat → List α → World → Prop} (h : StabJ J) (pre : List α) : StabT (fun T w => J T pre w) := fun T T' w1 w2 h1 hc hT => h T T' pre w1 w2 h1 hc hT
theorem nest_back {B : List Nat → World → Prop} (hB : StabT B) {M TE : List Ent} {T T3 : List Nat} {l D : Nat} {o o' od : Obj} {u w2 w3 : World} (h1 : ∀ e ∈ TE, ∃ j o, e = .obj j o ∧ j ∈ T ∧ w2.heap[j]? = some o) (h2 : ∀ j ∈ T, ∃ o, Ent.obj j o ∈ TE)
    (hb : B T3 u) (hm : Mem u T3 (M ++ ([.obj l o, .obj D od] ++ TE)) [] w3) : Nest B ([.obj l o', .obj D od] ++ M) T (w3.putObj l o') ∧ ∀ j ∈ T, (w3.putObj l o').heap[j]? = w2.heap[j]? := by
  have hp1 : Mem u T3 (.obj l o :: .obj D od :: (M ++ TE)) [] w3 := hm.perm (by
    have q := List.perm_append_comm_assoc M [Ent.obj l o, Ent.obj D od] TE
    exact q)
  have hp2 : Mem u T3 (([.obj l o', .obj D od] ++ M) ++ TE) [] (w3.putObj l o') := hp1.putO .here
  have hp3 := List.pairwise_append.1 hp2.apart
  have hin : ∀ j ∈ T, ∃ ob, Ent.obj j ob ∈ TE ∧ (w3.putObj l o').heap[j]? = some ob ∧ w2.heap[j]? = some ob := fun j hj => by
    obtain ⟨ob, ho⟩ := h2 j hj
    obtain ⟨j', o2, e1, _, e3⟩ := h1 _ ho
    cases e1
    exact ⟨ob, ho, hp2.own _ (List.mem_append_right _ ho), e3⟩
  refine ⟨⟨hB _ _ _ _ hb (hp2.sub .nil .nil) fun k hk => nums_lt hp2 k ?_, Mem.startL _ (fun e he => hp2.own e (List.mem_append_left _ he)) hp3.1, fun j hj => ?_⟩, fun j hj => ?_⟩
  · rcases List.mem_append.1 hk with hk | hk
    · obtain ⟨e, he, hn⟩ := mem_nums.1 hk
      exact mem_nums.2 ⟨e, List.mem_append_left _ he, hn⟩
    · obtain ⟨ob, ho, _⟩ := hin k hk
      exact mem_nums.2 ⟨_, List.mem_append_right _ ho, rfl⟩
  · obtain ⟨ob, ho, h3, _⟩ := hin j hj
    refine ⟨?_, (Array.getElem?_eq_some_iff.1 h3).1⟩
    cases hm : inM ([.obj l o', .obj D od] ++ M) j
    · rfl
    · obtain ⟨e, he, hn⟩ := inM_iff.1 hm
      exact absurd rfl (hp3.2.2 e he _ ho j hn)
  · obtain ⟨ob, _, h3, h4⟩ := hin j hj
    rw [h3, h4]
class FR (F : Fence) : Prop where
  depth : F.depth = none
  fn : ∀ f, F.fn f
  round : ∀ {P : Program} {l : Nat} {f : FuncId} {tmps : Array Value} {assign body : Code} {w : World} {R : Ending → World → Prop}, RoundIn Fence.wide 0 P l f tmps assign body w R → RoundIn F 0 P l f tmps assign body w R
instance fr_wide : FR Fence.wide := ⟨rfl, fun _ => trivial, id⟩
instance fr_round {l : Nat} : FR (Fence.wide.inRound l) := ⟨rfl, fun _ => trivial, fun h => h⟩
section
variable {F : Fence} {P : Program} {n : Cx} {R : World → Prop} {L : Slots} {Q : Exit → Act → World → Prop} {ops : Array Oper} {rest : List Oper} {op : Op} {ty : TypeId} {pos : String} {af : Array Edge} {d : Tmp}
theorem wil_yieldN [hF : FR F] {x : Operand} {args : Array Operand} {at_ : Array TypeId} {l : Nat} {vs : List Value} {α ι : Type} {encs : α → ι → Array Value} {xs : List α} {J : List Nat → List α → World → Prop} {K : List Nat → World → Prop}
    {wb : World} {T0 : List Nat} {M : List Ent} {S : List Fact} {pre : List α} (y : α) (i : ι)
    (hx : ev L x = some (.func (.yield l) #[] #[])) (hv : evs L args.toList = some vs) (hst : StabJ J) (hy : YieldN P l encs xs J K) (hJ : J T0 pre wb) (hpre : (pre ++ [y]) <+: xs) (he : encs y i = vs.toArray) (hd : Nat.blt d n.n = true)
    (ht : ∀ u, J (nums M) (pre ++ [y]) u → WPLI F P ops Q n (Mem u (nums M) M []) ((d, .bool true) :: L) rest)
    (hf : ∀ u, K (nums M) u → WPLI F P ops Q n (Mem u (nums M) M []) ((d, .bool false) :: L) rest) :
    WPLI F P ops Q n (Mem wb T0 M S) L (⟨some d, .call { callee := .value x, args := args, argTypes := at_ }, ty, pos, af, none⟩ :: rest) := by
  intro a w hs h
  have hargs : args.map a.eval = vs.toArray := by
    have e : (args.map a.eval).toList = vs := by rw [Array.toList_map]; exact evs_eval hs hv
    rw [← e]
  have hJ' : J (nums M) pre w := hst _ _ _ _ _ hJ (h.sub .nil .nil) (nums_lt h)
  obtain ⟨fn, tmps, assign, body, hrun, hround⟩ := hy (nums M) pre y i w hJ' hpre
  rw [he] at hrun
  unfold wpListIn
  simp only [Region.wanted, if_true]
  refine ⟨fun f _ => hF.fn f, ?_⟩
  have hrun' : (execOp a.eval ⟨some d, .call { callee := .value x, args := args, argTypes := at_ }, ty, pos, af, none⟩).run P w = .ok (.round l fn tmps assign body) w := by
    simp only [execOp, resolve, hs.eval hx, hargs]
    simp [Deferred.ofValue, invoke, hrun]
  rw [Oper.semAt_eq _ _ _ (fun c h => by cases h), hrun', Oper.uponIn_round]
  refine ⟨fun e => (by rw [hF.depth] at e; cases e), hF.round (RoundIn.mono hround ?_)⟩
  rintro e w' ⟨h1, hk⟩
  rcases h1 with ⟨rfl, j1⟩ | ⟨rfl, k1⟩
  · exact ht w' j1 _ _ (hs.put hd _) (h.again hk)
  · exact hf w' k1 _ _ (hs.put hd _) (h.again hk)
end
theorem wpc_rangeN {P : Program} {Q : Exit → Act → World → Prop} {gx : Operand} {ps : Array Tmp} {assign body : Code} {k : Nat} {ds : List Deferred} {L : Slots} {wb : World} {Ln : List Nat} {S : List Fact} {α ι β : Type} {gf : FuncId} {lb : Array Value}
    {encs : α → ι → Array Value} {Inv : World → Prop} {xs : List α} {J : List Nat → List α → World → Prop} {K : List Nat → World → Prop} (E0 M : List Ent) (pre0 : List α) (Ma : α → ι → β → List Ent) (L1 : α → ι → β → Slots)
    (hst : StabJ J) (hsk : StabT K) (hinv : ∀ T pre w, J T pre w → Inv w) (hJ : J Ln pre0 wb)
    (hg : ev L gx = some (.func (.func gf) #[] lb)) (hbd : HasBody P gf)
    (hit : ∀ w, Mem wb Ln (E0 ++ M) S w → Inv w → IterN P gf lb encs Inv xs (nums E0) w)
    (hps : ∀ x i, (encs x i).size = ps.size) (hpk : ∀ p ∈ ps.toList, p < k)
    (hassign : ∀ (l : Nat) (x : α) (i : ι) (w1 : World) (K : Act → World → Prop), x ∈ xs → (∀ b a w, Sl ⟨k, []⟩ a (L1 x i b) → Mem w1 [] (Ma x i b) [] w → K a w) →
      WPCI (Fence.wide.inRound l) P (Exit.then K (fun _ _ _ => False)) ⟨k, []⟩ (Mem w1 [] [] []) (addSlots ps.toList (encs x i).toList L) assign)
    (hbody : ∀ (l : Nat) (pre : List α) (x : α) (i : ι) (b : β) (w1 : World) (LO : List Ent), J (nums (Ma x i b ++ (M ++ LO))) (pre0 ++ pre) w1 → (pre ++ [x]) <+: xs →
      WPCI (Fence.wide.inRound l) P (RoundPostS (fun w' => ∃ u T, J T (pre0 ++ (pre ++ [x])) u ∧ Mem u T (M ++ LO) [] w') (fun c w' => c = .ret ∧ ∃ u T, K T u ∧ Mem u T (M ++ LO) [] w')) ⟨k, []⟩ (Mem w1 (nums (Ma x i b ++ (M ++ LO))) (Ma x i b ++ (M ++ LO)) []) (L1 x i b) body)
    (hdone : ∀ D u T, J T (pre0 ++ xs) u → EX Q .normal ⟨k, Go.PL.mark D :: ds⟩ (Mem u T (Ent.obj D (.deferred (some [])) :: M) []) L)
    (hstop : ∀ D u T, K T u → WPC P Q ⟨k, Go.PL.mark D :: ds⟩ (Mem u T (Ent.obj D (.deferred (some [])) :: M) []) L .ret) :
    WPC P Q ⟨k, ds⟩ (Mem wb Ln (E0 ++ M) S) L (.rangeFunc gx ps assign body) := by
  intro a w hs hr
  refine (wpIn_wide (n := 0)).1 (wpIn_rangeFunc ?_)
  intro fn hfn
  obtain ⟨rec, hrec⟩ : ∃ rec : LoopState → Option Code → Loop, rec = fun st pe => { state := st, pending := pe, fn, tmps := a.tmps, params := ps, assign, body, defers := w.heap.size } := ⟨_, rfl⟩
  obtain ⟨W1, hW1⟩ : ∃ W1, (w.alloc (.deferred (some []))).alloc (.loop (rec .ready none)) = W1 := ⟨_, rfl⟩
  have hM1 : Mem wb Ln (.obj (w.heap.size + 1) (.loop (rec .ready none)) :: Ent.obj w.heap.size (.deferred (some [])) :: (E0 ++ M)) S W1 := by
    have := (hr.allocO (.deferred (some []))).allocO (.loop (rec .ready none))
    rw [World.size_alloc] at this
    rw [← hW1, hrec]; rw [hrec] at this; exact this
  have hr1 : Mem wb Ln (E0 ++ M) S W1 := hM1.sub (.drop (.drop (Sub.refl _))) (Sub.refl _)
  have hI1 : Inv W1 := hinv _ _ _ (hst _ (nums (E0 ++ M)) _ _ _ hJ (hr1.sub .nil .nil) (nums_lt hr1))
  refine ⟨w.heap.size + 1, [Go.PL.mark w.heap.size], W1, { target := .fn (.func gf) lb, args := #[.func (.yield (w.heap.size + 1)) #[] #[]] }, W1, gf, #[.func (.yield (w.heap.size + 1)) #[] #[]] ++ lb, W1, ?_, ?_, fun _ _ => trivial, ?_, fun e => by simp [Fence.wide] at e, ?_⟩
  · rw [← hW1, hrec]; exact run_enterLoop_outer _ _ _ _ _
  · simp only [resolve, rangeCall, hs.eval hg]
    simp [go_sem]
  · simp [invoke, run_callFunc hbd]
  · refine callsIn_wide.2 ?_
    have hM2 : Mem wb Ln ([Ent.obj (w.heap.size + 1) (.loop (rec .ready none)), Ent.obj w.heap.size (.deferred (some []))] ++ M) S W1 := hM1.sub (.keep (.keep (sub_app _ _))) (Sub.refl _)
    have hJ0 : Nest (fun T w' => J T (pre0 ++ []) w') ([Ent.obj (w.heap.size + 1) (.loop (rec .ready none)), Ent.obj w.heap.size (.deferred (some []))] ++ M) (nums E0) W1 := by
      have hp : ([Ent.obj (w.heap.size + 1) (.loop (rec .ready none)), Ent.obj w.heap.size (.deferred (some []))] ++ (E0 ++ M)).Perm (([Ent.obj (w.heap.size + 1) (.loop (rec .ready none)), Ent.obj w.heap.size (.deferred (some []))] ++ M) ++ E0) := by
        rw [List.append_assoc]; exact List.Perm.append_left _ List.perm_append_comm
      have hM3 := Mem.perm hM1 hp
      refine ⟨?_, Mem.startL W1 hM2.own hM2.apart, fun j hj => ?_⟩
      · rw [List.append_nil]
        refine hst _ _ _ _ _ hJ (hM1.sub .nil .nil) fun k hk => nums_lt hM3 k ?_
        rcases List.mem_append.1 hk with hk | hk
        · obtain ⟨e, he, hn⟩ := mem_nums.1 hk
          exact mem_nums.2 ⟨e, List.mem_append_left _ he, hn⟩
        · obtain ⟨e, he, hn⟩ := mem_nums.1 hk
          exact mem_nums.2 ⟨e, List.mem_append_right _ he, hn⟩
      · obtain ⟨e, he, hn⟩ := mem_nums.1 hj
        refine ⟨?_, Ent.lt (hM3.own e (List.mem_append_right _ he)) hn⟩
        cases hm : inM ([Ent.obj (w.heap.size + 1) (.loop (rec .ready none)), Ent.obj w.heap.size (.deferred (some []))] ++ M) j
        · rfl
        · obtain ⟨f, hf, hfn⟩ := inM_iff.1 hm
          exact absurd hn ((List.pairwise_append.1 hM3.apart).2.2 f hf e he j hfn)
    refine (hit W1 hr1 hI1 (w.heap.size + 1) (fun T pre w' => Nest (fun T w' => J T (pre0 ++ pre) w') ([Ent.obj (w.heap.size + 1) (.loop (rec .ready none)), Ent.obj w.heap.size (.deferred (some []))] ++ M) T w')
      (Nest K ([Ent.obj (w.heap.size + 1) (.loop (rec .done (some .ret))), Ent.obj w.heap.size (.deferred (some []))] ++ M)) ?_ ?_ (nest_stab hsk _) ?_ hJ0).mono ?_
    · exact fun T T' pre w1 w2 h hc hT => nest_stab (stabJ_T hst (pre0 ++ pre)) _ T T' w1 w2 h hc hT
    · exact fun T pre w1 h => hinv _ _ _ h.1
    · rintro T pre x i w1 ⟨j1, j2, j3⟩ hpre
      have hl : w1.heap[w.heap.size + 1]? = some (.loop (rec .ready none)) := j2.own _ (List.mem_cons_self ..)
      have hy := run_yield (P := P) (args := encs x i) hl (by rw [hrec]; exact hps x i)
      rw [hrec] at hy
      refine ⟨fn, _, assign, body, hy, roundIn_of_wpIn hfn ?_⟩
      have hsl : Sl ⟨k, []⟩ { tmps := ((ps.zip (encs x i)).foldl (fun t (p, v) => t.setIfInBounds p v) a.tmps), defers := [] } (addSlots ps.toList (encs x i).toList L) := by
        have hs0 : Sl ⟨k, []⟩ { tmps := a.tmps, defers := [] } L := ⟨hs.size, rfl, hs.tmp⟩
        have := sl_adds ps.toList (encs x i).toList L a.tmps k (by simpa using (hps x i).symm) hpk hs0
        rw [← Array.foldl_toList, Array.toList_zip]
        exact this
      refine hassign (w.heap.size + 1) x i w1 _ (hpre.subset (List.mem_append_right _ (List.mem_singleton.2 rfl))) (fun b a1 wa hs1 hwa => ?_) _ w1 hsl (Mem.start w1)
      have jA := j2.beside hwa
      have hla : wa.heap[w.heap.size + 1]? = some (.loop (rec .ready none)) := jA.own _ (List.mem_append_right _ (List.mem_cons_self ..))
      have jA2 := jA.perm (List.perm_append_comm_assoc (Ma x i b) [Ent.obj (w.heap.size + 1) (.loop (rec .ready none)), Ent.obj w.heap.size (.deferred (some []))] M)
      obtain ⟨w2, hw2⟩ : ∃ w2, wa.putObj (w.heap.size + 1) (.loop { rec .ready none with state := .busy }) = w2 := ⟨_, rfl⟩
      have jB : Mem w1 (nums ([Ent.obj (w.heap.size + 1) (.loop (rec .ready none)), Ent.obj w.heap.size (.deferred (some []))] ++ M)) ([Ent.obj (w.heap.size + 1) (.loop { rec .ready none with state := .busy }), Ent.obj w.heap.size (.deferred (some []))] ++ (Ma x i b ++ M)) [] w2 := by
        rw [← hw2]; exact jA2.putO .here
      have hbr : (Instr.beginRound (w.heap.size + 1)).run P wa = .ok () w2 := by rw [← hw2]; exact run_beginRound hla (by rw [hrec])
      have hTk : ∀ j, j ∈ T → w2.heap[j]? = w1.heap[j]? := fun j hj => by
        have hne : j ≠ w.heap.size + 1 := fun e => by
          subst e
          exact inM_not (j3 _ hj).1 _ (List.mem_cons_self ..) rfl
        rw [← hw2, World.putObj_heap_other hne]
        exact hwa.old j (j3 j hj).2 zz40
      obtain ⟨TE, t1, t2, t3⟩ := asEnts w2 T fun j hj => Nat.lt_of_lt_of_le (j3 j hj).2 jB.size
      have jC : Mem w1 (nums ([Ent.obj (w.heap.size + 1) (.loop (rec .ready none)), Ent.obj w.heap.size (.deferred (some []))] ++ M)) (Ma x i b ++ (M ++ [Ent.obj (w.heap.size + 1) (.loop { rec .ready none with state := .busy }), Ent.obj w.heap.size (.deferred (some []))])) [] w2 := jB.perm (List.perm_append_comm.trans (by rw [List.append_assoc]))
      have hXY : (Ma x i b ++ (M ++ ([Ent.obj (w.heap.size + 1) (.loop { rec .ready none with state := .busy }), Ent.obj w.heap.size (.deferred (some []))] ++ TE))) = (Ma x i b ++ (M ++ [Ent.obj (w.heap.size + 1) (.loop { rec .ready none with state := .busy }), Ent.obj w.heap.size (.deferred (some []))])) ++ TE := by simp only [List.append_assoc]
      have hall : Mem w2 (nums (Ma x i b ++ (M ++ ([Ent.obj (w.heap.size + 1) (.loop { rec .ready none with state := .busy }), Ent.obj w.heap.size (.deferred (some []))] ++ TE)))) (Ma x i b ++ (M ++ ([Ent.obj (w.heap.size + 1) (.loop { rec .ready none with state := .busy }), Ent.obj w.heap.size (.deferred (some []))] ++ TE))) [] w2 := by
        rw [hXY]
        refine Mem.startL w2 (fun e he => ?_) (List.pairwise_append.2 ⟨jC.apart, t3, fun e he f hf j hn hfn => ?_⟩)
        · rcases List.mem_append.1 he with he | he
          · exact jC.own e he
          · obtain ⟨j, o, rfl, _, ho⟩ := t1 e he
            exact ho
        · obtain ⟨j', o, rfl, hj, _⟩ := t1 f hf
          cases hfn
          rcases jC.new e he j hn with h | h
          · have := (j3 j hj).2; omega
          · obtain ⟨g, hg2, hgn⟩ := mem_nums.1 h
            exact inM_not (j3 j hj).1 g hg2 hgn
      have hJ2 : J (nums (Ma x i b ++ (M ++ ([Ent.obj (w.heap.size + 1) (.loop { rec .ready none with state := .busy }), Ent.obj w.heap.size (.deferred (some []))] ++ TE)))) (pre0 ++ pre) w2 := by
        refine hst _ _ _ w1 w2 j1 ((jC.sub .nil .nil).lend fun k hk => List.mem_append_left _ hk) fun k hk => ?_
        rw [hXY] at hk
        obtain ⟨e, he, hn⟩ := mem_nums.1 hk
        rcases List.mem_append.1 he with he | he
        · obtain ⟨q1, q2⟩ := nums_lt jC k (mem_nums.2 ⟨e, he, hn⟩)
          exact ⟨q1.imp (fun h => List.mem_append_left _ h) id, q2⟩
        · obtain ⟨j, o, rfl, hj, ho⟩ := t1 e he
          cases hn
          exact ⟨.inl (List.mem_append_right _ hj), (Array.getElem?_eq_some_iff.1 ho).1⟩
      refine ⟨w2, hbr, wpIn_mono (hbody (w.heap.size + 1) pre x i b w2 _ hJ2 hpre a1 w2 hs1 hall) ?_⟩
      rintro e a3 w3 hp
      cases e with
      | normal =>
        obtain ⟨u, T3, hb, hm⟩ : ∃ u T3, J T3 (pre0 ++ (pre ++ [x])) u ∧ Mem u T3 (M ++ ([Ent.obj (w.heap.size + 1) (.loop { rec .ready none with state := .busy }), Ent.obj w.heap.size (.deferred (some []))] ++ TE)) [] w3 := hp
        have hl3 : w3.heap[w.heap.size + 1]? = some (.loop { rec .ready none with state := .busy }) := hm.own _ (List.mem_append_right _ (List.mem_cons_self ..))
        have hend := run_endRound (P := P) none hl3
        have hback : { { rec .ready none with state := .busy } with state := if (none : Option Code).isNone then .ready else .done, pending := none } = rec .ready none := by rw [hrec]; rfl
        rw [hback] at hend
        obtain ⟨n1, n2⟩ := nest_back (o' := .loop (rec .ready none)) (stabJ_T hst (pre0 ++ (pre ++ [x]))) t1 t2 hb hm
        exact ⟨_, _, hend, .inl ⟨rfl, n1⟩, fun j hj => (n2 j hj).trans (hTk j hj)⟩
      | ret =>
        obtain ⟨_, u, T3, hb, hm⟩ : Code.ret = .ret ∧ ∃ u T3, K T3 u ∧ Mem u T3 (M ++ ([Ent.obj (w.heap.size + 1) (.loop { rec .ready none with state := .busy }), Ent.obj w.heap.size (.deferred (some []))] ++ TE)) [] w3 := hp
        have hl3 : w3.heap[w.heap.size + 1]? = some (.loop { rec .ready none with state := .busy }) := hm.own _ (List.mem_append_right _ (List.mem_cons_self ..))
        have hend := run_endRound (P := P) (some .ret) hl3
        have hback : { { rec .ready none with state := .busy } with state := if (some Code.ret : Option Code).isNone then .ready else .done, pending := some .ret } = rec .done (some .ret) := by rw [hrec]; rfl
        rw [hback] at hend
        obtain ⟨n1, n2⟩ := nest_back (o' := .loop (rec .done (some .ret))) hsk t1 t2 hb hm
        exact ⟨_, _, hend, .inr ⟨rfl, n1⟩, fun j hj => (n2 j hj).trans (hTk j hj)⟩
      | exit id => exact (Code.noConfusion (hp : Code.exit id = .ret ∧ _).1)
      | goto t => exact (hp : False).elim
      | panic ch => exact (hp : False).elim
      | outgrown => exact (hp : False).elim
    · rintro e w2 ⟨⟨v, rfl⟩, (⟨T, j1, j2, j3⟩ | ⟨T, j1, j2, j3⟩)⟩
      · have hl : w2.heap[w.heap.size + 1]? = some (.loop (rec .ready none)) := j2.own _ (List.mem_cons_self ..)
        have hend := run_endLoop (P := P) hl (by rw [hrec]; simp)
        have hpn : (rec .ready none).pending = none := by rw [hrec]
        rw [hpn] at hend
        refine ⟨none, _, hend, ?_⟩
        have hd : a.defers = ds := hs.defers
        refine hdone w.heap.size w2 _ j1 _ _ ⟨hs.size, by simp [hd], hs.tmp⟩ ?_
        exact ((j2.lend fun k hk => List.mem_append_left _ hk).putO .here).sub (.drop (Sub.refl _)) .nil
      · have hl : w2.heap[w.heap.size + 1]? = some (.loop (rec .done (some .ret))) := j2.own _ (List.mem_cons_self ..)
        have hend := run_endLoop (P := P) hl (by rw [hrec]; simp)
        have hpn : (rec .done (some .ret)).pending = some .ret := by rw [hrec]
        rw [hpn] at hend
        refine ⟨some .ret, _, hend, ?_⟩
        have hd : a.defers = ds := hs.defers
        refine (wpIn_wide (n := 0)).2 (hstop w.heap.size w2 _ j1 _ _ ⟨hs.size, by simp [hd], hs.tmp⟩ ?_)
        exact ((j2.lend fun k hk => List.mem_append_left _ hk).putO .here).sub (.drop (Sub.refl _)) .nil
end Go.Proofs.YtgnablliekgbgaaDoor
namespace Go.Proofs.YtgnablliekgbgaaDoor
open Go Go.PL Go.RowKit
section
variable {P : Program} {R : World → Prop} {L : Slots} {Q : Exit → Act → World → Prop}
def AgainD (k : Nat) {ι : Type} (ds : ι → List Deferred) (Li : ι → Slots) (Ri : ι → World → Prop) (μ : ι → Nat) (x : ι) (a : Act) (w : World) : Prop := ∃ y, Sl ⟨k, ds y⟩ a (Li y) ∧ Ri y w ∧ μ y < μ x
theorem wpc_loopd {k : Nat} {c : Code} {ι : Type} (ds : ι → List Deferred) (Li : ι → Slots) (Ri : ι → World → Prop) (μ : ι → Nat) (x0 : ι) (h0 : subs L (Li x0)) (hR : ∀ w, R w → Ri x0 w)
    (round : ∀ x, WPC P (Exit.then (AgainD k ds Li Ri μ x) Q) ⟨k, ds x⟩ (Ri x) (Li x) c) : WPC P Q ⟨k, ds x0⟩ R L (.loop c) := by
  intro a w hs hr
  have key : ∀ m x a w, μ x = m → Sl ⟨k, ds x⟩ a (Li x) → Ri x w → ∀ (b : Frame) (k : List Item) (cs : List Frame),
      ∃ e a' w', Q e a' w' ∧ Arrives P (lone (b.at a (.code c :: .inLoop c :: k)) cs w) b k cs e a' w' := by
    intro m
    induction m using Nat.strongRecOn with
    | _ m ih =>
      intro x a w hm hs hr b k cs
      obtain ⟨e, a₁, w₁, hq, harr⟩ := round x a w hs hr b (.inLoop c :: k) cs
      cases e with
      | normal =>
        obtain ⟨y, hs1, hr1, hlt⟩ := hq
        obtain ⟨e₂, a₂, w₂, hq₂, harr₂⟩ := ih (μ y) (hm ▸ hlt) y a₁ w₁ rfl hs1 hr1 b k cs
        exact ⟨e₂, a₂, w₂, hq₂, .of_steps (Steps.trans harr (.one step_inLoop)) harr₂⟩
      | exit id => exact ⟨_, a₁, w₁, hq, .pass (x := .inLoop c) rfl (fun _ _ => .inl zz40) harr⟩
      | goto l => exact ⟨_, a₁, w₁, hq, .pass (x := .inLoop c) rfl (fun _ _ => .inl zz40) harr⟩
      | ret => exact ⟨_, a₁, w₁, hq, .pass (x := .inLoop c) rfl (fun _ _ => .inl zz40) harr⟩
      | panic ch => exact ⟨_, a₁, w₁, hq, .pass (x := .inLoop c) rfl (fun _ _ => .inl zz40) harr⟩
      | outgrown => exact ⟨_, a₁, w₁, hq, .pass (x := .inLoop c) rfl (fun _ _ => .inl zz40) harr⟩
  intro b k cs
  obtain ⟨e, a', w', hq, harr⟩ := key _ x0 a w rfl (hs.weaken (subs_get h0)) (hR w hr) b k cs
  exact ⟨e, a', w', hq, .of_steps (.one step_loop) harr⟩
theorem ex_againD {k : Nat} {d : List Deferred} {ι : Type} {ds : ι → List Deferred} {Li : ι → Slots} {Ri : ι → World → Prop} {μ : ι → Nat} {x : ι} (y : ι) (hl : subs L (Li y)) (hr : ∀ w, R w → Ri y w) (hm : μ y < μ x) (hd : d = ds y := by rfl) :
    EX (Exit.then (AgainD k ds Li Ri μ x) Q) .normal ⟨k, d⟩ R L := by
  subst hd
  exact fun _ w hs h => ⟨y, hs.weaken (subs_get hl), hr w h, hm⟩
abbrev obD (D : Nat) : Ent := .obj D (.deferred (some []))
theorem leaves_marks {fn : Func} {tmps : Array Value} {post : Ending → World → Prop} {w0 : World} {Ln : List Nat} : ∀ (Ds : List Nat) (w : World), Mem w0 Ln (Ds.map obD) [] w → (∀ w', Mem w0 Ln [] [] w' → LeavesInM Fence.wide 0 P fn tmps post [] .returning w') → LeavesInM Fence.wide 0 P fn tmps post (Ds.map Go.PL.mark) .returning w
  | [], w, h, hq => hq w h
  | D :: Ds, w, h, hq => by
    have hD : w.heap[D]? = some (.deferred (some [])) := h.own _ (List.mem_cons_self ..)
    exact ⟨zz40, .inl ⟨D, _, rfl, run_takeDeferred hD, leaves_marks Ds _ ((h.putO .here).sub (.drop (Sub.refl _)) .nil) hq⟩⟩
theorem ex_marks {fn : Func} {post : Ending → World → Prop} {m : Nat} {Ds : List Nat} {e : Exit} {w0 : World} {Ln : List Nat} (he : e = .ret ∨ e = .normal)
    (h : EX (bodyPost P fn post) e ⟨m, []⟩ (Mem w0 Ln [] []) L) : EX (NPQ (bodyPostM Fence.wide 0 P fn post)) e ⟨m, Ds.map Go.PL.mark⟩ (Mem w0 Ln (Ds.map obD) []) L := by
  intro a w hs hw
  have hd : a.defers = Ds.map Go.PL.mark := hs.defers
  have key : ∀ w', Mem w0 Ln [] [] w' → LeavesInM Fence.wide 0 P fn a.tmps post [] .returning w' := fun w' h' => by
    have h1 := h { tmps := a.tmps, defers := [] } w' ⟨hs.size, rfl, hs.tmp⟩ h'
    rcases he with rfl | rfl
    · obtain ⟨_, v, hv, hp⟩ := h1
      exact ⟨v, hv, hp⟩
    · obtain ⟨_, v, hv, hp⟩ := h1
      exact ⟨v, hv, hp⟩
  have hl := leaves_marks Ds w hw key
  rcases he with rfl | rfl
  · show LeavesInM _ _ _ _ _ _ a.defers _ _
    rw [hd]; exact hl
  · show LeavesInM _ _ _ _ _ _ a.defers _ _
    rw [hd]; exact hl
end
mutual
def ord : HT → Nat → List (HT × Nat)
  | .nd g v bs u l, d => (.nd g v bs u l, d) :: ordL l (d + 1)
def ordL : List HT → Nat → List (HT × Nat)
  | [], _ => []
  | x :: l, d => ord x d ++ ordL l d
end
theorem ordL_append (a b : List HT) (d : Nat) : ordL (a ++ b) d = ordL a d ++ ordL b d := by
  induction a with
  | nil => rfl
  | cons x a ih => rw [List.cons_append, ordL, ih, ordL, List.append_assoc]
theorem ordL_take {l : List HT} {i d : Nat} (h : i < l.length) : ordL (l.take (i + 1)) d = ordL (l.take i) d ++ ord (l.getD i HT.z) d := by
  rw [take_succD HT.z h, ordL_append, ordL, ordL, List.append_nil]
theorem ordL_pre {l : List HT} {i d : Nat} (h : i ≤ l.length) : ordL (l.take i) d <+: ordL l d := by
  have e : l = l.take i ++ l.drop i := (List.take_append_drop i l).symm
  exact ⟨ordL (l.drop i) d, by rw [← ordL_append, ← e]⟩
theorem ord_seen {r : Rd} : ∀ {t : HT}, HSeen r t → ∀ {d : Nat} {y : HT × Nat}, y ∈ ord t d → HSeen r y.1 := by
  intro t
  induction t using HT.ind with
  | _ g v bs u l ih =>
    intro h d y hy
    rw [ord] at hy
    rcases List.mem_cons.1 hy with rfl | hy
    · exact h
    · have key : ∀ (m : List HT), (∀ x ∈ m, x ∈ l) → y ∈ ordL m (d + 1) → HSeen r y.1 := by
        intro m
        induction m with
        | nil => intro _ h; cases h
        | cons x m ih2 =>
          intro hm h2
          rw [ordL, List.mem_append] at h2
          rcases h2 with h2 | h2
          · exact ih x (hm x (List.mem_cons_self ..)) (HSeenL_iff.1 h.2.2 x (hm x (List.mem_cons_self ..))) h2
          · exact ih2 (fun x hx => hm x (List.mem_cons_of_mem _ hx)) h2
      exact key l (fun _ hx => hx) hy
def encO (x : HT × Nat) (_ : Unit) : Array Value := #[.agg x.1.c.toArray, .int .i64 ((x.2 : Nat) : Int)]
theorem ord_pre {g : UInt8} {v u : Value} {bs : List UInt8} {l : List HT} {i d : Nat} (h : i < l.length) {q : List (HT × Nat)} (hq : q <+: ord (l.getD i HT.z) (d + 1)) : ((HT.nd g v bs u l, d) :: ordL (l.take i) (d + 1)) ++ q <+: ord (.nd g v bs u l) d := by
  obtain ⟨r, hr⟩ := hq
  obtain ⟨r2, hr2⟩ := ordL_pre (l := l) (i := i + 1) (d := d + 1) zz12
  refine ⟨r ++ r2, ?_⟩
  rw [ord, ← hr2, ordL_take h, ← hr]
  simp only [List.cons_append, List.append_assoc]
end Go.Proofs.YtgnablliekgbgaaDoor
namespace Go.Proofs.YtgnablliekgbgaaDoor
open Go Go.PL Go.RowKit
theorem all_ (t : HT) (d : Nat) (w : World) (ht : t.sv)  :
    Calls Tryd.prog 75 [.agg t.c.toArray, .int .i64 ((d : Nat) : Int)].toArray w (Gives w (fun pp : Nat × Nat => .func (.func 93) #[] #[.pointer (some ⟨pp.1, 0, none⟩), .pointer (some ⟨pp.2, 0, none⟩)]) (fun pp => [.blk pp.1 61 t.c, .blk pp.2 3 [.int .i64 ((d : Nat) : Int)]]) (fun _ => [])) := by
  haveI := ht.one
  refine enter (m := 6) (R := Mem w [] [] []) Tryd.func75 rfl rfl (Nat.le_of_ble_eq_true rfl) (Mem.start w) ?_
  refine wpc_seq <| wpc_region ?_
  refine wpl_t (t_box rfl t.c rfl) rfl (fun b2 => ?_)
  refine wpl_t (t_box rfl [.int .i64 ((d : Nat) : Int)] rfl) rfl (fun b3 => ?_)
  refine wpl_q (q_pure rfl) rfl <| wpl_nil <| ex_then <| wpc_seq <| wpc_region ?_
  refine wpl_q (q_fn (us := []) (vs := [.pointer (some ⟨b2, 0, none⟩), .pointer (some ⟨b3, 0, none⟩)]) rfl rfl) rfl ?_
  refine wpl_q (q_pure rfl) rfl <| wpl_nil <| ex_then <| wpc_ret ?_
  refine ret1 (.inl rfl) rfl rfl ?_
  exact fun w1 h => ⟨(b2, b3), rfl, h.below, (show Mem w [] [.blk b2 61 t.c, .blk b3 3 [.int .i64 ((d : Nat) : Int)]] [] w1 from h.sel).made (Sub.refl _) .nil⟩
theorem all1_step (yl : Nat) (pa : Nat) (pd : Nat) (t : HT) (d : Nat) (J : List Nat → List (HT × Nat) → World → Prop) (K : List Nat → World → Prop) (w : World)  (hst : StabJ J) (hinv : ∀ T pre w1, J T pre w1 → HSeen w1.cell? t) (hsk : StabT K) (hy : YieldN Tryd.prog yl encO (ord t d) J K) (hJ0 : J [pa, pd] [] w) (hpa : w.heap[pa]? = some (.cells t.c.toArray 61 (0, 0))) (hpd : w.heap[pd]? = some (.cells #[.int .i64 ((d : Nat) : Int)] 3 (0, 0))) (hne : pa ≠ pd) (hd : d + t.tr.dep ≤ 1000000) (ih : ∀ x ∈ t.kids, ∀ (d pa pd : Nat) (w : World), w.heap[pa]? = some (.cells x.c.toArray 61 (0, 0)) → w.heap[pd]? = some (.cells #[.int .i64 ((d : Nat) : Int)] 3 (0, 0)) → pa ≠ pd → d + x.tr.dep ≤ 1000000 → HSeen w.cell? x → IterN Tryd.prog 93 #[.pointer (some ⟨pa, 0, none⟩), .pointer (some ⟨pd, 0, none⟩)] encO (fun w => HSeen w.cell? x) (ord x d) [pa, pd] w) :
    Calls Tryd.prog 93 [.func (.yield yl) #[] #[], .pointer (some ⟨pa, 0, none⟩), .pointer (some ⟨pd, 0, none⟩)].toArray w (IterPostN J K (ord t d)) := by
  obtain ⟨tg, bv, bs, lv, l⟩ := t
  have ht := hinv _ _ _ hJ0
  have svb := ht.1.sv
  have svl := ht.2.1.sv
  have lb := svb.le
  have ll := svl.le
  simp only [maxLen] at lb ll
  haveI := ht.sv.one
  refine enterN (m := 32) (R := Mem w [pa, pd] [.blk pa 61 [.int .u8 (tg.toNat : Int), bv, lv], .blk pd 3 [.int .i64 ((d : Nat) : Int)]] []) Tryd.func93 rfl rfl (Nat.le_of_ble_eq_true rfl) (Mem.start2 (c1 := [.int .u8 (tg.toNat : Int), bv, lv]) (c2 := [.int .i64 ((d : Nat) : Int)]) w hpa hpd hne) ?_
  refine wpc_seq <| wpc_region ?_
  refine wpl_t (t_box rfl [.func (.yield yl) #[] #[]] rfl) rfl (fun b3 => ?_)
  refine wpl_nil <| ex_then <| wpc_seq <| wpc_seq ?_
  refine wpc_region_y ?_
  refine wil_q (q_ld Tryd.underlying152 rfl rfl rfl) rfl ?_
  refine wil_q (q_ldN Tryd.underlying61 rfl Tryd.ti61 rfl LenC.h) rfl ?_
  refine wil_q (q_ld Tryd.underlying3 rfl rfl zz23) rfl ?_
  refine wil_yieldN (((HT.nd tg bv bs lv l), d)) (()) rfl rfl hst hy hJ0 ⟨ordL l (d + 1), rfl⟩ rfl rfl ?_ ?_
  ·
   intro u11 hu11
   refine wil_q (q_pure rfl) rfl ?_
   refine wil_nil ?_
   refine ex_then ?_
   refine wpc_cond_f rfl ?_
   refine wpc_skip <| ex_then <| wpc_seq <| wpc_region <| wpl_q (q_field Tryd.underlying61 rfl Tryd.ti59 rfl rfl _ rfl) rfl <| wpl_q (q_ld Tryd.underlying59 rfl rfl rfl) rfl ?_
   refine wpl_q (q_lenW Tryd.underlying59 rfl zz3) rfl ?_
   refine wpl_q (q_pure rfl) rfl <| wpl_nil <| ex_then <| wpc_block ?_
   refine wpc_loopd (ι := { x : Nat × World × List Nat × List Nat // (x.1 ≤ l.length) ∧ (J x.2.2.1 (((HT.nd tg bv bs lv l), d) :: ordL (l.take x.1) (d + 1)) x.2.1) }) (fun x => (x.1.2.2.2).map Go.PL.mark) (fun x => [(16, .int .i64 ((x.1.1 : Nat) : Int)), (2, .pointer (some ⟨pd, 0, none⟩)), (3, .pointer (some ⟨b3, 0, none⟩)), (14, lv), (15, .int .i64 ((l.length : Nat) : Int))]) (fun x => Mem x.1.2.1 x.1.2.2.1 (.blk b3 152 [.func (.yield yl) #[] #[]] :: .blk pa 61 [.int .u8 (tg.toNat : Int), bv, lv] :: .blk pd 3 [.int .i64 ((d : Nat) : Int)] :: x.1.2.2.2.map obD) []) (fun x => l.length - x.1.1) ⟨(0, u11, nums [.blk b3 152 [.func (.yield yl) #[] #[]], .blk pa 61 [.int .u8 (tg.toNat : Int), bv, lv], .blk pd 3 [.int .i64 ((d : Nat) : Int)]], []), ⟨Nat.zero_le _, hu11⟩⟩ zz9 ?_ ?_
   ·
    exact fun w h => h
   ·
    rintro ⟨⟨i, wb, T, Ds⟩, ⟨hi0, hi1⟩⟩; try dsimp only
    have hi0 : i ≤ l.length := hi0; have hi1 : J T (((HT.nd tg bv bs lv l), d) :: ordL (l.take i) (d + 1)) wb := hi1
    have hsee : ∀ {M : List Ent} {S : List Fact} {w : World}, Mem wb T M S w → HSeen w.cell? (HT.nd tg bv bs lv l) := fun h => hinv _ _ _ (hst _ _ _ _ _ hi1 (h.sub .nil .nil) (nums_lt h))
    refine wpc_seq <| wpc_region <| wpl_q (q_pure rfl) rfl <| wpl_nil <| ex_then <| wpc_seq ?_
    refine wpc_cond rfl (fun hc17 => ?_) (fun hc17 => ?_)
    ·
     simp only [decide_eq_true_eq] at hc17
     have hil : i < l.length := by omega
     have hdl := depL_kid hil
     have hd1 : d + (depL (trs l) + 1) ≤ 1000000 := hd
     have hx : (l.getD i HT.z).sv := (HSeenL_iff.1 (hinv _ _ _ hi1).2.2 _ (getD_memH hil)).sv
     haveI := hx.one
     refine wpc_skip <| ex_then <| wpc_seq <| wpc_block <| wpc_seq <| wpc_region ?_
     refine wpl_q (q_idxW Tryd.underlying59 Tryd.ti61 rfl rfl zz3 zz1) rfl ?_
     refine wpl_q (q_ldWN Tryd.underlying61 rfl Tryd.ti61 rfl (fun w h => (hsee h).2.1) (l.getD i HT.z).c (cat_part HT.c_length HT.z hil) (HT.c_length _)) rfl ?_
     refine wpl_t (t_alloc Tryd.ti61 HT.z.c rfl) rfl (fun b5 => ?_)
     refine wpl_t0 (t_stA Tryd.ti61 rfl rfl LenC.h OneC.h LenC.h) (fun _ => ?_)
     refine wpl_nil <| ex_then <| wpc_seq <| wpc_region <| wpl_q (q_ldN Tryd.underlying61 rfl Tryd.ti61 rfl LenC.h) rfl ?_
     refine wpl_q (q_ld Tryd.underlying3 rfl rfl zz23) rfl ?_
     first | refine wpl_q (qop_eq (q_pure rfl) (congrArg (Value.int .i64) (wk_i64 zz12 zz12))) rfl ?_ | refine wpl_q (q_pure rfl) rfl ?_
     refine wpl_t (t_call (N := fun pp : Nat × Nat => [.blk pp.1 61 (l.getD i HT.z).c, .blk pp.2 3 [.int .i64 ((d + 1 : Nat) : Int)]]) (T := fun _ => []) Tryd.hb75 rfl fun w h => all_ (l.getD i HT.z) (d + 1) w hx) rfl (fun b23 => ?_)
     refine wpl_nil <| ex_then <| wpc_block ?_
     refine wpc_rangeN (encs := encO) (Inv := (fun w => HSeen w.cell? (l.getD i HT.z))) (xs := (ord (l.getD i HT.z) (d + 1))) (β := Nat) [.blk b23.1 61 (l.getD i HT.z).c, .blk b23.2 3 [.int .i64 ((d + 1 : Nat) : Int)]] (.blk b5 61 (l.getD i HT.z).c :: .blk b3 152 [.func (.yield yl) #[] #[]] :: .blk pa 61 [.int .u8 (tg.toNat : Int), bv, lv] :: .blk pd 3 [.int .i64 ((d : Nat) : Int)] :: Ds.map obD) (((HT.nd tg bv bs lv l), d) :: ordL (l.take i) (d + 1)) (fun x _ b => [.blk b 61 x.1.c]) (fun x i b => [(3, .pointer (some ⟨b3, 0, none⟩)), (6, .pointer (some ⟨b, 0, none⟩)), (7, .int .i64 ((x.2 : Nat) : Int))]) hst hsk (fun T pre w h => HSeenL_iff.1 (hinv _ _ _ h).2.2 _ (getD_memH hil)) hi1 rfl Tryd.hb93 (fun w h hI => ih (l.getD i HT.z) (getD_memH hil) (d + 1) b23.1 b23.2 w (h.own _ (List.mem_cons_self ..)) (h.own _ (List.mem_cons_of_mem _ (List.mem_cons_self ..))) (fun e => (List.pairwise_cons.1 h.apart).1 _ (List.mem_cons_self ..) _ rfl (by rw [← e]; rfl)) zz12 hI) (fun _ _ => rfl) zz19 ?_ ?_ ?_ ?_
     ·
      intro l2 x i2 w1 K hxm hK
      have hxs := ord_seen (HSeenL_iff.1 (hinv _ _ _ hi1).2.2 _ (getD_memH hil)) hxm
      haveI := hxs.sv.one
      refine wic_seq ?_
      refine wic_region ?_
      refine wil_t (t_alloc Tryd.ti61 HT.z.c rfl) rfl (fun b6 => ?_)
      refine wil_t0 (t_stA Tryd.ti61 rfl rfl LenC.h OneC.h LenC.h) (fun _ => ?_)
      refine wil_nil ?_
      refine eix_then ?_
      refine wic_region ?_
      refine wil_q (q_pure rfl) rfl ?_
      refine wil_nil ?_
      exact fun a w hs h => hK b6 a w (hs.weaken (subs_get zz9)) h
     ·
      intro l2 pre x i2 b w1 LO hJ2 hpre
      show WPCI _ _ _ _ (Mem w1 (nums (.blk b 61 x.1.c :: .blk b5 61 (l.getD i HT.z).c :: .blk b3 152 [.func (.yield yl) #[] #[]] :: .blk pa 61 [.int .u8 (tg.toNat : Int), bv, lv] :: .blk pd 3 [.int .i64 ((d : Nat) : Int)] :: (Ds.map obD ++ LO))) (.blk b 61 x.1.c :: .blk b5 61 (l.getD i HT.z).c :: .blk b3 152 [.func (.yield yl) #[] #[]] :: .blk pa 61 [.int .u8 (tg.toNat : Int), bv, lv] :: .blk pd 3 [.int .i64 ((d : Nat) : Int)] :: (Ds.map obD ++ LO)) []) _ _
      refine wic_block ?_
      refine wic_seq ?_
      refine wic_region ?_
      refine wil_q (q_ld Tryd.underlying152 rfl rfl rfl) rfl ?_
      refine wil_q (q_ldN Tryd.underlying61 rfl Tryd.ti61 rfl LenC.h) rfl ?_
      refine wil_q (q_pure rfl) rfl ?_
      refine wil_yieldN (x) (()) rfl rfl hst hy hJ2 (by rw [List.append_assoc]; exact ord_pre hil hpre) rfl rfl ?_ ?_
      ·
       intro u29 hu29
       refine wil_q (q_pure rfl) rfl ?_
       refine wil_nil ?_
       refine eix_then ?_
       refine wic_cond_f rfl ?_
       refine wic_skip ?_
       refine ex_block ?_
       refine ex_roundN ?_
       exact fun w h => ⟨u29, _, by rw [← List.append_assoc]; exact hu29, h.sub (.drop (Sub.refl _)) .nil⟩
      ·
       intro u29 hu29
       refine wil_q (q_pure rfl) rfl ?_
       refine wil_nil ?_
       refine eix_then ?_
       refine wic_cond_t rfl ?_
       refine wic_ret ?_
       refine ex_block_ret ?_
       refine ex_roundR ?_
       exact fun w h => ⟨rfl, u29, _, hu29, h.sub (.drop (Sub.refl _)) .nil⟩
     ·
      intro D u3 T3 hJd
      refine ex_block <| ex_block <| ex_then <| wpc_region ?_
      refine wpl_q (q_addN (b := 1) rfl rfl zz1) rfl ?_
      refine wpl_q (q_pure rfl) rfl <| wpl_nil ?_
      refine ex_againD ⟨(i + 1, u3, T3, D :: Ds), ⟨by show i + 1 ≤ l.length; omega, by show J T3 _ u3; rw [ordL_take hil]; exact hJd⟩⟩ ?_ ?_ ?_
      ·
       exact zz9
      ·
       exact fun w h => by
         have h2 := h.sub (M' := .obj D (.deferred (some [])) :: .blk b3 152 [.func (.yield yl) #[] #[]] :: .blk pa 61 [.int .u8 (tg.toNat : Int), bv, lv] :: .blk pd 3 [.int .i64 ((d : Nat) : Int)] :: Ds.map obD) (S' := []) SubC.h .nil
         exact h2.perm (List.perm_append_comm_assoc [obD D] [.blk b3 152 [.func (.yield yl) #[] #[]], .blk pa 61 [.int .u8 (tg.toNat : Int), bv, lv], .blk pd 3 [.int .i64 ((d : Nat) : Int)]] (Ds.map obD))
      ·
       (show l.length - (i + 1) < l.length - i); omega
     ·
      intro D u3 T3 hKd
      refine wpc_ret ?_
      refine ex_block_ret ?_
      refine ex_block_ret ?_
      refine ex_then_ret ?_
      refine ex_then_ret ?_
      refine ex_block_ret ?_
      refine ex_weaken (R1 := Mem _ _ (obD D :: List.map obD Ds) []) (L1 := []) zz9 (fun w h => h.sub SubC.h .nil) ?_
      refine ex_marks (Ds := (D :: Ds)) (.inl rfl) ?_
      refine ret0 (.inl rfl) rfl ?_
      exact fun w h => iter_stopN hsk hKd h
    ·
     simp only [decide_eq_false_iff_not] at hc17
     obtain rfl : i = l.length := by omega
     rw [List.take_length] at hi1
     refine wpc_exit ?_
     refine ex_then_exit ?_
     refine ex_then_exit ?_
     refine ex_block_hit ?_
     refine ex_weaken (R1 := Mem _ _ (List.map obD Ds) []) (L1 := []) zz9 (fun w h => h.sub SubC.h .nil) ?_
     refine ex_marks (Ds := Ds) (.inr rfl) ?_
     refine ret0 (.inr rfl) rfl ?_
     exact fun w h => iter_doneN hst hi1 h
  ·
   intro u11 hu11
   refine wil_q (q_pure rfl) rfl ?_
   refine wil_nil ?_
   refine ex_then ?_
   refine wpc_cond_t rfl ?_
   refine wpc_ret ?_
   refine ex_then_ret ?_
   refine ex_weaken (R1 := Mem _ _ (List.map obD []) []) (L1 := []) zz9 (fun w h => h.sub .nil .nil) ?_
   refine ex_marks (Ds := []) (.inl rfl) ?_
   refine ret0 (.inl rfl) rfl ?_
   exact fun w h => iter_stopN hsk hu11 h
end Go.Proofs.YtgnablliekgbgaaDoor
namespace Go.Proofs.YtgnablliekgbgaaDoor
open Go Go.PL Go.RowKit
theorem allIter : ∀ (t : HT) (d pa pd : Nat) (w : World), w.heap[pa]? = some (.cells t.c.toArray 61 (0, 0)) → w.heap[pd]? = some (.cells #[.int .i64 ((d : Nat) : Int)] 3 (0, 0)) → pa ≠ pd → d + t.tr.dep ≤ 1000000 → HSeen w.cell? t →
    IterN Tryd.prog 93 #[.pointer (some ⟨pa, 0, none⟩), .pointer (some ⟨pd, 0, none⟩)] encO (fun w => HSeen w.cell? t) (ord t d) [pa, pd] w := by
  intro t
  induction t using HT.ind with
  | _ tg bv bs lv l ih =>
    intro d pa pd w h1 h2 hne hd _ yl J K hst hinv hsk hy hJ0
    exact all1_step yl pa pd (.nd tg bv bs lv l) d J K w hst hinv hsk hy hJ0 h1 h2 hne hd (fun x hx d pa pd w a b c e f => ih x hx d pa pd w a b c e f)
theorem Mem.join {w0 u w : World} {Ln T : List Nat} {Ms N : List Ent} (h : Mem w0 Ln Ms [] u) (hT : ∀ j, j ∈ T → w0.heap.size ≤ j ∧ inM Ms j = false) (h2 : Mem u T N [] w) : Mem w0 Ln (N ++ Ms) [] w := by
  have hc := h.chg (h2.sub .nil .nil) hT
  refine ⟨hc.os, hc.tape, hc.output, hc.size, hc.old, fun e he => ?_, fun e he k hk => ?_, List.pairwise_append.2 ⟨h2.apart, hc.apart, fun e he f hf k hk hfk => ?_⟩, fun _ hs => (by cases hs)⟩
  · rcases List.mem_append.1 he with he | he
    · exact h2.own e he
    · exact hc.own e he
  · rcases List.mem_append.1 he with he | he
    · rcases h2.new e he k hk with h1 | h1
      · exact .inl (Nat.le_trans h.size h1)
      · exact .inl (hT k h1).1
    · exact hc.new e he k hk
  · have hlt := Ent.lt (h.own f hf) hfk
    rcases h2.new e he k hk with h1 | h1
    · omega
    · exact inM_not (hT k h1).2 f hf hfk
def TopJ {α σ : Type} (w0 : World) (Ln : List Nat) (M : σ → List Ent) (g : List α → σ → Prop) (T : List Nat) (pre : List α) (w : World) : Prop := ∃ s, g pre s ∧ Mem w0 Ln (M s) [] w ∧ ∀ j, j ∈ T → w0.heap.size ≤ j ∧ inM (M s) j = false ∧ j < w.heap.size
theorem top_stab {α σ : Type} {w0 : World} {Ln : List Nat} {M : σ → List Ent} {g : List α → σ → Prop} : StabJ (TopJ w0 Ln M g) := by
  rintro T T' pre w1 w2 ⟨s, hg, h, hT⟩ hc hT'
  refine ⟨s, hg, h.chg hc fun k hk => ⟨(hT k hk).1, (hT k hk).2.1⟩, fun j hj => ?_⟩
  obtain ⟨h1, h2⟩ := hT' j hj
  rcases h1 with h1 | h1
  · exact ⟨(hT j h1).1, (hT j h1).2.1, h2⟩
  · refine ⟨Nat.le_trans h.size h1, ?_, h2⟩
    cases hm : inM (M s) j
    · rfl
    · obtain ⟨e, he, hn⟩ := inM_iff.1 hm
      have := Ent.lt (h.own e he) hn
      omega
theorem inM_apart {A B : List Ent} {j : Nat} (h : (A ++ B).Pairwise fun e f => ∀ k, e.num = some k → f.num ≠ some k) (hj : j ∈ nums A) : inM B j = false := by
  obtain ⟨e, he, hn⟩ := mem_nums.1 hj
  cases hm : inM B j
  · rfl
  · obtain ⟨f, hf, hfn⟩ := inM_iff.1 hm
    exact absurd hfn ((List.pairwise_append.1 h).2.2 e he f hf j hn)
theorem wpc_rangeT {P : Program} {Q : Exit → Act → World → Prop} {gx : Operand} {ps : Array Tmp} {assign body : Code} {k : Nat} {ds : List Deferred} {L : Slots} {w0 : World} {Ln : List Nat} {S : List Fact} {α ι ρ σ β : Type} {gf : FuncId} {lb : Array Value}
    {encs : α → ι → Array Value} {Inv : World → Prop} {xs : List α} (E0 : List Ent) (M : σ → List Ent) (g : List α → σ → Prop) (s0 : σ) (pr : ρ → Prop) (Mr : ρ → List Ent) (Ma : α → ι → β → List Ent) (L1 : α → ι → β → Slots)
    (hg : ev L gx = some (.func (.func gf) #[] lb)) (hbd : HasBody P gf) (h0 : g [] s0)
    (hE0 : ∀ w, Mem w0 Ln (E0 ++ M s0) S w → ∀ k, k ∈ nums E0 → w0.heap.size ≤ k)
    (hit : ∀ wb w, Mem wb (nums E0) E0 [] w → Inv w → IterN P gf lb encs Inv xs (nums E0) w) (hInv : ∀ pre s w, g pre s → Mem w0 Ln (M s) [] w → Inv w)
    (hps : ∀ x i, (encs x i).size = ps.size) (hpk : ∀ p ∈ ps.toList, p < k)
    (hassign : ∀ (l : Nat) (x : α) (i : ι) (w1 : World) (K : Act → World → Prop), x ∈ xs → (∀ b a w, Sl ⟨k, []⟩ a (L1 x i b) → Mem w1 [] (Ma x i b) [] w → K a w) →
      WPCI (Fence.wide.inRound l) P (Exit.then K (fun _ _ _ => False)) ⟨k, []⟩ (Mem w1 [] [] []) (addSlots ps.toList (encs x i).toList L) assign)
    (hbody : ∀ (l : Nat) (pre : List α) (x : α) (i : ι) (s : σ) (b : β) (w1 : World), g pre s → (pre ++ [x]) <+: xs → Mem w0 Ln (Ma x i b ++ M s) [] w1 →
      WPCI (Fence.wide.inRound l) P (RoundPostS (fun w' => ∃ s', g (pre ++ [x]) s' ∧ Mem w1 (nums (Ma x i b ++ M s)) (M s') [] w') (fun c w' => c = .ret ∧ ∃ r, pr r ∧ Mem w1 (nums (Ma x i b ++ M s)) (Mr r) [] w')) ⟨k, []⟩ (Mem w1 (nums (Ma x i b ++ M s)) (Ma x i b ++ M s) []) (L1 x i b) body)
    (hdone : ∀ D s, g xs s → EX Q .normal ⟨k, Go.PL.mark D :: ds⟩ (Mem w0 Ln (Ent.obj D (.deferred (some [])) :: M s) []) L)
    (hstop : ∀ D r, pr r → WPC P Q ⟨k, Go.PL.mark D :: ds⟩ (Mem w0 Ln (Ent.obj D (.deferred (some [])) :: Mr r) []) L .ret) :
    WPC P Q ⟨k, ds⟩ (Mem w0 Ln (E0 ++ M s0) S) L (.rangeFunc gx ps assign body) := by
  intro a w hs hr
  have hr0 := List.pairwise_append.1 hr.apart
  refine wpc_rangeN (encs := encs) (Inv := Inv) (xs := xs) (β := β) (J := TopJ w0 Ln M g) (K := fun T w => TopJ w0 Ln Mr (fun (_ : List α) r => pr r) T [] w) (wb := w) (Ln := nums E0) (S := []) E0 [] [] Ma L1 top_stab (stabJ_T top_stab []) ?_ ?_ hg hbd ?_ hps hpk hassign ?_ ?_ ?_ a w hs ?_
  · rintro T pre w1 ⟨s, h1, h2, _⟩
    exact hInv pre s w1 h1 h2
  · exact ⟨s0, h0, hr.sub (sub_app _ _) .nil, fun j hj => ⟨hE0 w hr j hj, inM_apart hr.apart hj, (by
      obtain ⟨e, he, hn⟩ := mem_nums.1 hj
      exact Ent.lt (hr.own e (List.mem_append_left _ he)) hn)⟩⟩
  · intro w1 h1 hI
    rw [List.append_nil] at h1
    exact hit w w1 h1 hI
  · rintro l pre x i b w1 LO ⟨s, h1, h2, h3⟩ hpre a1 w2 hs1 hm
    rw [List.nil_append] at h3 hm
    have hAll := Mem.join h2 (fun j hj => ⟨(h3 j hj).1, (h3 j hj).2.1⟩) hm
    have hU : Mem w0 Ln (LO ++ (Ma x i b ++ M s)) [] w2 := hAll.perm (by
      rw [List.append_assoc]; exact List.perm_append_comm_assoc _ _ _)
    have hUs : Mem w0 Ln (Ma x i b ++ M s) [] w2 := hU.sub (sub_app _ _) .nil
    refine wpIn_mono (hbody l pre x i s b w2 h1 hpre hUs a1 w2 hs1 (Mem.startL w2 hUs.own hUs.apart)) ?_
    have fin : ∀ {M' : List Ent} {w3 : World}, Mem w2 (nums (Ma x i b ++ M s)) M' [] w3 → Mem w0 Ln M' [] w3 ∧ (∀ j, j ∈ nums LO → w0.heap.size ≤ j ∧ inM M' j = false ∧ j < w3.heap.size) ∧ Mem w3 (nums LO) ([] ++ LO) [] w3 := fun {M'} {w3} h => by
      have hF := hU.framed h
      refine ⟨hF.sub (sub_app _ _) .nil, fun j hj => ⟨?_, inM_apart hF.apart hj, ?_⟩, Mem.startL w3 (fun e he => hF.own e (List.mem_append_left _ he)) (List.pairwise_append.1 hF.apart).1⟩
      · obtain ⟨e, he, hn⟩ := mem_nums.1 hj
        exact (h3 j (mem_nums.2 ⟨e, List.mem_append_right _ (by simpa using he), hn⟩)).1
      · obtain ⟨e, he, hn⟩ := mem_nums.1 hj
        exact Ent.lt (hF.own e (List.mem_append_left _ he)) hn
    rintro e a3 w3 hp
    cases e with
    | normal =>
      obtain ⟨s', hg', hm'⟩ : ∃ s', g (pre ++ [x]) s' ∧ Mem w2 (nums (Ma x i b ++ M s)) (M s') [] w3 := hp
      obtain ⟨f1, f2, f3⟩ := fin hm'
      exact ⟨w3, nums LO, ⟨s', hg', f1, f2⟩, f3⟩
    | ret =>
      obtain ⟨_, r, hg', hm'⟩ : Code.ret = .ret ∧ ∃ r, pr r ∧ Mem w2 (nums (Ma x i b ++ M s)) (Mr r) [] w3 := hp
      obtain ⟨f1, f2, f3⟩ := fin hm'
      exact ⟨rfl, w3, nums LO, ⟨r, hg', f1, f2⟩, f3⟩
    | exit id => exact (Code.noConfusion (hp : Code.exit id = .ret ∧ _).1)
    | goto t => exact (hp : False).elim
    | panic ch => exact (hp : False).elim
    | outgrown => exact (hp : False).elim
  · rintro D u T ⟨s, h1, h2, h3⟩ a1 w1 hs1 hm
    exact hdone D s h1 a1 w1 hs1 (Mem.join h2 (fun j hj => ⟨(h3 j hj).1, (h3 j hj).2.1⟩) hm)
  · rintro D u T ⟨r, h1, h2, h3⟩ a1 w1 hs1 hm
    exact hstop D r h1 a1 w1 hs1 (Mem.join h2 (fun j hj => ⟨(h3 j hj).1, (h3 j hj).2.1⟩) hm)
  · rw [List.append_nil]; exact Mem.startL w (fun e he => hr.own e (List.mem_append_left _ he)) hr0.1
end Go.Proofs.YtgnablliekgbgaaDoor
namespace Go.Proofs.YtgnablliekgbgaaDoor
open Go Go.PL Go.RowKit
def okN : HT → Bool | .nd g _ bs _ l => !badT g bs.length l.length
def okY (y : HT × Nat) : Bool := okN y.1
mutual
theorem ord_len : ∀ (t : HT) (d : Nat), (ord t d).length = t.tr.cnt
  | .nd g v bs u l, d => by rw [ord, List.length_cons, ordL_len l (d + 1)]; show _ = 1 + cntL (trs l); omega
theorem ordL_len : ∀ (l : List HT) (d : Nat), (ordL l d).length = cntL (trs l)
  | [], _ => rfl
  | x :: l, d => by rw [ordL, List.length_append, ord_len x d, ordL_len l d]; rfl
end
mutual
theorem ord_all : ∀ (t : HT) (d : Nat), (ord t d).all okY = t.tr.shp
  | .nd g v bs u l, d => by
    rw [ord, List.all_cons, ordL_all l (d + 1)]
    show (!badT g bs.length l.length && _) = (!badT g bs.length (trs l).length && _)
    rw [trs_length]
theorem ordL_all : ∀ (l : List HT) (d : Nat), (ordL l d).all okY = shpL (trs l)
  | [], _ => rfl
  | x :: l, d => by rw [ordL, List.all_append, ord_all x d, ordL_all l d]; rfl
end
mutual
theorem ord_le : ∀ (t : HT) (d : Nat), ∀ y ∈ ord t d, y.2 + 1 ≤ d + t.tr.dep
  | .nd g v bs u l, d => by
    intro y hy
    rw [ord] at hy
    show y.2 + 1 ≤ d + (depL (trs l) + 1)
    rcases List.mem_cons.1 hy with rfl | hy
    · show d + 1 ≤ _; omega
    · have := ordL_le l (d + 1) y hy; omega
theorem ordL_le : ∀ (l : List HT) (d : Nat), ∀ y ∈ ordL l d, y.2 + 1 ≤ d + depL (trs l)
  | [], _ => by intro y hy; cases hy
  | x :: l, d => by
    intro y hy
    rw [ordL, List.mem_append] at hy
    show y.2 + 1 ≤ d + max x.tr.dep (depL (trs l))
    rcases hy with hy | hy
    · have := ord_le x d y hy; omega
    · have := ordL_le l d y hy; omega
end
mutual
theorem ord_max : ∀ (t : HT) (d N : Nat), (∀ y ∈ ord t d, y.2 ≤ N) → d + t.tr.dep ≤ N + 1
  | .nd g v bs u l, d, N => by
    intro h
    rw [ord] at h
    have h1 : d ≤ N := h _ (List.mem_cons_self ..)
    have h2 := ordL_max l (d + 1) N zz12 fun y hy => h y (List.mem_cons_of_mem _ hy)
    show d + (depL (trs l) + 1) ≤ _
    omega
theorem ordL_max : ∀ (l : List HT) (d N : Nat), d ≤ N + 1 → (∀ y ∈ ordL l d, y.2 ≤ N) → d + depL (trs l) ≤ N + 1
  | [], d, N => by intro h _; show d + 0 ≤ _; omega
  | x :: l, d, N => by
    intro h0 h
    rw [ordL] at h
    have h1 := ord_max x d N fun y hy => h y (List.mem_append_left _ hy)
    have h2 := ordL_max l d N h0 fun y hy => h y (List.mem_append_right _ hy)
    show d + max x.tr.dep (depL (trs l)) ≤ _
    omega
end
theorem okv (g : UInt8) (v : Value) (cs : List UInt8) (u : Value) (l : List HT) : okN (.nd g v cs u l) = (decide (g.toNat ≠ 0) && (decide (128 ≤ g.toNat) || decide (l.length = 0)) && (decide (g.toNat < 128) || decide (cs.length = 0))) := by
  have e0 : decide (g = 0) = decide (g.toNat = 0) := by rw [decide_eq_decide]; exact ⟨fun h => by rw [h]; rfl, fun h => UInt8.toNat_inj.1 h⟩
  have e1 : decide (g < 128) = decide (g.toNat < 128) := decide_eq_decide.2 Iff.rfl
  have e2 : decide (128 ≤ g) = decide (128 ≤ g.toNat) := decide_eq_decide.2 Iff.rfl
  show (!(decide (g = 0) || decide (g < 128) && decide (0 < l.length) || decide (128 ≤ g) && decide (0 < cs.length))) = _
  rw [e0, e1, e2]
  rw [Bool.eq_iff_iff]
  simp only [Bool.not_eq_true', Bool.or_eq_false_iff, Bool.and_eq_false_iff, decide_eq_false_iff_not, Bool.and_eq_true, Bool.or_eq_true, decide_eq_true_eq, ne_eq]
  omega
def gC (pre : List (HT × Nat)) (s : Nat × Bool) : Prop := s.1 = pre.length ∧ pre.length ≤ 4000 ∧ (∀ y ∈ pre, y.2 ≤ 12) ∧ s.2 = pre.all okY
theorem gC_stop {t : HT} {pre : List (HT × Nat)} {x : HT × Nat} (hp : (pre ++ [x]) <+: ord t 1) (h : 4000 < pre.length + 1 ∨ 12 < x.2) : checkF t.tr = 4 := by
  have h1 := hp.length_le
  rw [ord_len, List.length_append, List.length_singleton] at h1
  have h2 := ord_le t 1 x (hp.subset (List.mem_append_right _ (List.mem_singleton.2 rfl)))
  rw [checkF, if_pos zz12]
theorem gC_next {pre : List (HT × Nat)} {n : Nat} {ok : Bool} {x : HT × Nat} (h : gC pre (n, ok)) (h1 : ¬ 4000 < pre.length + 1) (h2 : ¬ 12 < x.2) : gC (pre ++ [x]) (n + 1, ok && okY x) := by
  obtain ⟨a, b, c, e⟩ := h
  refine ⟨by rw [List.length_append]; exact congrArg (· + 1) a, by rw [List.length_append, List.length_singleton]; omega, fun y hy => ?_, ?_⟩
  · rcases List.mem_append.1 hy with hy | hy
    · exact c y hy
    · rw [List.mem_singleton.1 hy]; omega
  · show (ok && okY x) = _
    rw [List.all_append, show ok = pre.all okY from e]; simp
theorem gC_done {t : HT} {n : Nat} {ok : Bool} (h : gC (ord t 1) (n, ok)) : ¬ (4000 < t.tr.cnt ∨ 12 < t.tr.dep) ∧ ok = t.tr.shp := by
  obtain ⟨a, b, c, e⟩ := h
  rw [ord_len] at b
  have h1 := ord_max t 1 12 c
  exact ⟨zz12, by rw [← ord_all t 1]; exact e⟩
theorem check (t : HT) (w : World) (ht : HSeen w.cell? t) (hsm : Sm t.tr) (hdp : t.tr.dep ≤ 900000) :
    Calls Tryd.prog 47 [.agg t.c.toArray].toArray w (Pur w (.int .i64 (checkF t.tr))) := by
  haveI := ht.sv.one
  refine enterN (m := 52) (R := Mem w [] [] []) Tryd.func47 rfl rfl (Nat.le_of_ble_eq_true rfl) (Mem.start w) ?_
  refine wpc_seq <| wpc_region ?_
  refine wpl_t (t_box rfl t.c rfl) rfl (fun b1 => ?_)
  refine wpl_t (t_alloc Tryd.ti24 [.int .i64 0] rfl) rfl (fun b2 => ?_)
  refine wpl_nil <| ex_then <| wpc_seq <| wpc_region ?_
  refine wpl_t (t_alloc Tryd.ti3 [.int .i64 0] rfl) rfl (fun b3 => ?_)
  refine wpl_t (t_alloc Tryd.ti4 [.bool false] rfl) rfl (fun b4 => ?_)
  refine wpl_t0 (t_st1 Tryd.ti3 rfl rfl rfl zz6 _ (by first | exact vns_set _ | rfl)) (fun _ => ?_)
  refine wpl_t0 (t_st1 Tryd.ti4 rfl rfl rfl zz6 _ zz51) (fun _ => ?_)
  refine wpl_nil <| ex_then <| wpc_seq <| wpc_seq <| wpc_region <| wpl_q (q_ldN Tryd.underlying61 rfl Tryd.ti61 rfl LenC.h) rfl ?_
  refine wpl_t (t_call (N := fun pp : Nat × Nat => [.blk pp.1 61 t.c, .blk pp.2 3 [.int .i64 ((1 : Nat) : Int)]]) (T := fun _ => []) Tryd.hb75 rfl fun w h => all_ t 1 w ht.sv) rfl (fun b8 => ?_)
  refine wpl_nil <| ex_then <| wpc_block ?_
  refine wpc_rangeT (encs := encO) (Inv := (fun w => HSeen w.cell? t)) (xs := (ord t 1)) (ρ := Unit) (β := Nat) [.blk b8.1 61 t.c, .blk b8.2 3 [.int .i64 ((1 : Nat) : Int)]] (fun s : Nat × Bool => [.blk b4 4 [.bool s.2], .blk b3 3 [.int .i64 ((s.1 : Nat) : Int)], .blk b2 24 [.int .i64 0], .blk b1 61 t.c]) gC (0, true) (fun _ => checkF t.tr = 4) (fun _ => [.blk b2 24 [.int .i64 4]]) (fun x _ b => [.blk b 61 x.1.c]) (fun x i b => [(1, .pointer (some ⟨b1, 0, none⟩)), (2, .pointer (some ⟨b2, 0, none⟩)), (3, .pointer (some ⟨b3, 0, none⟩)), (4, .pointer (some ⟨b4, 0, none⟩)), (5, .pointer (some ⟨b, 0, none⟩)), (6, .int .i64 ((x.2 : Nat) : Int))]) rfl Tryd.hb93 ⟨rfl, Nat.zero_le _, fun y hy => (by cases hy), rfl⟩ (fun w h k hk => by obtain ⟨e, he, hn⟩ := mem_nums.1 hk; exact (h.new e (List.mem_append_left _ he) k hn).resolve_right zz40) (fun wb w h hI => allIter t 1 b8.1 b8.2 w (h.own _ (List.mem_cons_self ..)) (h.own _ (List.mem_cons_of_mem _ (List.mem_cons_self ..))) (fun e => (List.pairwise_cons.1 h.apart).1 _ (List.mem_cons_self ..) _ rfl (by rw [← e]; rfl)) zz12 hI) (fun pre s w _ h => ht.old h) (fun _ _ => rfl) zz19 ?_ ?_ ?_ ?_
  ·
   intro l2 x i2 w1 K hxm hK
   have hxs := ord_seen ht hxm
   haveI := hxs.sv.one
   refine wic_seq ?_
   refine wic_region ?_
   refine wil_t (t_alloc Tryd.ti61 HT.z.c rfl) rfl (fun b5 => ?_)
   refine wil_t0 (t_stA Tryd.ti61 rfl rfl LenC.h OneC.h LenC.h) (fun _ => ?_)
   refine wil_nil ?_
   refine eix_then ?_
   refine wic_region ?_
   refine wil_q (q_pure rfl) rfl ?_
   refine wil_nil ?_
   exact fun a w hs h => hK b5 a w (hs.weaken (subs_get zz9)) h
  ·
   intro l2 pre x i2 s b w1 hgs hpre hm
   obtain ⟨n, ok⟩ := s
   have hseen := ord_seen ht (hpre.subset (List.mem_append_right _ (List.mem_singleton.2 rfl)))
   obtain ⟨⟨g2, v2, cs, u2, l2⟩, dd⟩ := x
   have sv2 := hseen.1.sv
   have su2 := hseen.2.1.sv
   have lb2 := sv2.le
   have ll2 := su2.le
   simp only [maxLen] at lb2 ll2
   have hn : n = pre.length := hgs.1
   have hn4 := hgs.2.1
   show WPCI _ _ _ _ (Mem w1 (nums (.blk b 61 [.int .u8 (g2.toNat : Int), v2, u2] :: [.blk b4 4 [.bool ok], .blk b3 3 [.int .i64 ((n : Nat) : Int)], .blk b2 24 [.int .i64 0], .blk b1 61 t.c])) (.blk b 61 [.int .u8 (g2.toNat : Int), v2, u2] :: [.blk b4 4 [.bool ok], .blk b3 3 [.int .i64 ((n : Nat) : Int)], .blk b2 24 [.int .i64 0], .blk b1 61 t.c]) []) _ _
   refine wic_block ?_
   refine wic_seq ?_
   refine wic_seq ?_
   refine wic_region ?_
   refine wil_q (q_ld Tryd.underlying3 rfl rfl zz23) rfl ?_
   refine wil_q (q_addN (b := 1) rfl rfl zz1) rfl ?_
   refine wil_t0 (t_st1 Tryd.ti3 rfl rfl rfl zz6 [.int .i64 ((n + 1 : Nat) : Int)] rfl) (fun _ => ?_)
   refine wil_nil ?_
   refine eix_then ?_
   refine wic_seq ?_
   refine wic_region ?_
   refine wil_q (q_ld Tryd.underlying3 rfl rfl zz23) rfl ?_
   refine wil_q (q_pure rfl) rfl ?_
   refine wil_q (q_pure rfl) rfl ?_
   refine wil_bool2 15 14 rfl rfl (fun hb15 => ?_) (fun hb15 => ?_)
   ·
    try simp only [decide_eq_true_eq] at hb15
    refine wil_off rfl rfl rfl rfl ?_
    refine wil_off rfl rfl rfl rfl ?_
    refine wil_q (q_pure rfl) rfl ?_
    refine wil_nil ?_
    refine eix_then ?_
    refine wic_cond_t rfl ?_
    refine wic_seq ?_
    refine wic_region ?_
    refine wil_t0 (t_st1 Tryd.ti24 rfl rfl rfl zz6 [.int .i64 4] rfl) (fun _ => ?_)
    refine wil_nil ?_
    refine eix_then ?_
    refine wic_ret ?_
    refine ex_then_ret ?_
    refine ex_block_ret ?_
    refine ex_roundR ?_
    exact fun w h => ⟨rfl, (), gC_stop hpre (by show _ ∨ 12 < dd; omega), h.sub SubC.h .nil⟩
   ·
    try simp only [decide_eq_false_iff_not] at hb15
    refine wil_on rfl rfl ?_
    refine wil_q (q_pure rfl) rfl ?_
    refine wil_on rfl rfl ?_
    refine wil_q (q_pure rfl) rfl ?_
    refine wil_q (q_pure rfl) rfl ?_
    refine wil_nil ?_
    refine eix_then ?_
    refine wic_cond rfl (fun hc18 => ?_) (fun hc18 => ?_)
    ·
     try simp only [decide_eq_true_eq] at hc18
     refine wic_seq ?_
     refine wic_region ?_
     refine wil_t0 (t_st1 Tryd.ti24 rfl rfl rfl zz6 [.int .i64 4] rfl) (fun _ => ?_)
     refine wil_nil ?_
     refine eix_then ?_
     refine wic_ret ?_
     refine ex_then_ret ?_
     refine ex_block_ret ?_
     refine ex_roundR ?_
     exact fun w h => ⟨rfl, (), gC_stop hpre (by show _ ∨ 12 < dd; omega), h.sub SubC.h .nil⟩
    ·
     simp only [decide_eq_false_iff_not] at hc18
     refine wic_skip ?_
     refine eix_then ?_
     refine wic_region ?_
     refine wil_q (q_ld Tryd.underlying4 rfl rfl (by first | exact vbs_get zz6 | rfl)) rfl ?_
     refine wil_q (q_pure rfl) rfl ?_
     refine wil_bool2 20 19 rfl rfl (fun hb20 => ?_) (fun hb20 => ?_)
     ·
      have q1 : ok = true := hb20
      refine wil_on rfl rfl ?_
      refine wil_q (q_field Tryd.underlying61 rfl Tryd.ti5 rfl rfl _ rfl) rfl ?_
      refine wil_on rfl rfl ?_
      refine wil_q (q_ld Tryd.underlying5 rfl rfl zz34) rfl ?_
      refine wil_on rfl rfl ?_
      refine wil_q (q_pure rfl) rfl ?_
      refine wil_q (q_pure rfl) rfl ?_
      refine wil_q (q_pure rfl) rfl ?_
      refine wil_bool2 25 23 rfl rfl (fun hb25 => ?_) (fun hb25 => ?_)
      ·
       try simp only [decide_eq_true_eq, decide_eq_false_iff_not, beq_iff_eq, beq_eq_false_iff_ne, ne_eq] at hb25
       have d0 : decide (g2.toNat ≠ 0) = true := decide_eq_true zz12
       refine wil_on rfl rfl ?_
       refine wil_q (q_field Tryd.underlying61 rfl Tryd.ti5 rfl rfl _ rfl) rfl ?_
       refine wil_on rfl rfl ?_
       refine wil_q (q_ld Tryd.underlying5 rfl rfl zz34) rfl ?_
       refine wil_on rfl rfl ?_
       refine wil_q (q_pure rfl) rfl ?_
       refine wil_on rfl rfl ?_
       refine wil_q (q_pure rfl) rfl ?_
       refine wil_bool2 29 28 rfl rfl (fun hb29 => ?_) (fun hb29 => ?_)
       ·
        try simp only [decide_eq_true_eq, decide_eq_false_iff_not, beq_iff_eq, beq_eq_false_iff_ne, ne_eq] at hb29
        have d1 : decide (128 ≤ g2.toNat) = true := decide_eq_true zz12
        refine wil_off rfl rfl rfl rfl ?_
        refine wil_off rfl rfl rfl rfl ?_
        refine wil_off rfl rfl rfl rfl ?_
        refine wil_off rfl rfl rfl rfl ?_
        refine wil_on rfl rfl ?_
        refine wil_q (q_pure rfl) rfl ?_
        refine wil_q (q_pure rfl) rfl ?_
        refine wil_q (q_pure rfl) rfl ?_
        refine wil_on rfl rfl ?_
        refine wil_q (q_field Tryd.underlying61 rfl Tryd.ti5 rfl rfl _ rfl) rfl ?_
        refine wil_on rfl rfl ?_
        refine wil_q (q_ld Tryd.underlying5 rfl rfl zz34) rfl ?_
        refine wil_on rfl rfl ?_
        refine wil_q (q_pure rfl) rfl ?_
        refine wil_on rfl rfl ?_
        refine wil_q (q_pure rfl) rfl ?_
        refine wil_bool2 40 39 rfl rfl (fun hb40 => ?_) (fun hb40 => ?_)
        ·
         try simp only [decide_eq_true_eq, decide_eq_false_iff_not, beq_iff_eq, beq_eq_false_iff_ne, ne_eq] at hb40
         have d3 : decide (g2.toNat < 128) = true := decide_eq_true zz12
         refine wil_off rfl rfl rfl rfl ?_
         refine wil_off rfl rfl rfl rfl ?_
         refine wil_off rfl rfl rfl rfl ?_
         refine wil_off rfl rfl rfl rfl ?_
         refine wil_on rfl rfl ?_
         refine wil_q (q_pure rfl) rfl ?_
         refine wil_q (q_pure rfl) rfl ?_
         refine wil_t0 (t_st1 Tryd.ti4 rfl rfl rfl zz6 _ zz51) (fun _ => ?_)
         refine wil_nil ?_
         refine ex_block ?_
         refine ex_roundN ?_
         have hq : true = (ok && okY (HT.nd g2 v2 cs u2 l2, dd)) := by
           have ec : (((cs.length : Nat) : Int) == 0) = decide (cs.length = 0) := by rw [Bool.eq_iff_iff]; simp only [beq_iff_eq, decide_eq_true_eq]; omega
           rw [show okY (HT.nd g2 v2 cs u2 l2, dd) = _ from okv g2 v2 cs u2 l2]
           simp only [ec, q1, d0, d1, d3, Bool.true_and, Bool.and_true, Bool.false_and, Bool.and_false, Bool.true_or, Bool.or_true, Bool.false_or, Bool.or_false]
         exact fun w h => ⟨(n + 1, true), zz39, (show Mem w1 (nums (.blk b 61 [.int .u8 (g2.toNat : Int), v2, u2] :: [.blk b4 4 [.bool ok], .blk b3 3 [.int .i64 ((n : Nat) : Int)], .blk b2 24 [.int .i64 0], .blk b1 61 t.c])) (.blk b 61 [.int .u8 (g2.toNat : Int), v2, u2] :: [.blk b4 4 [.bool true], .blk b3 3 [.int .i64 (((n + 1) : Nat) : Int)], .blk b2 24 [.int .i64 0], .blk b1 61 t.c]) [] w from h).sub SubC.h .nil⟩
        ·
         try simp only [decide_eq_true_eq, decide_eq_false_iff_not, beq_iff_eq, beq_eq_false_iff_ne, ne_eq] at hb40
         have d3 : decide (g2.toNat < 128) = false := decide_eq_false zz12
         refine wil_on rfl rfl ?_
         refine wil_q (q_field Tryd.underlying61 rfl Tryd.ti34 rfl rfl _ rfl) rfl ?_
         refine wil_on rfl rfl ?_
         refine wil_q (q_ld Tryd.underlying34 rfl rfl rfl) rfl ?_
         refine wil_on rfl rfl ?_
         refine wil_q (q_lenW Tryd.underlying34 rfl zz3) rfl ?_
         refine wil_on rfl rfl ?_
         refine wil_q (q_pure rfl) rfl ?_
         refine wil_on rfl rfl ?_
         refine wil_q (q_pure rfl) rfl ?_
         refine wil_q (q_pure rfl) rfl ?_
         refine wil_t0 (t_st1 Tryd.ti4 rfl rfl rfl zz6 _ zz51) (fun _ => ?_)
         refine wil_nil ?_
         refine ex_block ?_
         refine ex_roundN ?_
         have hq : (((cs.length : Nat) : Int) == 0) = (ok && okY (HT.nd g2 v2 cs u2 l2, dd)) := by
           have ec : (((cs.length : Nat) : Int) == 0) = decide (cs.length = 0) := by rw [Bool.eq_iff_iff]; simp only [beq_iff_eq, decide_eq_true_eq]; omega
           rw [show okY (HT.nd g2 v2 cs u2 l2, dd) = _ from okv g2 v2 cs u2 l2]
           simp only [ec, q1, d0, d1, d3, Bool.true_and, Bool.and_true, Bool.false_and, Bool.and_false, Bool.true_or, Bool.or_true, Bool.false_or, Bool.or_false]
         exact fun w h => ⟨(n + 1, (((cs.length : Nat) : Int) == 0)), zz39, (show Mem w1 (nums (.blk b 61 [.int .u8 (g2.toNat : Int), v2, u2] :: [.blk b4 4 [.bool ok], .blk b3 3 [.int .i64 ((n : Nat) : Int)], .blk b2 24 [.int .i64 0], .blk b1 61 t.c])) (.blk b 61 [.int .u8 (g2.toNat : Int), v2, u2] :: [.blk b4 4 [.bool (((cs.length : Nat) : Int) == 0)], .blk b3 3 [.int .i64 (((n + 1) : Nat) : Int)], .blk b2 24 [.int .i64 0], .blk b1 61 t.c]) [] w from h).sub SubC.h .nil⟩
       ·
        try simp only [decide_eq_true_eq, decide_eq_false_iff_not, beq_iff_eq, beq_eq_false_iff_ne, ne_eq] at hb29
        have d1 : decide (128 ≤ g2.toNat) = false := decide_eq_false zz12
        refine wil_on rfl rfl ?_
        refine wil_q (q_field Tryd.underlying61 rfl Tryd.ti59 rfl rfl _ rfl) rfl ?_
        refine wil_on rfl rfl ?_
        refine wil_q (q_ld Tryd.underlying59 rfl rfl rfl) rfl ?_
        refine wil_on rfl rfl ?_
        refine wil_q (q_lenW Tryd.underlying59 rfl zz3) rfl ?_
        refine wil_on rfl rfl ?_
        refine wil_q (q_pure rfl) rfl ?_
        refine wil_on rfl rfl ?_
        refine wil_q (q_pure rfl) rfl ?_
        refine wil_q (q_pure rfl) rfl ?_
        refine wil_q (q_pure rfl) rfl ?_
        refine wil_bool2 36 33 rfl rfl (fun hb36 => ?_) (fun hb36 => ?_)
        ·
         try simp only [decide_eq_true_eq, decide_eq_false_iff_not, beq_iff_eq, beq_eq_false_iff_ne, ne_eq] at hb36
         have d2 : decide (l2.length = 0) = true := decide_eq_true zz12
         refine wil_on rfl rfl ?_
         refine wil_q (q_field Tryd.underlying61 rfl Tryd.ti5 rfl rfl _ rfl) rfl ?_
         refine wil_on rfl rfl ?_
         refine wil_q (q_ld Tryd.underlying5 rfl rfl zz34) rfl ?_
         refine wil_on rfl rfl ?_
         refine wil_q (q_pure rfl) rfl ?_
         refine wil_on rfl rfl ?_
         refine wil_q (q_pure rfl) rfl ?_
         refine wil_bool2 40 39 rfl rfl (fun hb40 => ?_) (fun hb40 => ?_)
         ·
          try simp only [decide_eq_true_eq, decide_eq_false_iff_not, beq_iff_eq, beq_eq_false_iff_ne, ne_eq] at hb40
          have d3 : decide (g2.toNat < 128) = true := decide_eq_true zz12
          refine wil_off rfl rfl rfl rfl ?_
          refine wil_off rfl rfl rfl rfl ?_
          refine wil_off rfl rfl rfl rfl ?_
          refine wil_off rfl rfl rfl rfl ?_
          refine wil_on rfl rfl ?_
          refine wil_q (q_pure rfl) rfl ?_
          refine wil_q (q_pure rfl) rfl ?_
          refine wil_t0 (t_st1 Tryd.ti4 rfl rfl rfl zz6 _ zz51) (fun _ => ?_)
          refine wil_nil ?_
          refine ex_block ?_
          refine ex_roundN ?_
          have hq : true = (ok && okY (HT.nd g2 v2 cs u2 l2, dd)) := by
            have ec : (((cs.length : Nat) : Int) == 0) = decide (cs.length = 0) := by rw [Bool.eq_iff_iff]; simp only [beq_iff_eq, decide_eq_true_eq]; omega
            rw [show okY (HT.nd g2 v2 cs u2 l2, dd) = _ from okv g2 v2 cs u2 l2]
            simp only [ec, q1, d0, d1, d2, d3, Bool.true_and, Bool.and_true, Bool.false_and, Bool.and_false, Bool.true_or, Bool.or_true, Bool.false_or, Bool.or_false]
          exact fun w h => ⟨(n + 1, true), zz39, (show Mem w1 (nums (.blk b 61 [.int .u8 (g2.toNat : Int), v2, u2] :: [.blk b4 4 [.bool ok], .blk b3 3 [.int .i64 ((n : Nat) : Int)], .blk b2 24 [.int .i64 0], .blk b1 61 t.c])) (.blk b 61 [.int .u8 (g2.toNat : Int), v2, u2] :: [.blk b4 4 [.bool true], .blk b3 3 [.int .i64 (((n + 1) : Nat) : Int)], .blk b2 24 [.int .i64 0], .blk b1 61 t.c]) [] w from h).sub SubC.h .nil⟩
         ·
          try simp only [decide_eq_true_eq, decide_eq_false_iff_not, beq_iff_eq, beq_eq_false_iff_ne, ne_eq] at hb40
          have d3 : decide (g2.toNat < 128) = false := decide_eq_false zz12
          refine wil_on rfl rfl ?_
          refine wil_q (q_field Tryd.underlying61 rfl Tryd.ti34 rfl rfl _ rfl) rfl ?_
          refine wil_on rfl rfl ?_
          refine wil_q (q_ld Tryd.underlying34 rfl rfl rfl) rfl ?_
          refine wil_on rfl rfl ?_
          refine wil_q (q_lenW Tryd.underlying34 rfl zz3) rfl ?_
          refine wil_on rfl rfl ?_
          refine wil_q (q_pure rfl) rfl ?_
          refine wil_on rfl rfl ?_
          refine wil_q (q_pure rfl) rfl ?_
          refine wil_q (q_pure rfl) rfl ?_
          refine wil_t0 (t_st1 Tryd.ti4 rfl rfl rfl zz6 _ zz51) (fun _ => ?_)
          refine wil_nil ?_
          refine ex_block ?_
          refine ex_roundN ?_
          have hq : (((cs.length : Nat) : Int) == 0) = (ok && okY (HT.nd g2 v2 cs u2 l2, dd)) := by
            have ec : (((cs.length : Nat) : Int) == 0) = decide (cs.length = 0) := by rw [Bool.eq_iff_iff]; simp only [beq_iff_eq, decide_eq_true_eq]; omega
            rw [show okY (HT.nd g2 v2 cs u2 l2, dd) = _ from okv g2 v2 cs u2 l2]
            simp only [ec, q1, d0, d1, d2, d3, Bool.true_and, Bool.and_true, Bool.false_and, Bool.and_false, Bool.true_or, Bool.or_true, Bool.false_or, Bool.or_false]
          exact fun w h => ⟨(n + 1, (((cs.length : Nat) : Int) == 0)), zz39, (show Mem w1 (nums (.blk b 61 [.int .u8 (g2.toNat : Int), v2, u2] :: [.blk b4 4 [.bool ok], .blk b3 3 [.int .i64 ((n : Nat) : Int)], .blk b2 24 [.int .i64 0], .blk b1 61 t.c])) (.blk b 61 [.int .u8 (g2.toNat : Int), v2, u2] :: [.blk b4 4 [.bool (((cs.length : Nat) : Int) == 0)], .blk b3 3 [.int .i64 (((n + 1) : Nat) : Int)], .blk b2 24 [.int .i64 0], .blk b1 61 t.c]) [] w from h).sub SubC.h .nil⟩
        ·
         try simp only [decide_eq_true_eq, decide_eq_false_iff_not, beq_iff_eq, beq_eq_false_iff_ne, ne_eq] at hb36
         have d2 : decide (l2.length = 0) = false := decide_eq_false zz12
         refine wil_off rfl rfl rfl rfl ?_
         refine wil_off rfl rfl rfl rfl ?_
         refine wil_off rfl rfl rfl rfl ?_
         refine wil_off rfl rfl rfl rfl ?_
         refine wil_off rfl rfl rfl rfl ?_
         refine wil_off rfl rfl rfl rfl ?_
         refine wil_off rfl rfl rfl rfl ?_
         refine wil_off rfl rfl rfl rfl ?_
         refine wil_off rfl rfl rfl rfl ?_
         refine wil_q (q_pure rfl) rfl ?_
         refine wil_t0 (t_st1 Tryd.ti4 rfl rfl rfl zz6 _ zz51) (fun _ => ?_)
         refine wil_nil ?_
         refine ex_block ?_
         refine ex_roundN ?_
         have hq : false = (ok && okY (HT.nd g2 v2 cs u2 l2, dd)) := by
           have ec : (((cs.length : Nat) : Int) == 0) = decide (cs.length = 0) := by rw [Bool.eq_iff_iff]; simp only [beq_iff_eq, decide_eq_true_eq]; omega
           rw [show okY (HT.nd g2 v2 cs u2 l2, dd) = _ from okv g2 v2 cs u2 l2]
           simp only [ec, q1, d0, d1, d2, Bool.true_and, Bool.and_true, Bool.false_and, Bool.and_false, Bool.true_or, Bool.or_true, Bool.false_or, Bool.or_false]
         exact fun w h => ⟨(n + 1, false), zz39, (show Mem w1 (nums (.blk b 61 [.int .u8 (g2.toNat : Int), v2, u2] :: [.blk b4 4 [.bool ok], .blk b3 3 [.int .i64 ((n : Nat) : Int)], .blk b2 24 [.int .i64 0], .blk b1 61 t.c])) (.blk b 61 [.int .u8 (g2.toNat : Int), v2, u2] :: [.blk b4 4 [.bool false], .blk b3 3 [.int .i64 (((n + 1) : Nat) : Int)], .blk b2 24 [.int .i64 0], .blk b1 61 t.c]) [] w from h).sub SubC.h .nil⟩
      ·
       try simp only [decide_eq_true_eq, decide_eq_false_iff_not, beq_iff_eq, beq_eq_false_iff_ne, ne_eq] at hb25
       have d0 : decide (g2.toNat ≠ 0) = false := decide_eq_false zz12
       refine wil_off rfl rfl rfl rfl ?_
       refine wil_off rfl rfl rfl rfl ?_
       refine wil_off rfl rfl rfl rfl ?_
       refine wil_off rfl rfl rfl rfl ?_
       refine wil_off rfl rfl rfl rfl ?_
       refine wil_off rfl rfl rfl rfl ?_
       refine wil_off rfl rfl rfl rfl ?_
       refine wil_off rfl rfl rfl rfl ?_
       refine wil_off rfl rfl rfl rfl ?_
       refine wil_q (q_pure rfl) rfl ?_
       refine wil_q (q_pure rfl) rfl ?_
       refine wil_off rfl rfl rfl rfl ?_
       refine wil_off rfl rfl rfl rfl ?_
       refine wil_off rfl rfl rfl rfl ?_
       refine wil_off rfl rfl rfl rfl ?_
       refine wil_off rfl rfl rfl rfl ?_
       refine wil_off rfl rfl rfl rfl ?_
       refine wil_off rfl rfl rfl rfl ?_
       refine wil_off rfl rfl rfl rfl ?_
       refine wil_off rfl rfl rfl rfl ?_
       refine wil_q (q_pure rfl) rfl ?_
       refine wil_t0 (t_st1 Tryd.ti4 rfl rfl rfl zz6 _ zz51) (fun _ => ?_)
       refine wil_nil ?_
       refine ex_block ?_
       refine ex_roundN ?_
       have hq : false = (ok && okY (HT.nd g2 v2 cs u2 l2, dd)) := by
         have ec : (((cs.length : Nat) : Int) == 0) = decide (cs.length = 0) := by rw [Bool.eq_iff_iff]; simp only [beq_iff_eq, decide_eq_true_eq]; omega
         rw [show okY (HT.nd g2 v2 cs u2 l2, dd) = _ from okv g2 v2 cs u2 l2]
         simp only [ec, q1, d0, Bool.true_and, Bool.and_true, Bool.false_and, Bool.and_false, Bool.true_or, Bool.or_true, Bool.false_or, Bool.or_false]
       exact fun w h => ⟨(n + 1, false), zz39, (show Mem w1 (nums (.blk b 61 [.int .u8 (g2.toNat : Int), v2, u2] :: [.blk b4 4 [.bool ok], .blk b3 3 [.int .i64 ((n : Nat) : Int)], .blk b2 24 [.int .i64 0], .blk b1 61 t.c])) (.blk b 61 [.int .u8 (g2.toNat : Int), v2, u2] :: [.blk b4 4 [.bool false], .blk b3 3 [.int .i64 (((n + 1) : Nat) : Int)], .blk b2 24 [.int .i64 0], .blk b1 61 t.c]) [] w from h).sub SubC.h .nil⟩
     ·
      have q1 : ok = false := hb20
      refine wil_off rfl rfl rfl rfl ?_
      refine wil_off rfl rfl rfl rfl ?_
      refine wil_off rfl rfl rfl rfl ?_
      refine wil_q (q_pure rfl) rfl ?_
      refine wil_q (q_pure rfl) rfl ?_
      refine wil_off rfl rfl rfl rfl ?_
      refine wil_off rfl rfl rfl rfl ?_
      refine wil_off rfl rfl rfl rfl ?_
      refine wil_off rfl rfl rfl rfl ?_
      refine wil_off rfl rfl rfl rfl ?_
      refine wil_off rfl rfl rfl rfl ?_
      refine wil_off rfl rfl rfl rfl ?_
      refine wil_off rfl rfl rfl rfl ?_
      refine wil_off rfl rfl rfl rfl ?_
      refine wil_q (q_pure rfl) rfl ?_
      refine wil_q (q_pure rfl) rfl ?_
      refine wil_off rfl rfl rfl rfl ?_
      refine wil_off rfl rfl rfl rfl ?_
      refine wil_off rfl rfl rfl rfl ?_
      refine wil_off rfl rfl rfl rfl ?_
      refine wil_off rfl rfl rfl rfl ?_
      refine wil_off rfl rfl rfl rfl ?_
      refine wil_off rfl rfl rfl rfl ?_
      refine wil_off rfl rfl rfl rfl ?_
      refine wil_off rfl rfl rfl rfl ?_
      refine wil_q (q_pure rfl) rfl ?_
      refine wil_t0 (t_st1 Tryd.ti4 rfl rfl rfl zz6 _ zz51) (fun _ => ?_)
      refine wil_nil ?_
      refine ex_block ?_
      refine ex_roundN ?_
      have hq : false = (ok && okY (HT.nd g2 v2 cs u2 l2, dd)) := by
        have ec : (((cs.length : Nat) : Int) == 0) = decide (cs.length = 0) := by rw [Bool.eq_iff_iff]; simp only [beq_iff_eq, decide_eq_true_eq]; omega
        rw [show okY (HT.nd g2 v2 cs u2 l2, dd) = _ from okv g2 v2 cs u2 l2]
        simp only [ec, q1, Bool.true_and, Bool.and_true, Bool.false_and, Bool.and_false, Bool.true_or, Bool.or_true, Bool.false_or, Bool.or_false]
      exact fun w h => ⟨(n + 1, false), zz39, (show Mem w1 (nums (.blk b 61 [.int .u8 (g2.toNat : Int), v2, u2] :: [.blk b4 4 [.bool ok], .blk b3 3 [.int .i64 ((n : Nat) : Int)], .blk b2 24 [.int .i64 0], .blk b1 61 t.c])) (.blk b 61 [.int .u8 (g2.toNat : Int), v2, u2] :: [.blk b4 4 [.bool false], .blk b3 3 [.int .i64 (((n + 1) : Nat) : Int)], .blk b2 24 [.int .i64 0], .blk b1 61 t.c]) [] w from h).sub SubC.h .nil⟩
  ·
   intro D s hgs
   obtain ⟨n, ok⟩ := s
   obtain ⟨hdc, rfl⟩ := gC_done hgs
   refine ex_block <| ex_then <| wpc_seq <| wpc_seq <| wpc_region ?_
   refine wpl_q (q_ld Tryd.underlying4 rfl rfl (by first | exact vbs_get zz6 | rfl)) rfl ?_
   refine wpl_q (q_pure rfl) rfl <| wpl_nil <| ex_then ?_
   refine wpc_cond rfl (fun hc48 => ?_) (fun hc48 => ?_)
   ·
    have h8 : t.tr.shp = false := by simpa using hc48
    refine wpc_seq <| wpc_region ?_
    refine wpl_t0 (t_st1 Tryd.ti24 rfl rfl rfl zz6 [.int .i64 8] rfl) (fun _ => ?_)
    refine wpl_nil <| ex_then <| wpc_ret ?_
    refine ex_then_ret ?_
    refine ex_markN (.inl rfl) .here ?_
    refine retv1 (.inl rfl) rfl (rv_one Tryd.underlying24 rfl rfl (fun w h => h.cell_blk zz4 rfl)) ?_
    exact fun w h => ⟨zz29, h.below⟩
   ·
    have h8 : ¬ t.tr.shp = false := by rw [Bool.not_eq_false]; simpa using hc48
    refine wpc_skip <| ex_then <| wpc_seq <| wpc_seq <| wpc_region <| wpl_q (q_ldN Tryd.underlying61 rfl Tryd.ti61 rfl LenC.h) rfl ?_
    refine wpl_t (t_pur (v := .int .i64 ((t.tr.siz : Nat) : Int)) Tryd.hb76 rfl fun w h => size t w (ht.old h) hsm) rfl (fun b50 => ?_)
    refine wpl_q (q_pure rfl) rfl <| wpl_nil <| ex_then ?_
    refine wpc_cond rfl (fun hc51 => ?_) (fun hc51 => ?_)
    ·
     simp only [decide_eq_true_eq] at hc51
     refine wpc_seq <| wpc_region ?_
     refine wpl_t0 (t_st1 Tryd.ti24 rfl rfl rfl zz6 [.int .i64 4] rfl) (fun _ => ?_)
     refine wpl_nil <| ex_then <| wpc_ret ?_
     refine ex_then_ret ?_
     refine ex_markN (.inl rfl) .here ?_
     refine retv1 (.inl rfl) rfl (rv_one Tryd.underlying24 rfl rfl (fun w h => h.cell_blk zz4 rfl)) ?_
     exact fun w h => ⟨zz29, h.below⟩
    ·
     simp only [decide_eq_false_iff_not] at hc51
     refine wpc_skip <| ex_then <| wpc_seq <| wpc_region ?_
     refine wpl_t0 (t_st1 Tryd.ti24 rfl rfl rfl zz6 [.int .i64 0] rfl) (fun _ => ?_)
     refine wpl_nil <| ex_then <| wpc_ret ?_
     refine ex_markN (.inl rfl) .here ?_
     refine retv1 (.inl rfl) rfl (rv_one Tryd.underlying24 rfl rfl (fun w h => h.cell_blk zz4 rfl)) ?_
     exact fun w h => ⟨zz29, h.below⟩
  ·
   intro D r hr
   refine wpc_ret ?_
   refine ex_block_ret ?_
   refine ex_then_ret ?_
   refine ex_markN (.inl rfl) .here ?_
   refine retv1 (.inl rfl) rfl (rv_one Tryd.underlying24 rfl rfl (fun w h => h.cell_blk zz4 rfl)) ?_
   exact fun w h => ⟨zz29, h.below⟩
end Go.Proofs.YtgnablliekgbgaaDoor
namespace Go.Proofs.YtgnablliekgbgaaDoor
open Go Go.PL Go.RowKit
mutual
def enc : Tr → List UInt8
  | .nd g bs l => g :: (lenB (bs.length + sizL l) ++ (bs ++ encL l))
def encL : List Tr → List UInt8
  | [] => []
  | x :: l => enc x ++ encL l
end
theorem encL_app : ∀ (a b : List Tr), encL (a ++ b) = encL a ++ encL b
  | [], b => rfl
  | x :: a, b => by rw [List.cons_append, encL, encL, encL_app a b, List.append_assoc]
theorem encL_take {l : List HT} {i : Nat} (h : i < l.length) : encL (trs (l.take (i + 1))) = encL (trs (l.take i)) ++ enc (l.getD i HT.z).tr := by rw [trs_takeS h, encL_app, encL, encL, List.append_nil]
theorem Sm.kidT {g : UInt8} {bs : List UInt8} {l : List Tr} (h : Sm (.nd g bs l)) {x : Tr} (hx : x ∈ l) : Sm x := by
  have h : bs.length + bytL l + 5 * (1 + cntL l) ≤ 1000000 := h
  have key : ∀ m : List Tr, x ∈ m → x.byt ≤ bytL m ∧ x.cnt ≤ cntL m := by
    intro m
    induction m with
    | nil => intro h; cases h
    | cons y m ih =>
      intro hm
      rw [bytL, cntL]
      rcases List.mem_cons.1 hm with rfl | hm
      · omega
      · have := ih hm; omega
  have := key l hx
  unfold Sm; omega
theorem enc_len : ∀ t : Tr, Sm t → (enc t).length = t.siz := by
  intro t
  induction t using Tr.ind with
  | _ g bs l ih =>
    intro h
    have hc := content_le h
    have key : ∀ m : List Tr, (∀ x ∈ m, x ∈ l) → (encL m).length = sizL m := by
      intro m
      induction m with
      | nil => intro _; rfl
      | cons x m ihm =>
        intro hm
        rw [encL, List.length_append, ih x (hm x (List.mem_cons_self ..)) (h.kidT (hm x (List.mem_cons_self ..))), ihm fun y hy => hm y (List.mem_cons_of_mem _ hy), sizL]
    rw [enc, List.length_cons, List.length_append, List.length_append, key l (fun _ hx => hx), lenB_length zz12, Tr.siz]; omega
def encF (t : Tr) : List UInt8 × Int := if checkF t = 0 then (enc t, 0) else ([], checkF t)
end Go.Proofs.YtgnablliekgbgaaDoor
namespace Go.Proofs.YtgnablliekgbgaaDoor
open Go Go.PL Go.RowKit
def rdO (Ln : List Nat) (w : World) : Rd := fun a => if a.block ∈ Ln then none else w.cell? a
theorem rdO_some {Ln : List Nat} {w : World} {a : Addr} {v : Value} (h : rdO Ln w a = some v) : a.block ∉ Ln ∧ w.cell? a = some v := by
  unfold rdO at h
  split at h
  · cases h
  · exact ⟨‹_›, h⟩
theorem rdo_old {w0 w : World} {Ln : List Nat} {M : List Ent} {S : List Fact} (h : Mem w0 Ln M S w) : ∀ a v, rdO Ln w0 a = some v → w.cell? a = some v := fun a v hv => by
  obtain ⟨h1, h2⟩ := rdO_some hv
  exact h.cell_oldL h2 h1
theorem rdo_nums {w0 w : World} {Ln : List Nat} {M : List Ent} {S : List Fact} (h : Mem w0 Ln M S w) {e : Ent} (he : e ∈ M) : ∀ a v, rdO Ln w0 a = some v → rdO (nums [e]) w a = some v := fun a v hv => by
  obtain ⟨h1, h2⟩ := rdO_some hv
  have h3 := h.cell_oldL h2 h1
  have hlt := World.block_lt_of_cell? w0 a h2
  unfold rdO
  rw [if_neg]
  · exact h3
  · intro hm
    obtain ⟨f, hf, hn⟩ := mem_nums.1 hm
    rw [List.mem_singleton] at hf
    subst hf
    rcases h.new f he _ hn with h4 | h4
    · omega
    · exact h1 h4
theorem rdo_nil {w0 w : World} {M : List Ent} {S : List Fact} (h : Mem w0 [] M S w) {e : Ent} (he : e ∈ M) : ∀ a v, w0.cell? a = some v → rdO (nums [e]) w a = some v := fun a v hv => rdo_nums h he a v (by unfold rdO; rw [if_neg zz40]; exact hv)
theorem lenB_num {n : Nat} (h : n < 16777216) : lenB n = if n < 128 then [of8 (n : Int)] else of8 ((128 + kB n : Nat) : Int) :: numK (kB n) n := by
  have hw := wideF_eq h
  unfold lenB
  by_cases h1 : n < 128
  · rw [if_pos h1, if_pos h1]
  · have hk : kB n = wideF n - 1 := by unfold wideF kB; rw [if_neg h1]; omega
    rw [if_neg h1] at hw
    rw [if_neg h1, if_neg h1, hk, hw]
    split
    · show _ = _ :: (numK 0 _ ++ [_])
      rw [of8_mod]; rfl
    · split
      · show _ = _ :: ((numK 0 _ ++ [_]) ++ [_])
        rw [of8_mod (n / 256)]; rfl
      · show _ = _ :: (((numK 0 _ ++ [_]) ++ [_]) ++ [_])
        rw [of8_mod (n / 256 / 256), show n / 256 / 256 = n / 65536 from zz12]; rfl
theorem wide_k {n : Nat} (h : ¬ n < 128) : wideF n - 1 = kB n := by unfold wideF kB; rw [if_neg h]; omega
theorem wide_1 {n : Nat} (h : n < 128) : wideF n - 1 = 0 := by unfold wideF; rw [if_pos h]
theorem wide_ge {n : Nat} (h : ¬ n < 128) : 1 ≤ kB n := by
  unfold kB
  have : ¬ lenF n ≤ 0 := fun hh => by have := lenF_lt hh; omega
  omega
end Go.Proofs.YtgnablliekgbgaaDoor
