/- Numbers of bits; the encoding of a length. -/
import Derived.Test.YtommkigkkeailaaOA
namespace Go.Proofs.Ytommkigkkeailaa
set_option linter.unusedSimpArgs false
set_option linter.unusedVariables false
open Go Go.PL Go.RowKit

/-- How many bits a number has. -/
def lenF (n : Nat) : Nat := if n = 0 then 0 else n.log2 + 1
theorem lenF_step {n : Nat} (h : n ≠ 0) : lenF n = lenF (n / 2) + 1 := by
  unfold lenF
  rw [if_neg h, Nat.log2_def]
  by_cases h2 : 2 ≤ n
  · rw [if_pos h2, if_neg (by omega)]
  · rw [if_neg h2, if_pos (by omega)]
theorem lenF_shift : ∀ (s n : Nat), 2 ^ s ≤ n → lenF n = s + lenF (n / 2 ^ s)
  | 0, n, _ => by simp
  | s + 1, n, h => by
    have h1 : 2 ^ s ≤ n / 2 := by rw [Nat.pow_succ] at h; omega
    have := Nat.two_pow_pos s
    rw [lenF_step (by omega), lenF_shift s (n / 2) h1, Nat.div_div_eq_div_mul, Nat.pow_succ, Nat.mul_comm 2]; omega
theorem lenF_le : ∀ {m n : Nat}, n < 2 ^ m → lenF n ≤ m
  | 0, n, h => by
    obtain rfl : n = 0 := by simpa using h
    exact Nat.le_refl _
  | m + 1, n, h => by
    by_cases h0 : n = 0
    · subst h0; exact Nat.zero_le _
    · rw [lenF_step h0]
      have := lenF_le (m := m) (n := n / 2) (by rw [Nat.pow_succ] at h; omega)
      omega
theorem lenF_lt : ∀ {m n : Nat}, lenF n ≤ m → n < 2 ^ m
  | 0, n, h => by
    by_cases h0 : n = 0
    · subst h0; decide
    · rw [lenF_step h0] at h; omega
  | m + 1, n, h => by
    by_cases h0 : n = 0
    · subst h0; exact Nat.two_pow_pos _
    · rw [lenF_step h0] at h
      have := lenF_lt (m := m) (n := n / 2) (by omega)
      rw [Nat.pow_succ]; omega
def tab8 : List UInt8 := (List.range 256).map fun i => UInt8.ofNat (lenF i)
theorem tab8_length : tab8.length = 256 := by rw [tab8, List.length_map, List.length_range]
theorem tab8_get {b : Nat} (h : b < 256) : (tab8.getD b 0).toNat = lenF b := by
  rw [tab8, List.getD_eq_getElem?_getD, List.getElem?_map, List.getElem?_range h]
  show (UInt8.ofNat (lenF b)).toNat = _
  rw [UInt8.toNat_ofNat']
  exact Nat.mod_eq_of_lt (by have := lenF_le (m := 8) (n := b) h; omega)
theorem sr64_nat (x : UInt64) (k : Nat) (hk : k ≤ 64) : (sr64 x k).toNat = x.toNat / 2 ^ k := by
  show (UInt64.ofNat (x.toNat / 2 ^ min k 64)).toNat = _
  rw [Nat.min_eq_left hk, UInt64.toNat_ofNat']
  exact Nat.mod_eq_of_lt (Nat.lt_of_le_of_lt (Nat.div_le_self _ _) x.toNat_lt)
theorem len_fin {x y : UInt64} (s : Nat) (hy : y.toNat = x.toNat / 2 ^ s) (h1 : y.toNat < 256) (h2 : s = 0 ∨ 2 ^ s ≤ x.toNat) : s + (tab8.getD (of8 (y.toNat : Int)).toNat 0).toNat = lenF x.toNat := by
  have e : (of8 (y.toNat : Int)).toNat = y.toNat := by have := of8_toNat (y.toNat : Int); omega
  rw [e, tab8_get h1, hy]
  rcases h2 with rfl | h2
  · simp
  · exact (lenF_shift s _ h2).symm
def wideF (n : Nat) : Nat := if n < 128 then 1 else 1 + (lenF n + 7) / 8
theorem wideF_eq {n : Nat} (h : n < 16777216) : wideF n = if n < 128 then 1 else if n < 256 then 2 else if n < 65536 then 3 else 4 := by
  unfold wideF
  split
  · rfl
  · split
    · have h1 := lenF_le (m := 8) (n := n) (by omega)
      have h2 : ¬ lenF n ≤ 0 := fun hh => by have := lenF_lt hh; omega
      omega
    · split
      · have h1 := lenF_le (m := 16) (n := n) (by omega)
        have h2 : ¬ lenF n ≤ 8 := fun hh => by have := lenF_lt hh; omega
        omega
      · have h1 := lenF_le (m := 24) (n := n) (by omega)
        have h2 : ¬ lenF n ≤ 16 := fun hh => by have := lenF_lt hh; omega
        omega
theorem wideF_le (n : Nat) (h : n < 16777216) : wideF n ≤ 4 := by
  rw [wideF_eq h]; split
  · decide
  · split
    · decide
    · split <;> decide
/-- The encoding of a length. -/
def lenB (n : Nat) : List UInt8 := if n < 128 then [of8 (n : Int)] else if n < 256 then [129, of8 (n : Int)] else if n < 65536 then [130, of8 ((n / 256 : Nat) : Int), of8 ((n % 256 : Nat) : Int)] else [131, of8 ((n / 65536 : Nat) : Int), of8 ((n / 256 % 256 : Nat) : Int), of8 ((n % 256 : Nat) : Int)]
theorem lenB_length {n : Nat} (h : n < 16777216) : (lenB n).length = wideF n := by
  rw [wideF_eq h]; unfold lenB
  split
  · rfl
  · split
    · rfl
    · split <;> rfl

set_option maxRecDepth 100000 in
theorem len64 (x : UInt64) (w : World)   :
    Calls Try.prog 42 [.int .u64 x.toNat].toArray w (Pur w (.int .i64 ((lenF x.toNat : Nat) : Int))) := by
  have hx := x.toNat_lt
  refine enter (m := 25) (R := Mem w [] [] []) Try.func42 rfl rfl (Nat.le_of_ble_eq_true rfl) (Mem.start w) ?_
  refine wpc_seq ?_
  refine wpc_region ?_
  refine wpl_q (q_pure rfl) rfl ?_
  refine wpl_nil ?_
  refine ex_then ?_
  refine wpc_seq ?_
  refine wpc_seq ?_
  refine wpc_region ?_
  refine wpl_q (q_pure rfl) rfl ?_
  refine wpl_q (q_pure rfl) rfl ?_
  refine wpl_nil ?_
  refine ex_then ?_
  refine wpc_cond rfl (fun hc4 => ?_) (fun hc4 => ?_)
  ·
   try simp only [decide_eq_true_eq, decide_eq_false_iff_not, ge_iff_le] at hc4
   refine wpc_seq ?_
   refine wpc_region ?_
   refine wpl_q (q_pure rfl) rfl ?_
   refine wpl_q (q64_shr rfl rfl (by first | decide | omega) 32 rfl) rfl ?_
   refine wpl_q (q_pure rfl) rfl ?_
   refine wpl_nil ?_
   refine ex_then ?_
   refine wpc_region ?_
   refine wpl_q (q_pure rfl) rfl ?_
   refine wpl_nil ?_
   refine ex_then ?_
   refine wpc_seq ?_
   refine wpc_seq ?_
   refine wpc_region ?_
   refine wpl_q (q_pure rfl) rfl ?_
   refine wpl_q (q_pure rfl) rfl ?_
   refine wpl_nil ?_
   refine ex_then ?_
   refine wpc_cond rfl (fun hc8 => ?_) (fun hc8 => ?_)
   ·
    try simp only [decide_eq_true_eq, decide_eq_false_iff_not, ge_iff_le] at hc8
    refine wpc_seq ?_
    refine wpc_region ?_
    refine wpl_q (q_pure rfl) rfl ?_
    refine wpl_q (q64_shr rfl rfl (by first | decide | omega) 16 rfl) rfl ?_
    refine wpl_q (q_pure rfl) rfl ?_
    refine wpl_nil ?_
    refine ex_then ?_
    refine wpc_region ?_
    refine wpl_q (q_pure rfl) rfl ?_
    refine wpl_q (q_addN (b := 16) rfl rfl (by first | omega | (simp only [maxLen]; omega) | (simp only [List.length_append, List.length_cons, List.length_nil, List.length_take, maxLen]; omega) | (simp only [List.length_append, List.length_cons, List.length_nil, List.length_take]; omega))) rfl ?_
    refine wpl_q (q_pure rfl) rfl ?_
    refine wpl_nil ?_
    refine ex_then ?_
    refine wpc_seq ?_
    refine wpc_seq ?_
    refine wpc_region ?_
    refine wpl_q (q_pure rfl) rfl ?_
    refine wpl_q (q_pure rfl) rfl ?_
    refine wpl_nil ?_
    refine ex_then ?_
    refine wpc_cond rfl (fun hc14 => ?_) (fun hc14 => ?_)
    ·
     try simp only [decide_eq_true_eq, decide_eq_false_iff_not, ge_iff_le] at hc14
     refine wpc_seq ?_
     refine wpc_region ?_
     refine wpl_q (q_pure rfl) rfl ?_
     refine wpl_q (q64_shr rfl rfl (by first | decide | omega) 8 rfl) rfl ?_
     refine wpl_q (q_pure rfl) rfl ?_
     refine wpl_nil ?_
     refine ex_then ?_
     refine wpc_region ?_
     refine wpl_q (q_pure rfl) rfl ?_
     refine wpl_q (q_addN (b := 8) rfl rfl (by first | omega | (simp only [maxLen]; omega) | (simp only [List.length_append, List.length_cons, List.length_nil, List.length_take, maxLen]; omega) | (simp only [List.length_append, List.length_cons, List.length_nil, List.length_take]; omega))) rfl ?_
     refine wpl_q (q_pure rfl) rfl ?_
     refine wpl_nil ?_
     refine ex_then ?_
     refine wpc_seq ?_
     refine wpc_region ?_
     refine wpl_q (q_pure rfl) rfl ?_
     refine wpl_q (q_pure rfl) rfl ?_
     refine wpl_q (q8_conv Try.underlying26 Try.underlying5 rfl) rfl ?_
     refine wpl_q (q_strIdx (xs := tab8) Try.underlying9 (by kernel_rfl) rfl (by rw [tab8_length]; exact UInt8.toNat_lt _)) rfl ?_
     refine wpl_q (q8_int Try.underlying5 Try.underlying3 rfl) rfl ?_
     refine wpl_q (q_addN rfl rfl (Nat.le_trans (Nat.add_le_add_left (Nat.le_of_lt (UInt8.toNat_lt _)) _) (by decide))) rfl ?_
     refine wpl_q (q_pure rfl) rfl ?_
     refine wpl_nil ?_
     refine ex_then ?_
     refine wpc_ret ?_
     refine ret1 (.inl rfl) rfl rfl ?_
     exact fun w h => ⟨by
       have e0 := sr64_nat x 32 (by decide)
       have e1 := sr64_nat (sr64 x 32) 16 (by decide)
       have e2 := sr64_nat (sr64 (sr64 x 32) 16) 8 (by decide)
       have := len_fin (x := x) (y := (sr64 (sr64 (sr64 x 32) 16) 8)) 56 (by rw [e2, e1, e0]; first | done | omega) (by omega) (by omega)
       rw [← this], h.below⟩
    ·
     try simp only [decide_eq_true_eq, decide_eq_false_iff_not, ge_iff_le] at hc14
     refine wpc_skip ?_
     refine ex_then ?_
     refine wpc_seq ?_
     refine wpc_region ?_
     refine wpl_q (q_pure rfl) rfl ?_
     refine wpl_q (q_pure rfl) rfl ?_
     refine wpl_q (q8_conv Try.underlying26 Try.underlying5 rfl) rfl ?_
     refine wpl_q (q_strIdx (xs := tab8) Try.underlying9 (by kernel_rfl) rfl (by rw [tab8_length]; exact UInt8.toNat_lt _)) rfl ?_
     refine wpl_q (q8_int Try.underlying5 Try.underlying3 rfl) rfl ?_
     refine wpl_q (q_addN rfl rfl (Nat.le_trans (Nat.add_le_add_left (Nat.le_of_lt (UInt8.toNat_lt _)) _) (by decide))) rfl ?_
     refine wpl_q (q_pure rfl) rfl ?_
     refine wpl_nil ?_
     refine ex_then ?_
     refine wpc_ret ?_
     refine ret1 (.inl rfl) rfl rfl ?_
     exact fun w h => ⟨by
       have e0 := sr64_nat x 32 (by decide)
       have e1 := sr64_nat (sr64 x 32) 16 (by decide)
       have := len_fin (x := x) (y := (sr64 (sr64 x 32) 16)) 48 (by rw [e1, e0]; first | done | omega) (by omega) (by omega)
       rw [← this], h.below⟩
   ·
    try simp only [decide_eq_true_eq, decide_eq_false_iff_not, ge_iff_le] at hc8
    refine wpc_skip ?_
    refine ex_then ?_
    refine wpc_seq ?_
    refine wpc_seq ?_
    refine wpc_region ?_
    refine wpl_q (q_pure rfl) rfl ?_
    refine wpl_q (q_pure rfl) rfl ?_
    refine wpl_nil ?_
    refine ex_then ?_
    refine wpc_cond rfl (fun hc14 => ?_) (fun hc14 => ?_)
    ·
     try simp only [decide_eq_true_eq, decide_eq_false_iff_not, ge_iff_le] at hc14
     refine wpc_seq ?_
     refine wpc_region ?_
     refine wpl_q (q_pure rfl) rfl ?_
     refine wpl_q (q64_shr rfl rfl (by first | decide | omega) 8 rfl) rfl ?_
     refine wpl_q (q_pure rfl) rfl ?_
     refine wpl_nil ?_
     refine ex_then ?_
     refine wpc_region ?_
     refine wpl_q (q_pure rfl) rfl ?_
     refine wpl_q (q_addN (b := 8) rfl rfl (by first | omega | (simp only [maxLen]; omega) | (simp only [List.length_append, List.length_cons, List.length_nil, List.length_take, maxLen]; omega) | (simp only [List.length_append, List.length_cons, List.length_nil, List.length_take]; omega))) rfl ?_
     refine wpl_q (q_pure rfl) rfl ?_
     refine wpl_nil ?_
     refine ex_then ?_
     refine wpc_seq ?_
     refine wpc_region ?_
     refine wpl_q (q_pure rfl) rfl ?_
     refine wpl_q (q_pure rfl) rfl ?_
     refine wpl_q (q8_conv Try.underlying26 Try.underlying5 rfl) rfl ?_
     refine wpl_q (q_strIdx (xs := tab8) Try.underlying9 (by kernel_rfl) rfl (by rw [tab8_length]; exact UInt8.toNat_lt _)) rfl ?_
     refine wpl_q (q8_int Try.underlying5 Try.underlying3 rfl) rfl ?_
     refine wpl_q (q_addN rfl rfl (Nat.le_trans (Nat.add_le_add_left (Nat.le_of_lt (UInt8.toNat_lt _)) _) (by decide))) rfl ?_
     refine wpl_q (q_pure rfl) rfl ?_
     refine wpl_nil ?_
     refine ex_then ?_
     refine wpc_ret ?_
     refine ret1 (.inl rfl) rfl rfl ?_
     exact fun w h => ⟨by
       have e0 := sr64_nat x 32 (by decide)
       have e1 := sr64_nat (sr64 x 32) 8 (by decide)
       have := len_fin (x := x) (y := (sr64 (sr64 x 32) 8)) 40 (by rw [e1, e0]; first | done | omega) (by omega) (by omega)
       rw [← this], h.below⟩
    ·
     try simp only [decide_eq_true_eq, decide_eq_false_iff_not, ge_iff_le] at hc14
     refine wpc_skip ?_
     refine ex_then ?_
     refine wpc_seq ?_
     refine wpc_region ?_
     refine wpl_q (q_pure rfl) rfl ?_
     refine wpl_q (q_pure rfl) rfl ?_
     refine wpl_q (q8_conv Try.underlying26 Try.underlying5 rfl) rfl ?_
     refine wpl_q (q_strIdx (xs := tab8) Try.underlying9 (by kernel_rfl) rfl (by rw [tab8_length]; exact UInt8.toNat_lt _)) rfl ?_
     refine wpl_q (q8_int Try.underlying5 Try.underlying3 rfl) rfl ?_
     refine wpl_q (q_addN rfl rfl (Nat.le_trans (Nat.add_le_add_left (Nat.le_of_lt (UInt8.toNat_lt _)) _) (by decide))) rfl ?_
     refine wpl_q (q_pure rfl) rfl ?_
     refine wpl_nil ?_
     refine ex_then ?_
     refine wpc_ret ?_
     refine ret1 (.inl rfl) rfl rfl ?_
     exact fun w h => ⟨by
       have e0 := sr64_nat x 32 (by decide)
       have := len_fin (x := x) (y := (sr64 x 32)) 32 (by rw [e0]; first | done | omega) (by omega) (by omega)
       rw [← this], h.below⟩
  ·
   try simp only [decide_eq_true_eq, decide_eq_false_iff_not, ge_iff_le] at hc4
   refine wpc_skip ?_
   refine ex_then ?_
   refine wpc_seq ?_
   refine wpc_seq ?_
   refine wpc_region ?_
   refine wpl_q (q_pure rfl) rfl ?_
   refine wpl_q (q_pure rfl) rfl ?_
   refine wpl_nil ?_
   refine ex_then ?_
   refine wpc_cond rfl (fun hc8 => ?_) (fun hc8 => ?_)
   ·
    try simp only [decide_eq_true_eq, decide_eq_false_iff_not, ge_iff_le] at hc8
    refine wpc_seq ?_
    refine wpc_region ?_
    refine wpl_q (q_pure rfl) rfl ?_
    refine wpl_q (q64_shr rfl rfl (by first | decide | omega) 16 rfl) rfl ?_
    refine wpl_q (q_pure rfl) rfl ?_
    refine wpl_nil ?_
    refine ex_then ?_
    refine wpc_region ?_
    refine wpl_q (q_pure rfl) rfl ?_
    refine wpl_q (q_addN (b := 16) rfl rfl (by first | omega | (simp only [maxLen]; omega) | (simp only [List.length_append, List.length_cons, List.length_nil, List.length_take, maxLen]; omega) | (simp only [List.length_append, List.length_cons, List.length_nil, List.length_take]; omega))) rfl ?_
    refine wpl_q (q_pure rfl) rfl ?_
    refine wpl_nil ?_
    refine ex_then ?_
    refine wpc_seq ?_
    refine wpc_seq ?_
    refine wpc_region ?_
    refine wpl_q (q_pure rfl) rfl ?_
    refine wpl_q (q_pure rfl) rfl ?_
    refine wpl_nil ?_
    refine ex_then ?_
    refine wpc_cond rfl (fun hc14 => ?_) (fun hc14 => ?_)
    ·
     try simp only [decide_eq_true_eq, decide_eq_false_iff_not, ge_iff_le] at hc14
     refine wpc_seq ?_
     refine wpc_region ?_
     refine wpl_q (q_pure rfl) rfl ?_
     refine wpl_q (q64_shr rfl rfl (by first | decide | omega) 8 rfl) rfl ?_
     refine wpl_q (q_pure rfl) rfl ?_
     refine wpl_nil ?_
     refine ex_then ?_
     refine wpc_region ?_
     refine wpl_q (q_pure rfl) rfl ?_
     refine wpl_q (q_addN (b := 8) rfl rfl (by first | omega | (simp only [maxLen]; omega) | (simp only [List.length_append, List.length_cons, List.length_nil, List.length_take, maxLen]; omega) | (simp only [List.length_append, List.length_cons, List.length_nil, List.length_take]; omega))) rfl ?_
     refine wpl_q (q_pure rfl) rfl ?_
     refine wpl_nil ?_
     refine ex_then ?_
     refine wpc_seq ?_
     refine wpc_region ?_
     refine wpl_q (q_pure rfl) rfl ?_
     refine wpl_q (q_pure rfl) rfl ?_
     refine wpl_q (q8_conv Try.underlying26 Try.underlying5 rfl) rfl ?_
     refine wpl_q (q_strIdx (xs := tab8) Try.underlying9 (by kernel_rfl) rfl (by rw [tab8_length]; exact UInt8.toNat_lt _)) rfl ?_
     refine wpl_q (q8_int Try.underlying5 Try.underlying3 rfl) rfl ?_
     refine wpl_q (q_addN rfl rfl (Nat.le_trans (Nat.add_le_add_left (Nat.le_of_lt (UInt8.toNat_lt _)) _) (by decide))) rfl ?_
     refine wpl_q (q_pure rfl) rfl ?_
     refine wpl_nil ?_
     refine ex_then ?_
     refine wpc_ret ?_
     refine ret1 (.inl rfl) rfl rfl ?_
     exact fun w h => ⟨by
       have e0 := sr64_nat x 16 (by decide)
       have e1 := sr64_nat (sr64 x 16) 8 (by decide)
       have := len_fin (x := x) (y := (sr64 (sr64 x 16) 8)) 24 (by rw [e1, e0]; first | done | omega) (by omega) (by omega)
       rw [← this], h.below⟩
    ·
     try simp only [decide_eq_true_eq, decide_eq_false_iff_not, ge_iff_le] at hc14
     refine wpc_skip ?_
     refine ex_then ?_
     refine wpc_seq ?_
     refine wpc_region ?_
     refine wpl_q (q_pure rfl) rfl ?_
     refine wpl_q (q_pure rfl) rfl ?_
     refine wpl_q (q8_conv Try.underlying26 Try.underlying5 rfl) rfl ?_
     refine wpl_q (q_strIdx (xs := tab8) Try.underlying9 (by kernel_rfl) rfl (by rw [tab8_length]; exact UInt8.toNat_lt _)) rfl ?_
     refine wpl_q (q8_int Try.underlying5 Try.underlying3 rfl) rfl ?_
     refine wpl_q (q_addN rfl rfl (Nat.le_trans (Nat.add_le_add_left (Nat.le_of_lt (UInt8.toNat_lt _)) _) (by decide))) rfl ?_
     refine wpl_q (q_pure rfl) rfl ?_
     refine wpl_nil ?_
     refine ex_then ?_
     refine wpc_ret ?_
     refine ret1 (.inl rfl) rfl rfl ?_
     exact fun w h => ⟨by
       have e0 := sr64_nat x 16 (by decide)
       have := len_fin (x := x) (y := (sr64 x 16)) 16 (by rw [e0]; first | done | omega) (by omega) (by omega)
       rw [← this], h.below⟩
   ·
    try simp only [decide_eq_true_eq, decide_eq_false_iff_not, ge_iff_le] at hc8
    refine wpc_skip ?_
    refine ex_then ?_
    refine wpc_seq ?_
    refine wpc_seq ?_
    refine wpc_region ?_
    refine wpl_q (q_pure rfl) rfl ?_
    refine wpl_q (q_pure rfl) rfl ?_
    refine wpl_nil ?_
    refine ex_then ?_
    refine wpc_cond rfl (fun hc14 => ?_) (fun hc14 => ?_)
    ·
     try simp only [decide_eq_true_eq, decide_eq_false_iff_not, ge_iff_le] at hc14
     refine wpc_seq ?_
     refine wpc_region ?_
     refine wpl_q (q_pure rfl) rfl ?_
     refine wpl_q (q64_shr rfl rfl (by first | decide | omega) 8 rfl) rfl ?_
     refine wpl_q (q_pure rfl) rfl ?_
     refine wpl_nil ?_
     refine ex_then ?_
     refine wpc_region ?_
     refine wpl_q (q_pure rfl) rfl ?_
     refine wpl_q (q_addN (b := 8) rfl rfl (by first | omega | (simp only [maxLen]; omega) | (simp only [List.length_append, List.length_cons, List.length_nil, List.length_take, maxLen]; omega) | (simp only [List.length_append, List.length_cons, List.length_nil, List.length_take]; omega))) rfl ?_
     refine wpl_q (q_pure rfl) rfl ?_
     refine wpl_nil ?_
     refine ex_then ?_
     refine wpc_seq ?_
     refine wpc_region ?_
     refine wpl_q (q_pure rfl) rfl ?_
     refine wpl_q (q_pure rfl) rfl ?_
     refine wpl_q (q8_conv Try.underlying26 Try.underlying5 rfl) rfl ?_
     refine wpl_q (q_strIdx (xs := tab8) Try.underlying9 (by kernel_rfl) rfl (by rw [tab8_length]; exact UInt8.toNat_lt _)) rfl ?_
     refine wpl_q (q8_int Try.underlying5 Try.underlying3 rfl) rfl ?_
     refine wpl_q (q_addN rfl rfl (Nat.le_trans (Nat.add_le_add_left (Nat.le_of_lt (UInt8.toNat_lt _)) _) (by decide))) rfl ?_
     refine wpl_q (q_pure rfl) rfl ?_
     refine wpl_nil ?_
     refine ex_then ?_
     refine wpc_ret ?_
     refine ret1 (.inl rfl) rfl rfl ?_
     exact fun w h => ⟨by
       have e0 := sr64_nat x 8 (by decide)
       have := len_fin (x := x) (y := (sr64 x 8)) 8 (by rw [e0]; first | done | omega) (by omega) (by omega)
       rw [← this], h.below⟩
    ·
     try simp only [decide_eq_true_eq, decide_eq_false_iff_not, ge_iff_le] at hc14
     refine wpc_skip ?_
     refine ex_then ?_
     refine wpc_seq ?_
     refine wpc_region ?_
     refine wpl_q (q_pure rfl) rfl ?_
     refine wpl_q (q_pure rfl) rfl ?_
     refine wpl_q (q8_conv Try.underlying26 Try.underlying5 rfl) rfl ?_
     refine wpl_q (q_strIdx (xs := tab8) Try.underlying9 (by kernel_rfl) rfl (by rw [tab8_length]; exact UInt8.toNat_lt _)) rfl ?_
     refine wpl_q (q8_int Try.underlying5 Try.underlying3 rfl) rfl ?_
     refine wpl_q (q_addN rfl rfl (Nat.le_trans (Nat.add_le_add_left (Nat.le_of_lt (UInt8.toNat_lt _)) _) (by decide))) rfl ?_
     refine wpl_q (q_pure rfl) rfl ?_
     refine wpl_nil ?_
     refine ex_then ?_
     refine wpc_ret ?_
     refine ret1 (.inl rfl) rfl rfl ?_
     exact fun w h => ⟨by
       skip
       have := len_fin (x := x) (y := x) 0 (by simp) (by omega) (by omega)
       rw [← this], h.below⟩

set_option maxRecDepth 100000 in
theorem len_ (x : UInt64) (w : World)   :
    Calls Try.prog 67 [.int .u64 x.toNat].toArray w (Pur w (.int .i64 ((lenF x.toNat : Nat) : Int))) := by
  refine enter (m := 8) (R := Mem w [] [] []) Try.func67 rfl rfl (Nat.le_of_ble_eq_true rfl) (Mem.start w) ?_
  refine wpc_seq ?_
  refine wpc_region ?_
  refine wpl_q (q_pure rfl) rfl ?_
  refine wpl_nil ?_
  refine ex_then ?_
  refine wpc_seq ?_
  refine wpc_cond_f rfl ?_
  refine wpc_skip ?_
  refine ex_then ?_
  refine wpc_seq ?_
  refine wpc_region ?_
  refine wpl_q (q_pure rfl) rfl ?_
  refine wpl_t (t_pur Try.hb42 rfl fun w h => len64 x w) rfl (fun b7 => ?_)
  refine wpl_q (q_pure rfl) rfl ?_
  refine wpl_nil ?_
  refine ex_then ?_
  refine wpc_ret ?_
  refine ret1 (.inl rfl) rfl rfl ?_
  exact fun w h => ⟨rfl, h.below⟩

set_option maxRecDepth 100000 in
theorem wide (n : Nat) (w : World)  (hn : n < 16777216) :
    Calls Try.prog 62 [.int .i64 ((n : Nat) : Int)].toArray w (Pur w (.int .i64 ((wideF n : Nat) : Int))) := by
  refine enter (m := 11) (R := Mem w [] [] []) Try.func62 rfl rfl (Nat.le_of_ble_eq_true rfl) (Mem.start w) ?_
  refine wpc_seq ?_
  refine wpc_region ?_
  refine wpl_q (q_pure rfl) rfl ?_
  refine wpl_nil ?_
  refine ex_then ?_
  refine wpc_seq ?_
  refine wpc_seq ?_
  refine wpc_region ?_
  refine wpl_q (q_pure rfl) rfl ?_
  refine wpl_q (q_pure rfl) rfl ?_
  refine wpl_nil ?_
  refine ex_then ?_
  refine wpc_cond rfl (fun hc4 => ?_) (fun hc4 => ?_)
  ·
   simp only [decide_eq_true_eq] at hc4
   refine wpc_seq ?_
   refine wpc_region ?_
   refine wpl_q (q_pure rfl) rfl ?_
   refine wpl_nil ?_
   refine ex_then ?_
   refine wpc_ret ?_
   refine ex_then_ret ?_
   refine ret1 (.inl rfl) rfl rfl ?_
   exact fun w h => ⟨by rw [wideF, if_pos (by omega)]; rfl, h.below⟩
  ·
   simp only [decide_eq_false_iff_not] at hc4
   refine wpc_skip ?_
   refine ex_then ?_
   refine wpc_seq ?_
   refine wpc_region ?_
   refine wpl_q (q_pure rfl) rfl ?_
   refine wpl_q (q64_conv Try.underlying3 Try.underlying70 rfl) rfl ?_
   refine wpl_t (t_pur (v := .int .i64 ((lenF n : Nat) : Int)) Try.hb67 rfl fun w h => by have q := len_ (of64 ((n : Nat) : Int)) w; rw [of64_nat n (by omega)] at q; rw [of64_nat n (by omega)]; exact q) rfl (fun b7 => ?_)
   have hle := lenF_le (m := 24) (n := n) (by omega)
   refine wpl_q (q_addN (b := 7) rfl rfl (by first | omega | (simp only [maxLen]; omega) | (simp only [List.length_append, List.length_cons, List.length_nil, List.length_take, maxLen]; omega) | (simp only [List.length_append, List.length_cons, List.length_nil, List.length_take]; omega))) rfl ?_
   refine wpl_q (q_quoN (b := 8) rfl rfl (by first | decide | omega) (by first | omega | (simp only [maxLen]; omega) | (simp only [List.length_append, List.length_cons, List.length_nil, List.length_take, maxLen]; omega) | (simp only [List.length_append, List.length_cons, List.length_nil, List.length_take]; omega))) rfl ?_
   refine wpl_q (q_addN (a := 1) rfl rfl (by first | omega | (simp only [maxLen]; omega) | (simp only [List.length_append, List.length_cons, List.length_nil, List.length_take, maxLen]; omega) | (simp only [List.length_append, List.length_cons, List.length_nil, List.length_take]; omega))) rfl ?_
   refine wpl_q (q_pure rfl) rfl ?_
   refine wpl_nil ?_
   refine ex_then ?_
   refine wpc_ret ?_
   refine ret1 (.inl rfl) rfl rfl ?_
   exact fun w h => ⟨by rw [wideF, if_neg (by omega)], h.below⟩

set_option maxRecDepth 100000 in
theorem refLength (n : Nat) (w : World)  (hn : n < 16777216) :
    Calls Try.prog 63 [.int .i64 ((n : Nat) : Int)].toArray w (GivesP w (fun v : Value => SV v (lenB n).length) (fun v => v) (fun v => [.row v (lenB n).length 5 1 (v8s (lenB n))]) (fun _ => [])) := by
  refine enter (m := 33) (R := Mem w [] [] []) Try.func63 rfl rfl (Nat.le_of_ble_eq_true rfl) (Mem.start w) ?_
  refine wpc_seq ?_
  refine wpc_region ?_
  refine wpl_q (q_pure rfl) rfl ?_
  refine wpl_nil ?_
  refine ex_then ?_
  refine wpc_seq ?_
  refine wpc_seq ?_
  refine wpc_region ?_
  refine wpl_q (q_pure rfl) rfl ?_
  refine wpl_q (q_pure rfl) rfl ?_
  refine wpl_nil ?_
  refine ex_then ?_
  refine wpc_cond rfl (fun hc4 => ?_) (fun hc4 => ?_)
  ·
   simp only [decide_eq_true_eq] at hc4
   refine wpc_seq ?_
   refine wpc_region ?_
   refine wpl_q (q_pure rfl) rfl ?_
   refine wpl_q (q8_conv Try.underlying3 Try.underlying5 rfl) rfl ?_
   refine wpl_tp (t_bsV (v8s [_]) Try.underlying22 Try.ti5 rfl rfl (by decide) (by decide) rfl (v8s_one _)) rfl (fun b7 p7 => ?_)
   refine wpl_q (q_pure rfl) rfl ?_
   refine wpl_nil ?_
   refine ex_then ?_
   refine wpc_ret ?_
   refine ex_then_ret ?_
   refine ret1 (.inl rfl) rfl rfl ?_
   exact fun w h => ⟨b7, by rw [lenB, if_pos (by omega)]; exact p7, rfl, h.below, by rw [lenB, if_pos (by omega)]; exact h.made SubC.h .nil⟩
  ·
   simp only [decide_eq_false_iff_not] at hc4
   refine wpc_skip ?_
   refine ex_then ?_
   refine wpc_seq ?_
   refine wpc_seq ?_
   refine wpc_region ?_
   refine wpl_q (q_pure rfl) rfl ?_
   refine wpl_q (q_pure rfl) rfl ?_
   refine wpl_nil ?_
   refine ex_then ?_
   refine wpc_cond rfl (fun hc9 => ?_) (fun hc9 => ?_)
   ·
    simp only [decide_eq_true_eq] at hc9
    refine wpc_seq ?_
    refine wpc_region ?_
    refine wpl_q (q_pure rfl) rfl ?_
    refine wpl_q (q8_conv Try.underlying3 Try.underlying5 rfl) rfl ?_
    refine wpl_tp (t_bsV (v8s [(129 : UInt8), _]) Try.underlying22 Try.ti5 rfl rfl (by decide) (by decide) rfl (v8s_one _)) rfl (fun b12 p12 => ?_)
    refine wpl_q (q_pure rfl) rfl ?_
    refine wpl_nil ?_
    refine ex_then ?_
    refine wpc_ret ?_
    refine ex_then_ret ?_
    refine ret1 (.inl rfl) rfl rfl ?_
    exact fun w h => ⟨b12, by rw [lenB, if_neg (by omega), if_pos (by omega)]; exact p12, rfl, h.below, by rw [lenB, if_neg (by omega), if_pos (by omega)]; exact h.made SubC.h .nil⟩
   ·
    simp only [decide_eq_false_iff_not] at hc9
    refine wpc_skip ?_
    refine ex_then ?_
    refine wpc_seq ?_
    refine wpc_seq ?_
    refine wpc_region ?_
    refine wpl_q (q_pure rfl) rfl ?_
    refine wpl_q (q_pure rfl) rfl ?_
    refine wpl_nil ?_
    refine ex_then ?_
    refine wpc_cond rfl (fun hc14 => ?_) (fun hc14 => ?_)
    ·
     simp only [decide_eq_true_eq] at hc14
     refine wpc_seq ?_
     refine wpc_region ?_
     refine wpl_q (q_pure rfl) rfl ?_
     refine wpl_q (q_quoN (b := 256) rfl rfl (by first | decide | omega) (by first | omega | (simp only [maxLen]; omega) | (simp only [List.length_append, List.length_cons, List.length_nil, List.length_take, maxLen]; omega) | (simp only [List.length_append, List.length_cons, List.length_nil, List.length_take]; omega))) rfl ?_
     refine wpl_q (q8_conv Try.underlying3 Try.underlying5 rfl) rfl ?_
     refine wpl_q (q_pure rfl) rfl ?_
     refine wpl_q (q_remN (b := 256) rfl rfl (by first | decide | omega)) rfl ?_
     refine wpl_q (q8_conv Try.underlying3 Try.underlying5 rfl) rfl ?_
     refine wpl_tp (t_bsV (v8s [(130 : UInt8), _, _]) Try.underlying22 Try.ti5 rfl rfl (by decide) (by decide) rfl (v8s_one _)) rfl (fun b21 p21 => ?_)
     refine wpl_q (q_pure rfl) rfl ?_
     refine wpl_nil ?_
     refine ex_then ?_
     refine wpc_ret ?_
     refine ex_then_ret ?_
     refine ret1 (.inl rfl) rfl rfl ?_
     exact fun w h => ⟨b21, by rw [lenB, if_neg (by omega), if_neg (by omega), if_pos (by omega)]; exact p21, rfl, h.below, by rw [lenB, if_neg (by omega), if_neg (by omega), if_pos (by omega)]; exact h.made SubC.h .nil⟩
    ·
     simp only [decide_eq_false_iff_not] at hc14
     refine wpc_skip ?_
     refine ex_then ?_
     refine wpc_seq ?_
     refine wpc_region ?_
     refine wpl_q (q_pure rfl) rfl ?_
     refine wpl_q (q_quoN (b := 65536) rfl rfl (by first | decide | omega) (by first | omega | (simp only [maxLen]; omega) | (simp only [List.length_append, List.length_cons, List.length_nil, List.length_take, maxLen]; omega) | (simp only [List.length_append, List.length_cons, List.length_nil, List.length_take]; omega))) rfl ?_
     refine wpl_q (q8_conv Try.underlying3 Try.underlying5 rfl) rfl ?_
     refine wpl_q (q_pure rfl) rfl ?_
     refine wpl_q (q_quoN (b := 256) rfl rfl (by first | decide | omega) (by first | omega | (simp only [maxLen]; omega) | (simp only [List.length_append, List.length_cons, List.length_nil, List.length_take, maxLen]; omega) | (simp only [List.length_append, List.length_cons, List.length_nil, List.length_take]; omega))) rfl ?_
     refine wpl_q (q_remN (b := 256) rfl rfl (by first | decide | omega)) rfl ?_
     refine wpl_q (q8_conv Try.underlying3 Try.underlying5 rfl) rfl ?_
     refine wpl_q (q_pure rfl) rfl ?_
     refine wpl_q (q_remN (b := 256) rfl rfl (by first | decide | omega)) rfl ?_
     refine wpl_q (q8_conv Try.underlying3 Try.underlying5 rfl) rfl ?_
     refine wpl_tp (t_bsV (v8s [(131 : UInt8), _, _, _]) Try.underlying22 Try.ti5 rfl rfl (by decide) (by decide) rfl (v8s_one _)) rfl (fun b32 p32 => ?_)
     refine wpl_q (q_pure rfl) rfl ?_
     refine wpl_nil ?_
     refine ex_then ?_
     refine wpc_ret ?_
     refine ret1 (.inl rfl) rfl rfl ?_
     exact fun w h => ⟨b32, by rw [lenB, if_neg (by omega), if_neg (by omega), if_neg (by omega)]; exact p32, rfl, h.below, by rw [lenB, if_neg (by omega), if_neg (by omega), if_neg (by omega)]; exact h.made SubC.h .nil⟩

end Go.Proofs.Ytommkigkkeailaa
