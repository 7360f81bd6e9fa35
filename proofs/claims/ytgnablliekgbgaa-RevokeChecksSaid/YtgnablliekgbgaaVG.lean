/- Searching a sorted list. -/
import Derived.Test.YtgnablliekgbgaaVE
namespace Go.Proofs.Ytgnablliekgbgaa
set_option linter.unusedSimpArgs false
set_option linter.unusedVariables false
open Go Go.PL Go.RowKit

theorem q_mid {P : Program} {n : Cx} {R : World → Prop} {L : Slots} {s t : TypeId} {x : Operand} {m : Nat} {ds : TypeDesc} (hs' : P.underlying s = some ds) (hu : P.underlying t = some (.int .i64)) (hx : ev L x = some (.int .u64 (sr64 (of64 ((m : Nat) : Int)) 1).toNat)) (h : m < 9223372036854775808) : QOp P n R L (.convert s t x) (.int .i64 ((m / 2 : Nat) : Int)) := by
  have e : (sr64 (of64 ((m : Nat) : Int)) 1).toNat = m / 2 := by
    unfold sr64
    rw [UInt64.toNat_ofNat', of64_nat m (by omega), show min 1 64 = 1 from rfl, Nat.pow_one]
    omega
  have q := q64_intN (P := P) (n := n) (R := R) hs' hu hx (by rw [e]; omega)
  rwa [e] at q
theorem getD64 {xs : List UInt64} {j : Nat} (hj : j < xs.length) : xs.getD j 0 = xs[j] := by rw [List.getD_eq_getElem?_getD, List.getElem?_eq_getElem hj]; rfl
theorem sr_mem {xs : List UInt64} {s : UInt64} {i : Nat} (hs : ∀ j, j < xs.length → ∀ k, k < j → xs.getD k 0 < xs.getD j 0) (h1 : ∀ k, k < i → k < xs.length → xs.getD k 0 < s) (h2 : ∀ k, i ≤ k → k < xs.length → ¬ xs.getD k 0 < s) : s ∈ xs ↔ i < xs.length ∧ xs.getD i 0 = s := by
  constructor
  · intro hm
    obtain ⟨k, hk, e⟩ := List.mem_iff_getElem.1 hm
    have ek := getD64 hk
    rw [e] at ek
    have hki : i ≤ k := by
      rcases Nat.lt_or_ge k i with h | h
      · have := h1 k h hk
        rw [ek] at this
        exact absurd this (UInt64.lt_irrefl _)
      · exact h
    rcases Nat.lt_or_ge i k with h | h
    · have h3 := hs k hk i h
      rw [ek] at h3
      exact absurd h3 (h2 i (Nat.le_refl _) (by omega))
    · obtain rfl : k = i := by omega
      exact ⟨hk, ek⟩
  · rintro ⟨h3, h4⟩
    rw [← h4, getD64 h3]
    exact List.getElem_mem h3

set_option maxRecDepth 100000 in
theorem isNaN1 (x : UInt64) (w : World)   :
    Calls Try.prog 93 [.int .u64 x.toNat].toArray w (Pur w (.bool false)) := by
  refine enter (m := 6) (R := Mem w [] [] []) Try.func93 rfl rfl (Nat.le_of_ble_eq_true rfl) (Mem.start w) ?_
  refine wpc_seq ?_
  refine wpc_region ?_
  refine wpl_q (q_pure rfl) rfl ?_
  refine wpl_nil ?_
  refine ex_then ?_
  refine wpc_seq ?_
  refine wpc_region ?_
  refine wpl_q (q_pure rfl) rfl ?_
  refine wpl_q (q_pure rfl) rfl ?_
  refine wpl_q (q64_neq rfl rfl) rfl ?_
  refine wpl_q (q_pure rfl) rfl ?_
  refine wpl_nil ?_
  refine ex_then ?_
  refine wpc_ret ?_
  refine ret1 (.inl rfl) rfl rfl ?_
  exact fun w h => ⟨by simp, h.below⟩

set_option maxRecDepth 100000 in
theorem isNaN2 (x : UInt64) (w : World)   :
    Calls Try.prog 62 [.int .u64 x.toNat].toArray w (Pur w (.bool false)) := by
  refine enter (m := 6) (R := Mem w [] [] []) Try.func62 rfl rfl (Nat.le_of_ble_eq_true rfl) (Mem.start w) ?_
  refine wpc_seq ?_
  refine wpc_region ?_
  refine wpl_q (q_pure rfl) rfl ?_
  refine wpl_nil ?_
  refine ex_then ?_
  refine wpc_seq ?_
  refine wpc_region ?_
  refine wpl_q (q_pure rfl) rfl ?_
  refine wpl_q (q_pure rfl) rfl ?_
  refine wpl_q (q64_neq rfl rfl) rfl ?_
  refine wpl_q (q_pure rfl) rfl ?_
  refine wpl_nil ?_
  refine ex_then ?_
  refine wpc_ret ?_
  refine ret1 (.inl rfl) rfl rfl ?_
  exact fun w h => ⟨by simp, h.below⟩

set_option maxRecDepth 100000 in
theorem less (x : UInt64) (y : UInt64) (w : World)   :
    Calls Try.prog 61 [.int .u64 x.toNat, .int .u64 y.toNat].toArray w (Pur w (.bool (decide (x < y)))) := by
  refine enter (m := 17) (R := Mem w [] [] []) Try.func61 rfl rfl (Nat.le_of_ble_eq_true rfl) (Mem.start w) ?_
  refine wpc_seq ?_
  refine wpc_region ?_
  refine wpl_q (q_pure rfl) rfl ?_
  refine wpl_nil ?_
  refine ex_then ?_
  refine wpc_seq ?_
  refine wpc_region ?_
  refine wpl_q (q_pure rfl) rfl ?_
  refine wpl_t (t_pur (v := .bool false) Try.hb93 rfl fun w h => isNaN1 x w) rfl (fun b6 => ?_)
  refine wpl_q (q_pure rfl) rfl ?_
  refine wpl_off rfl rfl rfl rfl ?_
  refine wpl_off rfl rfl rfl rfl ?_
  refine wpl_off rfl rfl rfl rfl ?_
  refine wpl_q (q_pure rfl) rfl ?_
  refine wpl_q (q_pure rfl) rfl ?_
  refine wpl_on rfl rfl ?_
  refine wpl_q (q_pure rfl) rfl ?_
  refine wpl_on rfl rfl ?_
  refine wpl_q (q_pure rfl) rfl ?_
  refine wpl_on rfl rfl ?_
  refine wpl_q (q_pure rfl) rfl ?_
  refine wpl_q (q_pure rfl) rfl ?_
  refine wpl_q (q_pure rfl) rfl ?_
  refine wpl_nil ?_
  refine ex_then ?_
  refine wpc_ret ?_
  refine ret1 (.inl rfl) rfl rfl ?_
  exact fun w h => ⟨by first | rfl | (congr 2; exact decide_eq_decide.2 (by rw [UInt64.lt_iff_toNat_lt]; omega)), h.below⟩

set_option maxRecDepth 100000 in
theorem binary (av : Value) (xs : List UInt64) (s : UInt64) (w : World) (hav : Seen w.cell? av xs.length 1 (v64s xs)) (hxl : xs.length ≤ 1000) (hsort : ∀ j, j < xs.length → ∀ k, k < j → xs.getD k 0 < xs.getD j 0) :
    Calls Try.prog 27 [av, .int .u64 s.toNat].toArray w (GivesP w (fun k : Nat => k ≤ xs.length) (fun k => .tuple #[.int .i64 ((k : Nat) : Int), .bool (decide (s ∈ xs))]) (fun _ => []) (fun _ => [])) := by
  have sav := hav.sv
  have lav := sav.le
  simp only [maxLen] at lav
  refine enter (m := 54) (R := Mem w [] [] []) Try.func27 rfl rfl (Nat.le_of_ble_eq_true rfl) (Mem.start w) ?_
  refine wpc_seq ?_
  refine wpc_region ?_
  refine wpl_q (q_pure rfl) rfl ?_
  refine wpl_q (q_pure rfl) rfl ?_
  refine wpl_nil ?_
  refine ex_then ?_
  refine wpc_seq ?_
  refine wpc_region ?_
  refine wpl_q (q_pure rfl) rfl ?_
  refine wpl_q (q_lenW Try.underlying25 rfl (by first | assumption | exact SV.nil | exact SV.slv (by assumption) (by omega) (by omega) | exact arv_sv (by first | decide | (simp only [maxLen]; omega)))) rfl ?_
  refine wpl_q (q_pure rfl) rfl ?_
  refine wpl_nil ?_
  refine ex_then ?_
  refine wpc_seq ?_
  refine wpc_region ?_
  refine wpl_q (q_pure rfl) rfl ?_
  refine wpl_q (q_pure rfl) rfl ?_
  refine wpl_q (q_pure rfl) rfl ?_
  refine wpl_nil ?_
  refine ex_then ?_
  refine wpc_seq ?_
  refine wpc_block ?_
  refine wpc_loopc (ι := { x : Nat × Nat // (x.1 ≤ x.2) ∧ (x.2 ≤ xs.length) ∧ (∀ k, k < x.1 → k < xs.length → xs.getD k 0 < s) ∧ (∀ k, x.2 ≤ k → k < xs.length → ¬ xs.getD k 0 < s) }) [(0, _), (1, _), (6, _)] (fun x Lc => (7, .int .i64 ((x.1.1 : Nat) : Int)) :: (8, .int .i64 ((x.1.2 : Nat) : Int)) :: Lc) (fun x => Mem w [] [] []) (fun x => x.1.2 - x.1.1) ⟨(0, xs.length), ⟨Nat.zero_le _, Nat.le_refl _, fun k hk => absurd hk (Nat.not_lt_zero _), fun k h1 h2 => absurd h2 (by omega)⟩⟩ (by repeat (first | exact trivial | refine ⟨rfl, ?_⟩)) ?_ ?_
  ·
   exact fun w h => h
  ·
   rintro ⟨⟨i, j⟩, ⟨hi0, hi1, hi2, hi3⟩⟩; try dsimp only
   have hi0 : i ≤ j := hi0; have hi1 : j ≤ xs.length := hi1; have hi2 : ∀ k, k < i → k < xs.length → xs.getD k 0 < s := hi2; have hi3 : ∀ k, j ≤ k → k < xs.length → ¬ xs.getD k 0 < s := hi3
   refine wpc_seq ?_
   refine wpc_seq ?_
   refine wpc_region ?_
   refine wpl_q (q_pure rfl) rfl ?_
   refine wpl_q (q_pure rfl) rfl ?_
   refine wpl_q (q_pure rfl) rfl ?_
   refine wpl_nil ?_
   refine ex_then ?_
   refine wpc_cond rfl (fun hc15 => ?_) (fun hc15 => ?_)
   ·
    simp only [decide_eq_true_eq] at hc15
    have hij : i < j := by omega
    have hmid : (i + j) / 2 < xs.length := by omega
    refine wpc_skip ?_
    refine ex_then ?_
    refine wpc_block ?_
    refine wpc_seq ?_
    refine wpc_region ?_
    refine wpl_q (q_pure rfl) rfl ?_
    refine wpl_q (q_pure rfl) rfl ?_
    refine wpl_q (q_addN rfl rfl (by first | omega | (simp only [maxLen]; omega) | (simp only [List.length_append, List.length_cons, List.length_nil, List.length_take, maxLen]; omega) | (simp only [List.length_append, List.length_cons, List.length_nil, List.length_take]; omega))) rfl ?_
    refine wpl_q (q64_conv Try.underlying3 Try.underlying96 rfl) rfl ?_
    refine wpl_q (q64_shr rfl rfl (by first | decide | omega) 1 rfl) rfl ?_
    refine wpl_q (q_mid Try.underlying96 Try.underlying3 rfl (by omega)) rfl ?_
    refine wpl_q (q_pure rfl) rfl ?_
    refine wpl_nil ?_
    refine ex_then ?_
    refine wpc_seq ?_
    refine wpc_region ?_
    refine wpl_q (q_pure rfl) rfl ?_
    refine wpl_q (q_pure rfl) rfl ?_
    refine wpl_q (q_idxW1 Try.underlying25 Try.ti22 rfl rfl (by first | assumption | exact SV.nil | exact SV.slv (by assumption) (by omega) (by omega) | exact arv_sv (by first | decide | (simp only [maxLen]; omega))) (by first | omega | (simp only [maxLen]; omega) | (simp only [List.length_append, List.length_cons, List.length_nil, List.length_take, maxLen]; omega) | (simp only [List.length_append, List.length_cons, List.length_nil, List.length_take]; omega))) rfl ?_
    refine wpl_q (q_ldW Try.underlying22 rfl rfl (fun w h => h.seen_old hav) (by first | exact v64s_get (by first | decide | omega | exact Nat.zero_lt_one | (simp; omega) | (simp; done) | (simp only [v8s_length, v32s_length, vis_length, vns_length, v64s_length]; omega)) | rfl)) rfl ?_
    refine wpl_q (q_pure rfl) rfl ?_
    refine wpl_t (t_pur Try.hb61 rfl fun w h => less (xs.getD ((i + j) / 2) 0) s w) rfl (fun b27 => ?_)
    refine wpl_nil ?_
    refine ex_then ?_
    refine wpc_cond rfl (fun hc27 => ?_) (fun hc27 => ?_)
    ·
     have hls : xs.getD ((i + j) / 2) 0 < s := of_decide_eq_true hc27
     have hlt : ∀ k, k ≤ (i + j) / 2 → k < xs.length → xs.getD k 0 < s := fun k h1 h2 => by
       rcases Nat.lt_or_ge k ((i + j) / 2) with h | h
       · exact UInt64.lt_trans (hsort _ hmid k h) hls
       · obtain rfl : k = (i + j) / 2 := by omega
         exact hls
     refine wpc_region ?_
     refine wpl_q (q_pure rfl) rfl ?_
     refine wpl_q (q_addN (b := 1) rfl rfl (by first | omega | (simp only [maxLen]; omega) | (simp only [List.length_append, List.length_cons, List.length_nil, List.length_take, maxLen]; omega) | (simp only [List.length_append, List.length_cons, List.length_nil, List.length_take]; omega))) rfl ?_
     refine wpl_q (q_pure rfl) rfl ?_
     refine wpl_nil ?_
     refine ex_block ?_
     refine ex_again ⟨((i + j) / 2 + 1, j), ⟨by omega, by omega, by first | exact hi2 | (intro k h1 h2; exact hlt k (by omega) h2), by first | exact hi3 | (intro k h1 h2; exact hge k (by omega) h2)⟩⟩ ?_ ?_ ?_
     ·
      exact (by repeat (first | exact trivial | refine ⟨rfl, ?_⟩))
     ·
      exact fun w h => by first | exact h | exact h.sub SubC.h SubC.h | exact h.sub (by repeat (first | exact Sub.nil | exact Sub.refl _ | with_reducible refine Sub.keep ?_ | refine Sub.drop ?_)) (by repeat (first | exact Sub.nil | exact Sub.refl _ | with_reducible refine Sub.keep ?_ | refine Sub.drop ?_))
     ·
      (show (j) - ((i + j) / 2 + 1) < j - i); omega
    ·
     have hls : ¬ xs.getD ((i + j) / 2) 0 < s := of_decide_eq_false hc27
     have hge : ∀ k, (i + j) / 2 ≤ k → k < xs.length → ¬ xs.getD k 0 < s := fun k h1 h2 h3 => by
       rcases Nat.lt_or_ge ((i + j) / 2) k with h | h
       · exact hls (UInt64.lt_trans (hsort k h2 _ h) h3)
       · obtain rfl : k = (i + j) / 2 := by omega
         exact hls h3
     refine wpc_region ?_
     refine wpl_q (q_pure rfl) rfl ?_
     refine wpl_q (q_pure rfl) rfl ?_
     refine wpl_nil ?_
     refine ex_block ?_
     refine ex_again ⟨(i, (i + j) / 2), ⟨by omega, by omega, by first | exact hi2 | (intro k h1 h2; exact hlt k (by omega) h2), by first | exact hi3 | (intro k h1 h2; exact hge k (by omega) h2)⟩⟩ ?_ ?_ ?_
     ·
      exact (by repeat (first | exact trivial | refine ⟨rfl, ?_⟩))
     ·
      exact fun w h => by first | exact h | exact h.sub SubC.h SubC.h | exact h.sub (by repeat (first | exact Sub.nil | exact Sub.refl _ | with_reducible refine Sub.keep ?_ | refine Sub.drop ?_)) (by repeat (first | exact Sub.nil | exact Sub.refl _ | with_reducible refine Sub.keep ?_ | refine Sub.drop ?_))
     ·
      (show ((i + j) / 2) - (i) < j - i); omega
   ·
    simp only [decide_eq_false_iff_not] at hc15
    obtain rfl : i = j := by omega
    have hsm := sr_mem hsort hi2 hi3
    refine wpc_exit ?_
    refine ex_then_exit ?_
    refine ex_then_exit ?_
    refine ex_block_hit ?_
    refine ex_then ?_
    refine wpc_seq ?_
    refine wpc_region ?_
    refine wpl_q (q_pure rfl) rfl ?_
    refine wpl_q (q_pure rfl) rfl ?_
    refine wpl_q (q_pure rfl) rfl ?_
    refine wpl_q (q_pure rfl) rfl ?_
    refine wpl_q (q_pure rfl) rfl ?_
    refine wpl_bool2 35 34 rfl rfl (fun hb35 => ?_) (fun hb35 => ?_)
    ·
     have hil : i < xs.length := by have := of_decide_eq_true hb35; omega
     refine wpl_on rfl rfl ?_
     refine wpl_q (q_pure rfl) rfl ?_
     refine wpl_on rfl rfl ?_
     refine wpl_q (q_pure rfl) rfl ?_
     refine wpl_on rfl rfl ?_
     refine wpl_q (q_idxW1 Try.underlying25 Try.ti22 rfl rfl (by first | assumption | exact SV.nil | exact SV.slv (by assumption) (by omega) (by omega) | exact arv_sv (by first | decide | (simp only [maxLen]; omega))) (by first | omega | (simp only [maxLen]; omega) | (simp only [List.length_append, List.length_cons, List.length_nil, List.length_take, maxLen]; omega) | (simp only [List.length_append, List.length_cons, List.length_nil, List.length_take]; omega))) rfl ?_
     refine wpl_on rfl rfl ?_
     refine wpl_q (q_ldW Try.underlying22 rfl rfl (fun w h => h.seen_old hav) (by first | exact v64s_get (by first | decide | omega | exact Nat.zero_lt_one | (simp; omega) | (simp; done) | (simp only [v8s_length, v32s_length, vis_length, vns_length, v64s_length]; omega)) | rfl)) rfl ?_
     refine wpl_on rfl rfl ?_
     refine wpl_q (q_pure rfl) rfl ?_
     refine wpl_on rfl rfl ?_
     refine wpl_q (q64_eql rfl rfl) rfl ?_
     refine wpl_on rfl rfl ?_
     refine wpl_q (q_pure rfl) rfl ?_
     refine wpl_bool2 42 41 rfl rfl (fun hb42 => ?_) (fun hb42 => ?_)
     ·
      have he : xs.getD i 0 = s := of_decide_eq_true hb42
      refine wpl_off rfl rfl rfl rfl ?_
      refine wpl_off rfl rfl rfl rfl ?_
      refine wpl_off rfl rfl rfl rfl ?_
      refine wpl_off rfl rfl rfl rfl ?_
      refine wpl_off rfl rfl rfl rfl ?_
      refine wpl_off rfl rfl rfl rfl ?_
      refine wpl_off rfl rfl rfl rfl ?_
      refine wpl_off rfl rfl rfl rfl ?_
      refine wpl_off rfl rfl rfl rfl ?_
      refine wpl_on rfl rfl ?_
      refine wpl_q (q_pure rfl) rfl ?_
      refine wpl_q (q_pure rfl) rfl ?_
      refine wpl_q (q_pure rfl) rfl ?_
      refine wpl_q (q_pure rfl) rfl ?_
      refine wpl_nil ?_
      refine ex_then ?_
      refine wpc_ret ?_
      refine ret2 (.inl rfl) rfl rfl rfl ?_
      exact fun w h => ⟨i, hi1, by dsimp only; rw [decide_eq_decide.2 hsm]; first | (rw [decide_eq_true (show i < xs.length ∧ xs.getD i 0 = s from ⟨hil, he⟩)]; done) | (rw [decide_eq_false (show ¬ (i < xs.length ∧ xs.getD i 0 = s) from fun q => hil q.1)]; done) | (rw [decide_eq_false (show ¬ (i < xs.length ∧ xs.getD i 0 = s) from fun q => he q.2)]; done), h.below, h.made .nil .nil⟩
     ·
      have he : ¬ xs.getD i 0 = s := of_decide_eq_false hb42
      refine wpl_on rfl rfl ?_
      refine wpl_q (q_pure rfl) rfl ?_
      refine wpl_on rfl rfl ?_
      refine wpl_q (q_pure rfl) rfl ?_
      refine wpl_on rfl rfl ?_
      refine wpl_q (q_idxW1 Try.underlying25 Try.ti22 rfl rfl (by first | assumption | exact SV.nil | exact SV.slv (by assumption) (by omega) (by omega) | exact arv_sv (by first | decide | (simp only [maxLen]; omega))) (by first | omega | (simp only [maxLen]; omega) | (simp only [List.length_append, List.length_cons, List.length_nil, List.length_take, maxLen]; omega) | (simp only [List.length_append, List.length_cons, List.length_nil, List.length_take]; omega))) rfl ?_
      refine wpl_on rfl rfl ?_
      refine wpl_q (q_ldW Try.underlying22 rfl rfl (fun w h => h.seen_old hav) (by first | exact v64s_get (by first | decide | omega | exact Nat.zero_lt_one | (simp; omega) | (simp; done) | (simp only [v8s_length, v32s_length, vis_length, vns_length, v64s_length]; omega)) | rfl)) rfl ?_
      refine wpl_on rfl rfl ?_
      refine wpl_t (t_pur (v := .bool false) Try.hb62 rfl fun w h => isNaN2 _ w) rfl (fun b47 => ?_)
      refine wpl_on rfl rfl ?_
      refine wpl_q (q_pure rfl) rfl ?_
      refine wpl_off rfl rfl rfl rfl ?_
      refine wpl_off rfl rfl rfl rfl ?_
      refine wpl_on rfl rfl ?_
      refine wpl_q (q_pure rfl) rfl ?_
      refine wpl_on rfl rfl ?_
      refine wpl_q (q_pure rfl) rfl ?_
      refine wpl_q (q_pure rfl) rfl ?_
      refine wpl_q (q_pure rfl) rfl ?_
      refine wpl_q (q_pure rfl) rfl ?_
      refine wpl_nil ?_
      refine ex_then ?_
      refine wpc_ret ?_
      refine ret2 (.inl rfl) rfl rfl rfl ?_
      exact fun w h => ⟨i, hi1, by dsimp only; rw [decide_eq_decide.2 hsm]; first | (rw [decide_eq_true (show i < xs.length ∧ xs.getD i 0 = s from ⟨hil, he⟩)]; done) | (rw [decide_eq_false (show ¬ (i < xs.length ∧ xs.getD i 0 = s) from fun q => hil q.1)]; done) | (rw [decide_eq_false (show ¬ (i < xs.length ∧ xs.getD i 0 = s) from fun q => he q.2)]; done), h.below, h.made .nil .nil⟩
    ·
     have hil : ¬ i < xs.length := by have := of_decide_eq_false hb35; omega
     refine wpl_off rfl rfl rfl rfl ?_
     refine wpl_off rfl rfl rfl rfl ?_
     refine wpl_off rfl rfl rfl rfl ?_
     refine wpl_off rfl rfl rfl rfl ?_
     refine wpl_off rfl rfl rfl rfl ?_
     refine wpl_off rfl rfl rfl rfl ?_
     refine wpl_off rfl rfl rfl rfl ?_
     refine wpl_off rfl rfl rfl rfl ?_
     refine wpl_off rfl rfl rfl rfl ?_
     refine wpl_off rfl rfl rfl rfl ?_
     refine wpl_off rfl rfl rfl rfl ?_
     refine wpl_off rfl rfl rfl rfl ?_
     refine wpl_off rfl rfl rfl rfl ?_
     refine wpl_off rfl rfl rfl rfl ?_
     refine wpl_off rfl rfl rfl rfl ?_
     refine wpl_off rfl rfl rfl rfl ?_
     refine wpl_off rfl rfl rfl rfl ?_
     refine wpl_q (q_pure rfl) rfl ?_
     refine wpl_q (q_pure rfl) rfl ?_
     refine wpl_q (q_pure rfl) rfl ?_
     refine wpl_nil ?_
     refine ex_then ?_
     refine wpc_ret ?_
     refine ret2 (.inl rfl) rfl rfl rfl ?_
     exact fun w h => ⟨i, hi1, by dsimp only; rw [decide_eq_decide.2 hsm]; first | (rw [decide_eq_true (show i < xs.length ∧ xs.getD i 0 = s from ⟨hil, he⟩)]; done) | (rw [decide_eq_false (show ¬ (i < xs.length ∧ xs.getD i 0 = s) from fun q => hil q.1)]; done) | (rw [decide_eq_false (show ¬ (i < xs.length ∧ xs.getD i 0 = s) from fun q => he q.2)]; done), h.below, h.made .nil .nil⟩

end Go.Proofs.Ytgnablliekgbgaa
