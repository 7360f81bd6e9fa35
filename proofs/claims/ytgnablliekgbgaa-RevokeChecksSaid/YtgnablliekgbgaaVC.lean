/- Names. -/
import Derived.Test.YtgnablliekgbgaaVB
namespace Go.Proofs.Ytgnablliekgbgaa
set_option linter.unusedSimpArgs false
set_option linter.unusedVariables false
open Go Go.PL Go.RowKit
set_option maxRecDepth 100000 in
theorem nameOk (xs : List UInt8) (w : World) (hxl : xs.length ≤ maxLen)  :
    Calls Try.prog 30 [str xs].toArray w (Pur w (.bool (nameF xs))) := by
  simp only [maxLen] at hxl
  refine enter (m := 25) (R := Mem w [] [] []) Try.func30 rfl rfl (Nat.le_of_ble_eq_true rfl) (Mem.start w) ?_
  refine wpc_seq ?_
  refine wpc_region ?_
  refine wpl_q (q_pure rfl) rfl ?_
  refine wpl_nil ?_
  refine ex_then ?_
  refine wpc_seq ?_
  refine wpc_region ?_
  refine wpl_q (q_pure rfl) rfl ?_
  refine wpl_nil ?_
  refine ex_then ?_
  refine wpc_seq ?_
  refine wpc_seq ?_
  refine wpc_region ?_
  refine wpl_q (q_pure rfl) rfl ?_
  refine wpl_q (q_lenS Try.underlying9 rfl) rfl ?_
  refine wpl_q (q_pure rfl) rfl ?_
  refine wpl_nil ?_
  refine ex_then ?_
  refine wpc_block ?_
  refine wpc_loopc (ι := { x : Nat // (x ≤ xs.length) ∧ (∀ j, j < x → goodB (xs.getD j 0) = true) }) [(0, _), (3, _), (6, _)] (fun x Lc => (7, .int .i64 ((x.1 : Nat) : Int)) :: Lc) (fun x => Mem w [] [] []) (fun x => xs.length - x.1) ⟨0, ⟨Nat.zero_le _, fun j hj => by omega⟩⟩ (by repeat (first | exact trivial | refine ⟨rfl, ?_⟩)) ?_ ?_
  ·
   exact fun w h => h
  ·
   rintro ⟨i, ⟨hi0, hi1⟩⟩; try dsimp only
   have hi0 : i ≤ xs.length := hi0; have hi1 : ∀ j, j < i → goodB (xs.getD j 0) = true := hi1
   refine wpc_seq ?_
   refine wpc_region ?_
   refine wpl_q (q_pure rfl) rfl ?_
   refine wpl_nil ?_
   refine ex_then ?_
   refine wpc_seq ?_
   refine wpc_cond rfl (fun hc8 => ?_) (fun hc8 => ?_)
   ·
    simp only [decide_eq_true_eq] at hc8
    have hil : i < xs.length := by omega
    refine wpc_skip ?_
    refine ex_then ?_
    refine wpc_seq ?_
    refine wpc_block ?_
    refine wpc_seq ?_
    refine wpc_region ?_
    refine wpl_q (q_pure rfl) rfl ?_
    refine wpl_q (q_pure rfl) rfl ?_
    refine wpl_nil ?_
    refine ex_then ?_
    refine wpc_seq ?_
    refine wpc_region ?_
    refine wpl_q (q_pure rfl) rfl ?_
    refine wpl_q (q_pure rfl) rfl ?_
    refine wpl_q (q_pure rfl) rfl ?_
    refine wpl_q (q_strIdx Try.underlying9 rfl rfl (by first | omega | (simp only [maxLen]; omega) | (simp only [List.length_append, List.length_cons, List.length_nil, List.length_take, maxLen]; omega) | (simp only [List.length_append, List.length_cons, List.length_nil, List.length_take]; omega))) rfl ?_
    refine wpl_t (t_purV rfl Try.hb63 rfl fun w h => good1 (xs.getD i 0) w) rfl (fun b14 => ?_)
    refine wpl_q (q_pure rfl) rfl ?_
    refine wpl_nil ?_
    refine ex_then ?_
    refine wpc_cond rfl (fun hc15 => ?_) (fun hc15 => ?_)
    ·
     have hg : goodB (xs.getD i 0) = false := by simpa using hc15
     refine wpc_seq ?_
     refine wpc_region ?_
     refine wpl_q (q_pure rfl) rfl ?_
     refine wpl_nil ?_
     refine ex_then ?_
     refine wpc_ret ?_
     refine ex_block_ret ?_
     refine ex_then_ret ?_
     refine ex_then_ret ?_
     refine ex_block_ret ?_
     refine ex_then_ret ?_
     refine ret1 (.inl rfl) rfl rfl ?_
     exact fun w h => ⟨by rw [show nameF xs = false by exact name_bad hil hg], h.below⟩
    ·
     have hg : goodB (xs.getD i 0) = true := by simpa using hc15
     refine wpc_skip ?_
     refine ex_block ?_
     refine ex_then ?_
     refine wpc_region ?_
     refine wpl_q (q_addN (b := 1) rfl rfl (by first | omega | (simp only [maxLen]; omega) | (simp only [List.length_append, List.length_cons, List.length_nil, List.length_take, maxLen]; omega) | (simp only [List.length_append, List.length_cons, List.length_nil, List.length_take]; omega))) rfl ?_
     refine wpl_q (q_pure rfl) rfl ?_
     refine wpl_nil ?_
     refine ex_again ⟨i + 1, ⟨by show i + 1 ≤ xs.length; omega, fun j hj => by rcases Nat.lt_or_ge j i with h | h; exact hi1 j h; obtain rfl : j = i := (by have hj : j < i + 1 := hj; omega); exact hg⟩⟩ ?_ ?_ ?_
     ·
      exact (by repeat (first | exact trivial | refine ⟨rfl, ?_⟩))
     ·
      exact fun w h => by first | exact h | exact h.sub SubC.h SubC.h | exact h.sub (by repeat (first | exact Sub.nil | exact Sub.refl _ | with_reducible refine Sub.keep ?_ | refine Sub.drop ?_)) (by repeat (first | exact Sub.nil | exact Sub.refl _ | with_reducible refine Sub.keep ?_ | refine Sub.drop ?_))
     ·
      (show xs.length - (i + 1) < xs.length - i); omega
   ·
    simp only [decide_eq_false_iff_not] at hc8
    obtain rfl : i = xs.length := by omega
    refine wpc_exit ?_
    refine ex_then_exit ?_
    refine ex_then_exit ?_
    refine ex_block_hit ?_
    refine ex_then ?_
    refine wpc_seq ?_
    refine wpc_region ?_
    refine wpl_q (q_pure rfl) rfl ?_
    refine wpl_q (q_lenS Try.underlying9 rfl) rfl ?_
    refine wpl_q (q_pure rfl) rfl ?_
    refine wpl_q (q_pure rfl) rfl ?_
    refine wpl_bool2 20 19 rfl rfl (fun hb20 => ?_) (fun hb20 => ?_)
    ·
     have hl1 : 1 ≤ xs.length := by have := of_decide_eq_true hb20; omega
     refine wpl_on rfl rfl ?_
     refine wpl_q (q_pure rfl) rfl ?_
     refine wpl_on rfl rfl ?_
     refine wpl_q (q_lenS Try.underlying9 rfl) rfl ?_
     refine wpl_on rfl rfl ?_
     refine wpl_q (q_pure rfl) rfl ?_
     refine wpl_q (q_pure rfl) rfl ?_
     refine wpl_q (q_pure rfl) rfl ?_
     refine wpl_nil ?_
     refine ex_then ?_
     refine wpc_ret ?_
     refine ret1 (.inl rfl) rfl rfl ?_
     exact fun w h => ⟨by rw [name_all hi1]; first | (rw [decide_eq_true hl1, Bool.true_and]; exact congrArg (fun b => Ending.returned (Value.bool b)) (decide_eq_decide.2 (by omega))) | (rw [decide_eq_false hl0]; rfl), h.below⟩
    ·
     have hl0 : ¬ 1 ≤ xs.length := by have := of_decide_eq_false hb20; omega
     refine wpl_off rfl rfl rfl rfl ?_
     refine wpl_off rfl rfl rfl rfl ?_
     refine wpl_off rfl rfl rfl rfl ?_
     refine wpl_q (q_pure rfl) rfl ?_
     refine wpl_q (q_pure rfl) rfl ?_
     refine wpl_nil ?_
     refine ex_then ?_
     refine wpc_ret ?_
     refine ret1 (.inl rfl) rfl rfl ?_
     exact fun w h => ⟨by rw [name_all hi1]; first | (rw [decide_eq_true hl1, Bool.true_and]; exact congrArg (fun b => Ending.returned (Value.bool b)) (decide_eq_decide.2 (by omega))) | (rw [decide_eq_false hl0]; rfl), h.below⟩

set_option maxRecDepth 100000 in
theorem refName (xs : List UInt8) (w : World) (hxl : xs.length ≤ maxLen)  :
    Calls Try.prog 33 [str xs].toArray w (Pur w (.bool (nameF xs))) := by
  simp only [maxLen] at hxl
  refine enter (m := 53) (R := Mem w [] [] []) Try.func33 rfl rfl (Nat.le_of_ble_eq_true rfl) (Mem.start w) ?_
  refine wpc_seq ?_
  refine wpc_region ?_
  refine wpl_q (q_pure rfl) rfl ?_
  refine wpl_nil ?_
  refine ex_then ?_
  refine wpc_seq ?_
  refine wpc_seq ?_
  refine wpc_region ?_
  refine wpl_q (q_pure rfl) rfl ?_
  refine wpl_q (q_lenS Try.underlying9 rfl) rfl ?_
  refine wpl_q (q_pure rfl) rfl ?_
  refine wpl_q (q_pure rfl) rfl ?_
  refine wpl_bool2 8 7 rfl rfl (fun hb8 => ?_) (fun hb8 => ?_)
  ·
   have hlen : xs.length = 0 ∨ 40 < xs.length := .inl (by have h := hb8; rw [beq_iff_eq] at h; omega)
   refine wpl_off rfl rfl rfl rfl ?_
   refine wpl_off rfl rfl rfl rfl ?_
   refine wpl_off rfl rfl rfl rfl ?_
   refine wpl_q (q_pure rfl) rfl ?_
   refine wpl_nil ?_
   refine ex_then ?_
   refine wpc_cond_t rfl ?_
   refine wpc_seq ?_
   refine wpc_region ?_
   refine wpl_q (q_pure rfl) rfl ?_
   refine wpl_nil ?_
   refine ex_then ?_
   refine wpc_ret ?_
   refine ex_then_ret ?_
   refine ret1 (.inl rfl) rfl rfl ?_
   exact fun w h => ⟨by rw [show nameF xs = false by exact name_len hlen], h.below⟩
  ·
   have hne : ¬ xs.length = 0 := by have h := hb8; rw [beq_eq_false_iff_ne] at h; omega
   refine wpl_on rfl rfl ?_
   refine wpl_q (q_pure rfl) rfl ?_
   refine wpl_on rfl rfl ?_
   refine wpl_q (q_lenS Try.underlying9 rfl) rfl ?_
   refine wpl_on rfl rfl ?_
   refine wpl_q (q_pure rfl) rfl ?_
   refine wpl_q (q_pure rfl) rfl ?_
   refine wpl_nil ?_
   refine ex_then ?_
   refine wpc_cond rfl (fun hc12 => ?_) (fun hc12 => ?_)
   ·
    have hlen : xs.length = 0 ∨ 40 < xs.length := .inr (by have := of_decide_eq_true hc12; omega)
    refine wpc_seq ?_
    refine wpc_region ?_
    refine wpl_q (q_pure rfl) rfl ?_
    refine wpl_nil ?_
    refine ex_then ?_
    refine wpc_ret ?_
    refine ex_then_ret ?_
    refine ret1 (.inl rfl) rfl rfl ?_
    exact fun w h => ⟨by rw [show nameF xs = false by exact name_len hlen], h.below⟩
   ·
    have hlen : 1 ≤ xs.length ∧ xs.length ≤ 40 := by have := of_decide_eq_false hc12; omega
    refine wpc_skip ?_
    refine ex_then ?_
    refine wpc_seq ?_
    refine wpc_seq ?_
    refine wpc_region ?_
    refine wpl_q (q_pure rfl) rfl ?_
    refine wpl_nil ?_
    refine ex_then ?_
    refine wpc_block ?_
    refine wpc_loopc (ι := { x : Nat // (x ≤ xs.length) ∧ (∀ j, j < x → goodB (xs.getD j 0) = true) }) [(0, _)] (fun x Lc => (3, .int .i64 ((x.1 : Nat) : Int)) :: Lc) (fun x => Mem w [] [] []) (fun x => xs.length - x.1) ⟨0, ⟨Nat.zero_le _, fun j hj => by omega⟩⟩ (by repeat (first | exact trivial | refine ⟨rfl, ?_⟩)) ?_ ?_
    ·
     exact fun w h => h
    ·
     rintro ⟨i, ⟨hi0, hi1⟩⟩; try dsimp only
     have hi0 : i ≤ xs.length := hi0; have hi1 : ∀ j, j < i → goodB (xs.getD j 0) = true := hi1
     refine wpc_seq ?_
     refine wpc_seq ?_
     refine wpc_region ?_
     refine wpl_q (q_pure rfl) rfl ?_
     refine wpl_q (q_pure rfl) rfl ?_
     refine wpl_q (q_lenS Try.underlying9 rfl) rfl ?_
     refine wpl_q (q_pure rfl) rfl ?_
     refine wpl_nil ?_
     refine ex_then ?_
     refine wpc_cond rfl (fun hc16 => ?_) (fun hc16 => ?_)
     ·
      simp only [decide_eq_true_eq] at hc16
      have hil : i < xs.length := by omega
      refine wpc_skip ?_
      refine ex_then ?_
      refine wpc_seq ?_
      refine wpc_block ?_
      refine wpc_seq ?_
      refine wpc_region ?_
      refine wpl_q (q_pure rfl) rfl ?_
      refine wpl_q (q_pure rfl) rfl ?_
      refine wpl_q (q_strIdx Try.underlying9 rfl rfl (by first | omega | (simp only [maxLen]; omega) | (simp only [List.length_append, List.length_cons, List.length_nil, List.length_take, maxLen]; omega) | (simp only [List.length_append, List.length_cons, List.length_nil, List.length_take]; omega))) rfl ?_
      refine wpl_q (q_pure rfl) rfl ?_
      refine wpl_nil ?_
      refine ex_then ?_
      refine wpc_cutc ({ x : Unit // True }) [(0, str xs), (3, .int .i64 ((i : Nat) : Int))] (fun x Lc => (52, .bool (!goodB (xs.getD i 0))) :: Lc) (fun x => Mem w [] [] []) ?_ ?_
      ·
       refine wpc_region ?_
       refine wpl_q (q_pure rfl) rfl ?_
       refine wpl_q (q_pure rfl) rfl ?_
       refine wpl_q (q_pure rfl) rfl ?_
       refine wpl_bool2 24 23 rfl rfl (fun hb24 => ?_) (fun hb24 => ?_)
       ·
        try simp only [decide_eq_true_eq, decide_eq_false_iff_not, Bool.and_eq_true, Bool.or_eq_true, beq_iff_eq, bne_iff_ne, ne_eq, Bool.not_eq_true', Bool.not_eq_false', Decidable.not_not] at hb24
        refine wpl_on rfl rfl ?_
        refine wpl_q (q_pure rfl) rfl ?_
        refine wpl_on rfl rfl ?_
        refine wpl_q (q_pure rfl) rfl ?_
        refine wpl_q (q_pure rfl) rfl ?_
        refine wpl_q (q_pure rfl) rfl ?_
        refine wpl_bool2 28 26 rfl rfl (fun hb28 => ?_) (fun hb28 => ?_)
        ·
         try simp only [decide_eq_true_eq, decide_eq_false_iff_not, Bool.and_eq_true, Bool.or_eq_true, beq_iff_eq, bne_iff_ne, ne_eq, Bool.not_eq_true', Bool.not_eq_false', Decidable.not_not] at hb28
         refine wpl_off rfl rfl rfl rfl ?_
         refine wpl_off rfl rfl rfl rfl ?_
         refine wpl_off rfl rfl rfl rfl ?_
         refine wpl_off rfl rfl rfl rfl ?_
         refine wpl_off rfl rfl rfl rfl ?_
         refine wpl_off rfl rfl rfl rfl ?_
         refine wpl_q (q_pure rfl) rfl ?_
         refine wpl_q (q_pure rfl) rfl ?_
         refine wpl_off rfl rfl rfl rfl ?_
         refine wpl_off rfl rfl rfl rfl ?_
         refine wpl_off rfl rfl rfl rfl ?_
         refine wpl_off rfl rfl rfl rfl ?_
         refine wpl_off rfl rfl rfl rfl ?_
         refine wpl_off rfl rfl rfl rfl ?_
         refine wpl_q (q_pure rfl) rfl ?_
         refine wpl_q (q_pure rfl) rfl ?_
         refine wpl_off rfl rfl rfl rfl ?_
         refine wpl_off rfl rfl rfl rfl ?_
         refine wpl_q (q_pure rfl) rfl ?_
         refine wpl_q (q_pure rfl) rfl ?_
         refine wpl_off rfl rfl rfl rfl ?_
         refine wpl_off rfl rfl rfl rfl ?_
         refine wpl_q (q_pure rfl) rfl ?_
         refine wpl_q (q_pure rfl) rfl ?_
         refine wpl_re 52 rfl (congrArg Value.bool (show _ = !goodB (xs.getD i 0) by
           (try simp only [e45, e95] at *)
           first
           | (rw [show goodB (xs.getD i 0) = true from (goodB_iff _).2 (by omega)]; done)
           | (rw [show goodB (xs.getD i 0) = true from (goodB_iff _).2 (by omega)]; rfl)
           | (rw [show goodB (xs.getD i 0) = decide ((xs.getD i 0).toNat = 95) from by rw [Bool.eq_iff_iff, goodB_iff, decide_eq_true_eq]; omega]))) ?_
         refine wpl_nil ?_
         refine ex_mid ⟨(), trivial⟩ ?_ ?_
         ·
          exact (by repeat (first | exact trivial | refine ⟨rfl, ?_⟩))
         ·
          exact fun w h => by first | exact h | exact h.sub SubC.h SubC.h | exact h.sub (by repeat (first | exact Sub.nil | exact Sub.refl _ | with_reducible refine Sub.keep ?_ | refine Sub.drop ?_)) (by repeat (first | exact Sub.nil | exact Sub.refl _ | with_reducible refine Sub.keep ?_ | refine Sub.drop ?_))
        ·
         try simp only [decide_eq_true_eq, decide_eq_false_iff_not, Bool.and_eq_true, Bool.or_eq_true, beq_iff_eq, bne_iff_ne, ne_eq, Bool.not_eq_true', Bool.not_eq_false', Decidable.not_not] at hb28
         refine wpl_on rfl rfl ?_
         refine wpl_q (q_pure rfl) rfl ?_
         refine wpl_on rfl rfl ?_
         refine wpl_q (q_pure rfl) rfl ?_
         refine wpl_on rfl rfl ?_
         refine wpl_q (q_pure rfl) rfl ?_
         refine wpl_bool2 31 30 rfl rfl (fun hb31 => ?_) (fun hb31 => ?_)
         ·
          try simp only [decide_eq_true_eq, decide_eq_false_iff_not, Bool.and_eq_true, Bool.or_eq_true, beq_iff_eq, bne_iff_ne, ne_eq, Bool.not_eq_true', Bool.not_eq_false', Decidable.not_not] at hb31
          refine wpl_on rfl rfl ?_
          refine wpl_q (q_pure rfl) rfl ?_
          refine wpl_on rfl rfl ?_
          refine wpl_q (q_pure rfl) rfl ?_
          refine wpl_on rfl rfl ?_
          refine wpl_q (q_pure rfl) rfl ?_
          refine wpl_q (q_pure rfl) rfl ?_
          refine wpl_q (q_pure rfl) rfl ?_
          refine wpl_bool2 36 33 rfl rfl (fun hb36 => ?_) (fun hb36 => ?_)
          ·
           try simp only [decide_eq_true_eq, decide_eq_false_iff_not, Bool.and_eq_true, Bool.or_eq_true, beq_iff_eq, bne_iff_ne, ne_eq, Bool.not_eq_true', Bool.not_eq_false', Decidable.not_not] at hb36
           refine wpl_off rfl rfl rfl rfl ?_
           refine wpl_off rfl rfl rfl rfl ?_
           refine wpl_off rfl rfl rfl rfl ?_
           refine wpl_off rfl rfl rfl rfl ?_
           refine wpl_off rfl rfl rfl rfl ?_
           refine wpl_off rfl rfl rfl rfl ?_
           refine wpl_q (q_pure rfl) rfl ?_
           refine wpl_q (q_pure rfl) rfl ?_
           refine wpl_off rfl rfl rfl rfl ?_
           refine wpl_off rfl rfl rfl rfl ?_
           refine wpl_q (q_pure rfl) rfl ?_
           refine wpl_q (q_pure rfl) rfl ?_
           refine wpl_off rfl rfl rfl rfl ?_
           refine wpl_off rfl rfl rfl rfl ?_
           refine wpl_q (q_pure rfl) rfl ?_
           refine wpl_q (q_pure rfl) rfl ?_
           refine wpl_re 52 rfl (congrArg Value.bool (show _ = !goodB (xs.getD i 0) by
             (try simp only [e45, e95] at *)
             first
             | (rw [show goodB (xs.getD i 0) = true from (goodB_iff _).2 (by omega)]; done)
             | (rw [show goodB (xs.getD i 0) = true from (goodB_iff _).2 (by omega)]; rfl)
             | (rw [show goodB (xs.getD i 0) = decide ((xs.getD i 0).toNat = 95) from by rw [Bool.eq_iff_iff, goodB_iff, decide_eq_true_eq]; omega]))) ?_
           refine wpl_nil ?_
           refine ex_mid ⟨(), trivial⟩ ?_ ?_
           ·
            exact (by repeat (first | exact trivial | refine ⟨rfl, ?_⟩))
           ·
            exact fun w h => by first | exact h | exact h.sub SubC.h SubC.h | exact h.sub (by repeat (first | exact Sub.nil | exact Sub.refl _ | with_reducible refine Sub.keep ?_ | refine Sub.drop ?_)) (by repeat (first | exact Sub.nil | exact Sub.refl _ | with_reducible refine Sub.keep ?_ | refine Sub.drop ?_))
          ·
           try simp only [decide_eq_true_eq, decide_eq_false_iff_not, Bool.and_eq_true, Bool.or_eq_true, beq_iff_eq, bne_iff_ne, ne_eq, Bool.not_eq_true', Bool.not_eq_false', Decidable.not_not] at hb36
           refine wpl_on rfl rfl ?_
           refine wpl_q (q_pure rfl) rfl ?_
           refine wpl_on rfl rfl ?_
           refine wpl_q (q_pure rfl) rfl ?_
           refine wpl_on rfl rfl ?_
           refine wpl_q (q_pure rfl) rfl ?_
           refine wpl_bool2 39 38 rfl rfl (fun hb39 => ?_) (fun hb39 => ?_)
           ·
            try simp only [decide_eq_true_eq, decide_eq_false_iff_not, Bool.and_eq_true, Bool.or_eq_true, beq_iff_eq, bne_iff_ne, ne_eq, Bool.not_eq_true', Bool.not_eq_false', Decidable.not_not] at hb39
            refine wpl_on rfl rfl ?_
            refine wpl_q (q_pure rfl) rfl ?_
            refine wpl_on rfl rfl ?_
            refine wpl_q (q_pure rfl) rfl ?_
            refine wpl_on rfl rfl ?_
            refine wpl_q (q_pure rfl) rfl ?_
            refine wpl_q (q_pure rfl) rfl ?_
            refine wpl_q (q_pure rfl) rfl ?_
            refine wpl_bool2 44 41 rfl rfl (fun hb44 => ?_) (fun hb44 => ?_)
            ·
             try simp only [decide_eq_true_eq, decide_eq_false_iff_not, Bool.and_eq_true, Bool.or_eq_true, beq_iff_eq, bne_iff_ne, ne_eq, Bool.not_eq_true', Bool.not_eq_false', Decidable.not_not] at hb44
             refine wpl_off rfl rfl rfl rfl ?_
             refine wpl_off rfl rfl rfl rfl ?_
             refine wpl_q (q_pure rfl) rfl ?_
             refine wpl_q (q_pure rfl) rfl ?_
             refine wpl_off rfl rfl rfl rfl ?_
             refine wpl_off rfl rfl rfl rfl ?_
             refine wpl_q (q_pure rfl) rfl ?_
             refine wpl_q (q_pure rfl) rfl ?_
             refine wpl_re 52 rfl (congrArg Value.bool (show _ = !goodB (xs.getD i 0) by
               (try simp only [e45, e95] at *)
               first
               | (rw [show goodB (xs.getD i 0) = true from (goodB_iff _).2 (by omega)]; done)
               | (rw [show goodB (xs.getD i 0) = true from (goodB_iff _).2 (by omega)]; rfl)
               | (rw [show goodB (xs.getD i 0) = decide ((xs.getD i 0).toNat = 95) from by rw [Bool.eq_iff_iff, goodB_iff, decide_eq_true_eq]; omega]))) ?_
             refine wpl_nil ?_
             refine ex_mid ⟨(), trivial⟩ ?_ ?_
             ·
              exact (by repeat (first | exact trivial | refine ⟨rfl, ?_⟩))
             ·
              exact fun w h => by first | exact h | exact h.sub SubC.h SubC.h | exact h.sub (by repeat (first | exact Sub.nil | exact Sub.refl _ | with_reducible refine Sub.keep ?_ | refine Sub.drop ?_)) (by repeat (first | exact Sub.nil | exact Sub.refl _ | with_reducible refine Sub.keep ?_ | refine Sub.drop ?_))
            ·
             try simp only [decide_eq_true_eq, decide_eq_false_iff_not, Bool.and_eq_true, Bool.or_eq_true, beq_iff_eq, bne_iff_ne, ne_eq, Bool.not_eq_true', Bool.not_eq_false', Decidable.not_not] at hb44
             refine wpl_on rfl rfl ?_
             refine wpl_q (q_pure rfl) rfl ?_
             refine wpl_on rfl rfl ?_
             refine wpl_q (q8_eql (b := (45 : UInt8)) rfl rfl) rfl ?_
             refine wpl_q (q_pure rfl) rfl ?_
             refine wpl_q (q_pure rfl) rfl ?_
             refine wpl_bool2 48 46 rfl rfl (fun hb48 => ?_) (fun hb48 => ?_)
             ·
              try simp only [decide_eq_true_eq, decide_eq_false_iff_not, Bool.and_eq_true, Bool.or_eq_true, beq_iff_eq, bne_iff_ne, ne_eq, Bool.not_eq_true', Bool.not_eq_false', Decidable.not_not] at hb48
              refine wpl_off rfl rfl rfl rfl ?_
              refine wpl_off rfl rfl rfl rfl ?_
              refine wpl_q (q_pure rfl) rfl ?_
              refine wpl_q (q_pure rfl) rfl ?_
              refine wpl_re 52 rfl (congrArg Value.bool (show _ = !goodB (xs.getD i 0) by
                (try simp only [e45, e95] at *)
                first
                | (rw [show goodB (xs.getD i 0) = true from (goodB_iff _).2 (by omega)]; done)
                | (rw [show goodB (xs.getD i 0) = true from (goodB_iff _).2 (by omega)]; rfl)
                | (rw [show goodB (xs.getD i 0) = decide ((xs.getD i 0).toNat = 95) from by rw [Bool.eq_iff_iff, goodB_iff, decide_eq_true_eq]; omega]))) ?_
              refine wpl_nil ?_
              refine ex_mid ⟨(), trivial⟩ ?_ ?_
              ·
               exact (by repeat (first | exact trivial | refine ⟨rfl, ?_⟩))
              ·
               exact fun w h => by first | exact h | exact h.sub SubC.h SubC.h | exact h.sub (by repeat (first | exact Sub.nil | exact Sub.refl _ | with_reducible refine Sub.keep ?_ | refine Sub.drop ?_)) (by repeat (first | exact Sub.nil | exact Sub.refl _ | with_reducible refine Sub.keep ?_ | refine Sub.drop ?_))
             ·
              try simp only [decide_eq_true_eq, decide_eq_false_iff_not, Bool.and_eq_true, Bool.or_eq_true, beq_iff_eq, bne_iff_ne, ne_eq, Bool.not_eq_true', Bool.not_eq_false', Decidable.not_not] at hb48
              refine wpl_on rfl rfl ?_
              refine wpl_q (q_pure rfl) rfl ?_
              refine wpl_on rfl rfl ?_
              refine wpl_q (q8_eql (b := (95 : UInt8)) rfl rfl) rfl ?_
              refine wpl_q (q_pure rfl) rfl ?_
              refine wpl_q (q_pure rfl) rfl ?_
              refine wpl_re 52 rfl (congrArg Value.bool (show _ = !goodB (xs.getD i 0) by
                (try simp only [e45, e95] at *)
                first
                | (rw [show goodB (xs.getD i 0) = true from (goodB_iff _).2 (by omega)]; done)
                | (rw [show goodB (xs.getD i 0) = true from (goodB_iff _).2 (by omega)]; rfl)
                | (rw [show goodB (xs.getD i 0) = decide ((xs.getD i 0).toNat = 95) from by rw [Bool.eq_iff_iff, goodB_iff, decide_eq_true_eq]; omega]))) ?_
              refine wpl_nil ?_
              refine ex_mid ⟨(), trivial⟩ ?_ ?_
              ·
               exact (by repeat (first | exact trivial | refine ⟨rfl, ?_⟩))
              ·
               exact fun w h => by first | exact h | exact h.sub SubC.h SubC.h | exact h.sub (by repeat (first | exact Sub.nil | exact Sub.refl _ | with_reducible refine Sub.keep ?_ | refine Sub.drop ?_)) (by repeat (first | exact Sub.nil | exact Sub.refl _ | with_reducible refine Sub.keep ?_ | refine Sub.drop ?_))
           ·
            try simp only [decide_eq_true_eq, decide_eq_false_iff_not, Bool.and_eq_true, Bool.or_eq_true, beq_iff_eq, bne_iff_ne, ne_eq, Bool.not_eq_true', Bool.not_eq_false', Decidable.not_not] at hb39
            refine wpl_off rfl rfl rfl rfl ?_
            refine wpl_off rfl rfl rfl rfl ?_
            refine wpl_on rfl rfl ?_
            refine wpl_q (q_pure rfl) rfl ?_
            refine wpl_q (q_pure rfl) rfl ?_
            refine wpl_q (q_pure rfl) rfl ?_
            refine wpl_on rfl rfl ?_
            refine wpl_q (q_pure rfl) rfl ?_
            refine wpl_on rfl rfl ?_
            refine wpl_q (q8_eql (b := (45 : UInt8)) rfl rfl) rfl ?_
            refine wpl_q (q_pure rfl) rfl ?_
            refine wpl_q (q_pure rfl) rfl ?_
            refine wpl_bool2 48 46 rfl rfl (fun hb48 => ?_) (fun hb48 => ?_)
            ·
             try simp only [decide_eq_true_eq, decide_eq_false_iff_not, Bool.and_eq_true, Bool.or_eq_true, beq_iff_eq, bne_iff_ne, ne_eq, Bool.not_eq_true', Bool.not_eq_false', Decidable.not_not] at hb48
             refine wpl_off rfl rfl rfl rfl ?_
             refine wpl_off rfl rfl rfl rfl ?_
             refine wpl_q (q_pure rfl) rfl ?_
             refine wpl_q (q_pure rfl) rfl ?_
             refine wpl_re 52 rfl (congrArg Value.bool (show _ = !goodB (xs.getD i 0) by
               (try simp only [e45, e95] at *)
               first
               | (rw [show goodB (xs.getD i 0) = true from (goodB_iff _).2 (by omega)]; done)
               | (rw [show goodB (xs.getD i 0) = true from (goodB_iff _).2 (by omega)]; rfl)
               | (rw [show goodB (xs.getD i 0) = decide ((xs.getD i 0).toNat = 95) from by rw [Bool.eq_iff_iff, goodB_iff, decide_eq_true_eq]; omega]))) ?_
             refine wpl_nil ?_
             refine ex_mid ⟨(), trivial⟩ ?_ ?_
             ·
              exact (by repeat (first | exact trivial | refine ⟨rfl, ?_⟩))
             ·
              exact fun w h => by first | exact h | exact h.sub SubC.h SubC.h | exact h.sub (by repeat (first | exact Sub.nil | exact Sub.refl _ | with_reducible refine Sub.keep ?_ | refine Sub.drop ?_)) (by repeat (first | exact Sub.nil | exact Sub.refl _ | with_reducible refine Sub.keep ?_ | refine Sub.drop ?_))
            ·
             try simp only [decide_eq_true_eq, decide_eq_false_iff_not, Bool.and_eq_true, Bool.or_eq_true, beq_iff_eq, bne_iff_ne, ne_eq, Bool.not_eq_true', Bool.not_eq_false', Decidable.not_not] at hb48
             refine wpl_on rfl rfl ?_
             refine wpl_q (q_pure rfl) rfl ?_
             refine wpl_on rfl rfl ?_
             refine wpl_q (q8_eql (b := (95 : UInt8)) rfl rfl) rfl ?_
             refine wpl_q (q_pure rfl) rfl ?_
             refine wpl_q (q_pure rfl) rfl ?_
             refine wpl_re 52 rfl (congrArg Value.bool (show _ = !goodB (xs.getD i 0) by
               (try simp only [e45, e95] at *)
               first
               | (rw [show goodB (xs.getD i 0) = true from (goodB_iff _).2 (by omega)]; done)
               | (rw [show goodB (xs.getD i 0) = true from (goodB_iff _).2 (by omega)]; rfl)
               | (rw [show goodB (xs.getD i 0) = decide ((xs.getD i 0).toNat = 95) from by rw [Bool.eq_iff_iff, goodB_iff, decide_eq_true_eq]; omega]))) ?_
             refine wpl_nil ?_
             refine ex_mid ⟨(), trivial⟩ ?_ ?_
             ·
              exact (by repeat (first | exact trivial | refine ⟨rfl, ?_⟩))
             ·
              exact fun w h => by first | exact h | exact h.sub SubC.h SubC.h | exact h.sub (by repeat (first | exact Sub.nil | exact Sub.refl _ | with_reducible refine Sub.keep ?_ | refine Sub.drop ?_)) (by repeat (first | exact Sub.nil | exact Sub.refl _ | with_reducible refine Sub.keep ?_ | refine Sub.drop ?_))
         ·
          try simp only [decide_eq_true_eq, decide_eq_false_iff_not, Bool.and_eq_true, Bool.or_eq_true, beq_iff_eq, bne_iff_ne, ne_eq, Bool.not_eq_true', Bool.not_eq_false', Decidable.not_not] at hb31
          refine wpl_off rfl rfl rfl rfl ?_
          refine wpl_off rfl rfl rfl rfl ?_
          refine wpl_on rfl rfl ?_
          refine wpl_q (q_pure rfl) rfl ?_
          refine wpl_q (q_pure rfl) rfl ?_
          refine wpl_q (q_pure rfl) rfl ?_
          refine wpl_on rfl rfl ?_
          refine wpl_q (q_pure rfl) rfl ?_
          refine wpl_on rfl rfl ?_
          refine wpl_q (q_pure rfl) rfl ?_
          refine wpl_on rfl rfl ?_
          refine wpl_q (q_pure rfl) rfl ?_
          refine wpl_bool2 39 38 rfl rfl (fun hb39 => ?_) (fun hb39 => ?_)
          ·
           try simp only [decide_eq_true_eq, decide_eq_false_iff_not, Bool.and_eq_true, Bool.or_eq_true, beq_iff_eq, bne_iff_ne, ne_eq, Bool.not_eq_true', Bool.not_eq_false', Decidable.not_not] at hb39
           refine wpl_on rfl rfl ?_
           refine wpl_q (q_pure rfl) rfl ?_
           refine wpl_on rfl rfl ?_
           refine wpl_q (q_pure rfl) rfl ?_
           refine wpl_on rfl rfl ?_
           refine wpl_q (q_pure rfl) rfl ?_
           refine wpl_q (q_pure rfl) rfl ?_
           refine wpl_q (q_pure rfl) rfl ?_
           refine wpl_bool2 44 41 rfl rfl (fun hb44 => ?_) (fun hb44 => ?_)
           ·
            try simp only [decide_eq_true_eq, decide_eq_false_iff_not, Bool.and_eq_true, Bool.or_eq_true, beq_iff_eq, bne_iff_ne, ne_eq, Bool.not_eq_true', Bool.not_eq_false', Decidable.not_not] at hb44
            refine wpl_off rfl rfl rfl rfl ?_
            refine wpl_off rfl rfl rfl rfl ?_
            refine wpl_q (q_pure rfl) rfl ?_
            refine wpl_q (q_pure rfl) rfl ?_
            refine wpl_off rfl rfl rfl rfl ?_
            refine wpl_off rfl rfl rfl rfl ?_
            refine wpl_q (q_pure rfl) rfl ?_
            refine wpl_q (q_pure rfl) rfl ?_
            refine wpl_re 52 rfl (congrArg Value.bool (show _ = !goodB (xs.getD i 0) by
              (try simp only [e45, e95] at *)
              first
              | (rw [show goodB (xs.getD i 0) = true from (goodB_iff _).2 (by omega)]; done)
              | (rw [show goodB (xs.getD i 0) = true from (goodB_iff _).2 (by omega)]; rfl)
              | (rw [show goodB (xs.getD i 0) = decide ((xs.getD i 0).toNat = 95) from by rw [Bool.eq_iff_iff, goodB_iff, decide_eq_true_eq]; omega]))) ?_
            refine wpl_nil ?_
            refine ex_mid ⟨(), trivial⟩ ?_ ?_
            ·
             exact (by repeat (first | exact trivial | refine ⟨rfl, ?_⟩))
            ·
             exact fun w h => by first | exact h | exact h.sub SubC.h SubC.h | exact h.sub (by repeat (first | exact Sub.nil | exact Sub.refl _ | with_reducible refine Sub.keep ?_ | refine Sub.drop ?_)) (by repeat (first | exact Sub.nil | exact Sub.refl _ | with_reducible refine Sub.keep ?_ | refine Sub.drop ?_))
           ·
            try simp only [decide_eq_true_eq, decide_eq_false_iff_not, Bool.and_eq_true, Bool.or_eq_true, beq_iff_eq, bne_iff_ne, ne_eq, Bool.not_eq_true', Bool.not_eq_false', Decidable.not_not] at hb44
            refine wpl_on rfl rfl ?_
            refine wpl_q (q_pure rfl) rfl ?_
            refine wpl_on rfl rfl ?_
            refine wpl_q (q8_eql (b := (45 : UInt8)) rfl rfl) rfl ?_
            refine wpl_q (q_pure rfl) rfl ?_
            refine wpl_q (q_pure rfl) rfl ?_
            refine wpl_bool2 48 46 rfl rfl (fun hb48 => ?_) (fun hb48 => ?_)
            ·
             try simp only [decide_eq_true_eq, decide_eq_false_iff_not, Bool.and_eq_true, Bool.or_eq_true, beq_iff_eq, bne_iff_ne, ne_eq, Bool.not_eq_true', Bool.not_eq_false', Decidable.not_not] at hb48
             refine wpl_off rfl rfl rfl rfl ?_
             refine wpl_off rfl rfl rfl rfl ?_
             refine wpl_q (q_pure rfl) rfl ?_
             refine wpl_q (q_pure rfl) rfl ?_
             refine wpl_re 52 rfl (congrArg Value.bool (show _ = !goodB (xs.getD i 0) by
               (try simp only [e45, e95] at *)
               first
               | (rw [show goodB (xs.getD i 0) = true from (goodB_iff _).2 (by omega)]; done)
               | (rw [show goodB (xs.getD i 0) = true from (goodB_iff _).2 (by omega)]; rfl)
               | (rw [show goodB (xs.getD i 0) = decide ((xs.getD i 0).toNat = 95) from by rw [Bool.eq_iff_iff, goodB_iff, decide_eq_true_eq]; omega]))) ?_
             refine wpl_nil ?_
             refine ex_mid ⟨(), trivial⟩ ?_ ?_
             ·
              exact (by repeat (first | exact trivial | refine ⟨rfl, ?_⟩))
             ·
              exact fun w h => by first | exact h | exact h.sub SubC.h SubC.h | exact h.sub (by repeat (first | exact Sub.nil | exact Sub.refl _ | with_reducible refine Sub.keep ?_ | refine Sub.drop ?_)) (by repeat (first | exact Sub.nil | exact Sub.refl _ | with_reducible refine Sub.keep ?_ | refine Sub.drop ?_))
            ·
             try simp only [decide_eq_true_eq, decide_eq_false_iff_not, Bool.and_eq_true, Bool.or_eq_true, beq_iff_eq, bne_iff_ne, ne_eq, Bool.not_eq_true', Bool.not_eq_false', Decidable.not_not] at hb48
             refine wpl_on rfl rfl ?_
             refine wpl_q (q_pure rfl) rfl ?_
             refine wpl_on rfl rfl ?_
             refine wpl_q (q8_eql (b := (95 : UInt8)) rfl rfl) rfl ?_
             refine wpl_q (q_pure rfl) rfl ?_
             refine wpl_q (q_pure rfl) rfl ?_
             refine wpl_re 52 rfl (congrArg Value.bool (show _ = !goodB (xs.getD i 0) by
               (try simp only [e45, e95] at *)
               first
               | (rw [show goodB (xs.getD i 0) = true from (goodB_iff _).2 (by omega)]; done)
               | (rw [show goodB (xs.getD i 0) = true from (goodB_iff _).2 (by omega)]; rfl)
               | (rw [show goodB (xs.getD i 0) = decide ((xs.getD i 0).toNat = 95) from by rw [Bool.eq_iff_iff, goodB_iff, decide_eq_true_eq]; omega]))) ?_
             refine wpl_nil ?_
             refine ex_mid ⟨(), trivial⟩ ?_ ?_
             ·
              exact (by repeat (first | exact trivial | refine ⟨rfl, ?_⟩))
             ·
              exact fun w h => by first | exact h | exact h.sub SubC.h SubC.h | exact h.sub (by repeat (first | exact Sub.nil | exact Sub.refl _ | with_reducible refine Sub.keep ?_ | refine Sub.drop ?_)) (by repeat (first | exact Sub.nil | exact Sub.refl _ | with_reducible refine Sub.keep ?_ | refine Sub.drop ?_))
          ·
           try simp only [decide_eq_true_eq, decide_eq_false_iff_not, Bool.and_eq_true, Bool.or_eq_true, beq_iff_eq, bne_iff_ne, ne_eq, Bool.not_eq_true', Bool.not_eq_false', Decidable.not_not] at hb39
           refine wpl_off rfl rfl rfl rfl ?_
           refine wpl_off rfl rfl rfl rfl ?_
           refine wpl_on rfl rfl ?_
           refine wpl_q (q_pure rfl) rfl ?_
           refine wpl_q (q_pure rfl) rfl ?_
           refine wpl_q (q_pure rfl) rfl ?_
           refine wpl_on rfl rfl ?_
           refine wpl_q (q_pure rfl) rfl ?_
           refine wpl_on rfl rfl ?_
           refine wpl_q (q8_eql (b := (45 : UInt8)) rfl rfl) rfl ?_
           refine wpl_q (q_pure rfl) rfl ?_
           refine wpl_q (q_pure rfl) rfl ?_
           refine wpl_bool2 48 46 rfl rfl (fun hb48 => ?_) (fun hb48 => ?_)
           ·
            try simp only [decide_eq_true_eq, decide_eq_false_iff_not, Bool.and_eq_true, Bool.or_eq_true, beq_iff_eq, bne_iff_ne, ne_eq, Bool.not_eq_true', Bool.not_eq_false', Decidable.not_not] at hb48
            refine wpl_off rfl rfl rfl rfl ?_
            refine wpl_off rfl rfl rfl rfl ?_
            refine wpl_q (q_pure rfl) rfl ?_
            refine wpl_q (q_pure rfl) rfl ?_
            refine wpl_re 52 rfl (congrArg Value.bool (show _ = !goodB (xs.getD i 0) by
              (try simp only [e45, e95] at *)
              first
              | (rw [show goodB (xs.getD i 0) = true from (goodB_iff _).2 (by omega)]; done)
              | (rw [show goodB (xs.getD i 0) = true from (goodB_iff _).2 (by omega)]; rfl)
              | (rw [show goodB (xs.getD i 0) = decide ((xs.getD i 0).toNat = 95) from by rw [Bool.eq_iff_iff, goodB_iff, decide_eq_true_eq]; omega]))) ?_
            refine wpl_nil ?_
            refine ex_mid ⟨(), trivial⟩ ?_ ?_
            ·
             exact (by repeat (first | exact trivial | refine ⟨rfl, ?_⟩))
            ·
             exact fun w h => by first | exact h | exact h.sub SubC.h SubC.h | exact h.sub (by repeat (first | exact Sub.nil | exact Sub.refl _ | with_reducible refine Sub.keep ?_ | refine Sub.drop ?_)) (by repeat (first | exact Sub.nil | exact Sub.refl _ | with_reducible refine Sub.keep ?_ | refine Sub.drop ?_))
           ·
            try simp only [decide_eq_true_eq, decide_eq_false_iff_not, Bool.and_eq_true, Bool.or_eq_true, beq_iff_eq, bne_iff_ne, ne_eq, Bool.not_eq_true', Bool.not_eq_false', Decidable.not_not] at hb48
            refine wpl_on rfl rfl ?_
            refine wpl_q (q_pure rfl) rfl ?_
            refine wpl_on rfl rfl ?_
            refine wpl_q (q8_eql (b := (95 : UInt8)) rfl rfl) rfl ?_
            refine wpl_q (q_pure rfl) rfl ?_
            refine wpl_q (q_pure rfl) rfl ?_
            refine wpl_re 52 rfl (congrArg Value.bool (show _ = !goodB (xs.getD i 0) by
              (try simp only [e45, e95] at *)
              first
              | (rw [show goodB (xs.getD i 0) = true from (goodB_iff _).2 (by omega)]; done)
              | (rw [show goodB (xs.getD i 0) = true from (goodB_iff _).2 (by omega)]; rfl)
              | (rw [show goodB (xs.getD i 0) = decide ((xs.getD i 0).toNat = 95) from by rw [Bool.eq_iff_iff, goodB_iff, decide_eq_true_eq]; omega]))) ?_
            refine wpl_nil ?_
            refine ex_mid ⟨(), trivial⟩ ?_ ?_
            ·
             exact (by repeat (first | exact trivial | refine ⟨rfl, ?_⟩))
            ·
             exact fun w h => by first | exact h | exact h.sub SubC.h SubC.h | exact h.sub (by repeat (first | exact Sub.nil | exact Sub.refl _ | with_reducible refine Sub.keep ?_ | refine Sub.drop ?_)) (by repeat (first | exact Sub.nil | exact Sub.refl _ | with_reducible refine Sub.keep ?_ | refine Sub.drop ?_))
       ·
        try simp only [decide_eq_true_eq, decide_eq_false_iff_not, Bool.and_eq_true, Bool.or_eq_true, beq_iff_eq, bne_iff_ne, ne_eq, Bool.not_eq_true', Bool.not_eq_false', Decidable.not_not] at hb24
        refine wpl_off rfl rfl rfl rfl ?_
        refine wpl_off rfl rfl rfl rfl ?_
        refine wpl_q (q_pure rfl) rfl ?_
        refine wpl_q (q_pure rfl) rfl ?_
        refine wpl_on rfl rfl ?_
        refine wpl_q (q_pure rfl) rfl ?_
        refine wpl_on rfl rfl ?_
        refine wpl_q (q_pure rfl) rfl ?_
        refine wpl_on rfl rfl ?_
        refine wpl_q (q_pure rfl) rfl ?_
        refine wpl_bool2 31 30 rfl rfl (fun hb31 => ?_) (fun hb31 => ?_)
        ·
         try simp only [decide_eq_true_eq, decide_eq_false_iff_not, Bool.and_eq_true, Bool.or_eq_true, beq_iff_eq, bne_iff_ne, ne_eq, Bool.not_eq_true', Bool.not_eq_false', Decidable.not_not] at hb31
         refine wpl_on rfl rfl ?_
         refine wpl_q (q_pure rfl) rfl ?_
         refine wpl_on rfl rfl ?_
         refine wpl_q (q_pure rfl) rfl ?_
         refine wpl_on rfl rfl ?_
         refine wpl_q (q_pure rfl) rfl ?_
         refine wpl_q (q_pure rfl) rfl ?_
         refine wpl_q (q_pure rfl) rfl ?_
         refine wpl_bool2 36 33 rfl rfl (fun hb36 => ?_) (fun hb36 => ?_)
         ·
          try simp only [decide_eq_true_eq, decide_eq_false_iff_not, Bool.and_eq_true, Bool.or_eq_true, beq_iff_eq, bne_iff_ne, ne_eq, Bool.not_eq_true', Bool.not_eq_false', Decidable.not_not] at hb36
          refine wpl_off rfl rfl rfl rfl ?_
          refine wpl_off rfl rfl rfl rfl ?_
          refine wpl_off rfl rfl rfl rfl ?_
          refine wpl_off rfl rfl rfl rfl ?_
          refine wpl_off rfl rfl rfl rfl ?_
          refine wpl_off rfl rfl rfl rfl ?_
          refine wpl_q (q_pure rfl) rfl ?_
          refine wpl_q (q_pure rfl) rfl ?_
          refine wpl_off rfl rfl rfl rfl ?_
          refine wpl_off rfl rfl rfl rfl ?_
          refine wpl_q (q_pure rfl) rfl ?_
          refine wpl_q (q_pure rfl) rfl ?_
          refine wpl_off rfl rfl rfl rfl ?_
          refine wpl_off rfl rfl rfl rfl ?_
          refine wpl_q (q_pure rfl) rfl ?_
          refine wpl_q (q_pure rfl) rfl ?_
          refine wpl_re 52 rfl (congrArg Value.bool (show _ = !goodB (xs.getD i 0) by
            (try simp only [e45, e95] at *)
            first
            | (rw [show goodB (xs.getD i 0) = true from (goodB_iff _).2 (by omega)]; done)
            | (rw [show goodB (xs.getD i 0) = true from (goodB_iff _).2 (by omega)]; rfl)
            | (rw [show goodB (xs.getD i 0) = decide ((xs.getD i 0).toNat = 95) from by rw [Bool.eq_iff_iff, goodB_iff, decide_eq_true_eq]; omega]))) ?_
          refine wpl_nil ?_
          refine ex_mid ⟨(), trivial⟩ ?_ ?_
          ·
           exact (by repeat (first | exact trivial | refine ⟨rfl, ?_⟩))
          ·
           exact fun w h => by first | exact h | exact h.sub SubC.h SubC.h | exact h.sub (by repeat (first | exact Sub.nil | exact Sub.refl _ | with_reducible refine Sub.keep ?_ | refine Sub.drop ?_)) (by repeat (first | exact Sub.nil | exact Sub.refl _ | with_reducible refine Sub.keep ?_ | refine Sub.drop ?_))
         ·
          try simp only [decide_eq_true_eq, decide_eq_false_iff_not, Bool.and_eq_true, Bool.or_eq_true, beq_iff_eq, bne_iff_ne, ne_eq, Bool.not_eq_true', Bool.not_eq_false', Decidable.not_not] at hb36
          refine wpl_on rfl rfl ?_
          refine wpl_q (q_pure rfl) rfl ?_
          refine wpl_on rfl rfl ?_
          refine wpl_q (q_pure rfl) rfl ?_
          refine wpl_on rfl rfl ?_
          refine wpl_q (q_pure rfl) rfl ?_
          refine wpl_bool2 39 38 rfl rfl (fun hb39 => ?_) (fun hb39 => ?_)
          ·
           try simp only [decide_eq_true_eq, decide_eq_false_iff_not, Bool.and_eq_true, Bool.or_eq_true, beq_iff_eq, bne_iff_ne, ne_eq, Bool.not_eq_true', Bool.not_eq_false', Decidable.not_not] at hb39
           refine wpl_on rfl rfl ?_
           refine wpl_q (q_pure rfl) rfl ?_
           refine wpl_on rfl rfl ?_
           refine wpl_q (q_pure rfl) rfl ?_
           refine wpl_on rfl rfl ?_
           refine wpl_q (q_pure rfl) rfl ?_
           refine wpl_q (q_pure rfl) rfl ?_
           refine wpl_q (q_pure rfl) rfl ?_
           refine wpl_bool2 44 41 rfl rfl (fun hb44 => ?_) (fun hb44 => ?_)
           ·
            try simp only [decide_eq_true_eq, decide_eq_false_iff_not, Bool.and_eq_true, Bool.or_eq_true, beq_iff_eq, bne_iff_ne, ne_eq, Bool.not_eq_true', Bool.not_eq_false', Decidable.not_not] at hb44
            refine wpl_off rfl rfl rfl rfl ?_
            refine wpl_off rfl rfl rfl rfl ?_
            refine wpl_q (q_pure rfl) rfl ?_
            refine wpl_q (q_pure rfl) rfl ?_
            refine wpl_off rfl rfl rfl rfl ?_
            refine wpl_off rfl rfl rfl rfl ?_
            refine wpl_q (q_pure rfl) rfl ?_
            refine wpl_q (q_pure rfl) rfl ?_
            refine wpl_re 52 rfl (congrArg Value.bool (show _ = !goodB (xs.getD i 0) by
              (try simp only [e45, e95] at *)
              first
              | (rw [show goodB (xs.getD i 0) = true from (goodB_iff _).2 (by omega)]; done)
              | (rw [show goodB (xs.getD i 0) = true from (goodB_iff _).2 (by omega)]; rfl)
              | (rw [show goodB (xs.getD i 0) = decide ((xs.getD i 0).toNat = 95) from by rw [Bool.eq_iff_iff, goodB_iff, decide_eq_true_eq]; omega]))) ?_
            refine wpl_nil ?_
            refine ex_mid ⟨(), trivial⟩ ?_ ?_
            ·
             exact (by repeat (first | exact trivial | refine ⟨rfl, ?_⟩))
            ·
             exact fun w h => by first | exact h | exact h.sub SubC.h SubC.h | exact h.sub (by repeat (first | exact Sub.nil | exact Sub.refl _ | with_reducible refine Sub.keep ?_ | refine Sub.drop ?_)) (by repeat (first | exact Sub.nil | exact Sub.refl _ | with_reducible refine Sub.keep ?_ | refine Sub.drop ?_))
           ·
            try simp only [decide_eq_true_eq, decide_eq_false_iff_not, Bool.and_eq_true, Bool.or_eq_true, beq_iff_eq, bne_iff_ne, ne_eq, Bool.not_eq_true', Bool.not_eq_false', Decidable.not_not] at hb44
            refine wpl_on rfl rfl ?_
            refine wpl_q (q_pure rfl) rfl ?_
            refine wpl_on rfl rfl ?_
            refine wpl_q (q8_eql (b := (45 : UInt8)) rfl rfl) rfl ?_
            refine wpl_q (q_pure rfl) rfl ?_
            refine wpl_q (q_pure rfl) rfl ?_
            refine wpl_bool2 48 46 rfl rfl (fun hb48 => ?_) (fun hb48 => ?_)
            ·
             try simp only [decide_eq_true_eq, decide_eq_false_iff_not, Bool.and_eq_true, Bool.or_eq_true, beq_iff_eq, bne_iff_ne, ne_eq, Bool.not_eq_true', Bool.not_eq_false', Decidable.not_not] at hb48
             refine wpl_off rfl rfl rfl rfl ?_
             refine wpl_off rfl rfl rfl rfl ?_
             refine wpl_q (q_pure rfl) rfl ?_
             refine wpl_q (q_pure rfl) rfl ?_
             refine wpl_re 52 rfl (congrArg Value.bool (show _ = !goodB (xs.getD i 0) by
               (try simp only [e45, e95] at *)
               first
               | (rw [show goodB (xs.getD i 0) = true from (goodB_iff _).2 (by omega)]; done)
               | (rw [show goodB (xs.getD i 0) = true from (goodB_iff _).2 (by omega)]; rfl)
               | (rw [show goodB (xs.getD i 0) = decide ((xs.getD i 0).toNat = 95) from by rw [Bool.eq_iff_iff, goodB_iff, decide_eq_true_eq]; omega]))) ?_
             refine wpl_nil ?_
             refine ex_mid ⟨(), trivial⟩ ?_ ?_
             ·
              exact (by repeat (first | exact trivial | refine ⟨rfl, ?_⟩))
             ·
              exact fun w h => by first | exact h | exact h.sub SubC.h SubC.h | exact h.sub (by repeat (first | exact Sub.nil | exact Sub.refl _ | with_reducible refine Sub.keep ?_ | refine Sub.drop ?_)) (by repeat (first | exact Sub.nil | exact Sub.refl _ | with_reducible refine Sub.keep ?_ | refine Sub.drop ?_))
            ·
             try simp only [decide_eq_true_eq, decide_eq_false_iff_not, Bool.and_eq_true, Bool.or_eq_true, beq_iff_eq, bne_iff_ne, ne_eq, Bool.not_eq_true', Bool.not_eq_false', Decidable.not_not] at hb48
             refine wpl_on rfl rfl ?_
             refine wpl_q (q_pure rfl) rfl ?_
             refine wpl_on rfl rfl ?_
             refine wpl_q (q8_eql (b := (95 : UInt8)) rfl rfl) rfl ?_
             refine wpl_q (q_pure rfl) rfl ?_
             refine wpl_q (q_pure rfl) rfl ?_
             refine wpl_re 52 rfl (congrArg Value.bool (show _ = !goodB (xs.getD i 0) by
               (try simp only [e45, e95] at *)
               first
               | (rw [show goodB (xs.getD i 0) = true from (goodB_iff _).2 (by omega)]; done)
               | (rw [show goodB (xs.getD i 0) = true from (goodB_iff _).2 (by omega)]; rfl)
               | (rw [show goodB (xs.getD i 0) = decide ((xs.getD i 0).toNat = 95) from by rw [Bool.eq_iff_iff, goodB_iff, decide_eq_true_eq]; omega]))) ?_
             refine wpl_nil ?_
             refine ex_mid ⟨(), trivial⟩ ?_ ?_
             ·
              exact (by repeat (first | exact trivial | refine ⟨rfl, ?_⟩))
             ·
              exact fun w h => by first | exact h | exact h.sub SubC.h SubC.h | exact h.sub (by repeat (first | exact Sub.nil | exact Sub.refl _ | with_reducible refine Sub.keep ?_ | refine Sub.drop ?_)) (by repeat (first | exact Sub.nil | exact Sub.refl _ | with_reducible refine Sub.keep ?_ | refine Sub.drop ?_))
          ·
           try simp only [decide_eq_true_eq, decide_eq_false_iff_not, Bool.and_eq_true, Bool.or_eq_true, beq_iff_eq, bne_iff_ne, ne_eq, Bool.not_eq_true', Bool.not_eq_false', Decidable.not_not] at hb39
           refine wpl_off rfl rfl rfl rfl ?_
           refine wpl_off rfl rfl rfl rfl ?_
           refine wpl_on rfl rfl ?_
           refine wpl_q (q_pure rfl) rfl ?_
           refine wpl_q (q_pure rfl) rfl ?_
           refine wpl_q (q_pure rfl) rfl ?_
           refine wpl_on rfl rfl ?_
           refine wpl_q (q_pure rfl) rfl ?_
           refine wpl_on rfl rfl ?_
           refine wpl_q (q8_eql (b := (45 : UInt8)) rfl rfl) rfl ?_
           refine wpl_q (q_pure rfl) rfl ?_
           refine wpl_q (q_pure rfl) rfl ?_
           refine wpl_bool2 48 46 rfl rfl (fun hb48 => ?_) (fun hb48 => ?_)
           ·
            try simp only [decide_eq_true_eq, decide_eq_false_iff_not, Bool.and_eq_true, Bool.or_eq_true, beq_iff_eq, bne_iff_ne, ne_eq, Bool.not_eq_true', Bool.not_eq_false', Decidable.not_not] at hb48
            refine wpl_off rfl rfl rfl rfl ?_
            refine wpl_off rfl rfl rfl rfl ?_
            refine wpl_q (q_pure rfl) rfl ?_
            refine wpl_q (q_pure rfl) rfl ?_
            refine wpl_re 52 rfl (congrArg Value.bool (show _ = !goodB (xs.getD i 0) by
              (try simp only [e45, e95] at *)
              first
              | (rw [show goodB (xs.getD i 0) = true from (goodB_iff _).2 (by omega)]; done)
              | (rw [show goodB (xs.getD i 0) = true from (goodB_iff _).2 (by omega)]; rfl)
              | (rw [show goodB (xs.getD i 0) = decide ((xs.getD i 0).toNat = 95) from by rw [Bool.eq_iff_iff, goodB_iff, decide_eq_true_eq]; omega]))) ?_
            refine wpl_nil ?_
            refine ex_mid ⟨(), trivial⟩ ?_ ?_
            ·
             exact (by repeat (first | exact trivial | refine ⟨rfl, ?_⟩))
            ·
             exact fun w h => by first | exact h | exact h.sub SubC.h SubC.h | exact h.sub (by repeat (first | exact Sub.nil | exact Sub.refl _ | with_reducible refine Sub.keep ?_ | refine Sub.drop ?_)) (by repeat (first | exact Sub.nil | exact Sub.refl _ | with_reducible refine Sub.keep ?_ | refine Sub.drop ?_))
           ·
            try simp only [decide_eq_true_eq, decide_eq_false_iff_not, Bool.and_eq_true, Bool.or_eq_true, beq_iff_eq, bne_iff_ne, ne_eq, Bool.not_eq_true', Bool.not_eq_false', Decidable.not_not] at hb48
            refine wpl_on rfl rfl ?_
            refine wpl_q (q_pure rfl) rfl ?_
            refine wpl_on rfl rfl ?_
            refine wpl_q (q8_eql (b := (95 : UInt8)) rfl rfl) rfl ?_
            refine wpl_q (q_pure rfl) rfl ?_
            refine wpl_q (q_pure rfl) rfl ?_
            refine wpl_re 52 rfl (congrArg Value.bool (show _ = !goodB (xs.getD i 0) by
              (try simp only [e45, e95] at *)
              first
              | (rw [show goodB (xs.getD i 0) = true from (goodB_iff _).2 (by omega)]; done)
              | (rw [show goodB (xs.getD i 0) = true from (goodB_iff _).2 (by omega)]; rfl)
              | (rw [show goodB (xs.getD i 0) = decide ((xs.getD i 0).toNat = 95) from by rw [Bool.eq_iff_iff, goodB_iff, decide_eq_true_eq]; omega]))) ?_
            refine wpl_nil ?_
            refine ex_mid ⟨(), trivial⟩ ?_ ?_
            ·
             exact (by repeat (first | exact trivial | refine ⟨rfl, ?_⟩))
            ·
             exact fun w h => by first | exact h | exact h.sub SubC.h SubC.h | exact h.sub (by repeat (first | exact Sub.nil | exact Sub.refl _ | with_reducible refine Sub.keep ?_ | refine Sub.drop ?_)) (by repeat (first | exact Sub.nil | exact Sub.refl _ | with_reducible refine Sub.keep ?_ | refine Sub.drop ?_))
        ·
         try simp only [decide_eq_true_eq, decide_eq_false_iff_not, Bool.and_eq_true, Bool.or_eq_true, beq_iff_eq, bne_iff_ne, ne_eq, Bool.not_eq_true', Bool.not_eq_false', Decidable.not_not] at hb31
         refine wpl_off rfl rfl rfl rfl ?_
         refine wpl_off rfl rfl rfl rfl ?_
         refine wpl_on rfl rfl ?_
         refine wpl_q (q_pure rfl) rfl ?_
         refine wpl_q (q_pure rfl) rfl ?_
         refine wpl_q (q_pure rfl) rfl ?_
         refine wpl_on rfl rfl ?_
         refine wpl_q (q_pure rfl) rfl ?_
         refine wpl_on rfl rfl ?_
         refine wpl_q (q_pure rfl) rfl ?_
         refine wpl_on rfl rfl ?_
         refine wpl_q (q_pure rfl) rfl ?_
         refine wpl_bool2 39 38 rfl rfl (fun hb39 => ?_) (fun hb39 => ?_)
         ·
          try simp only [decide_eq_true_eq, decide_eq_false_iff_not, Bool.and_eq_true, Bool.or_eq_true, beq_iff_eq, bne_iff_ne, ne_eq, Bool.not_eq_true', Bool.not_eq_false', Decidable.not_not] at hb39
          refine wpl_on rfl rfl ?_
          refine wpl_q (q_pure rfl) rfl ?_
          refine wpl_on rfl rfl ?_
          refine wpl_q (q_pure rfl) rfl ?_
          refine wpl_on rfl rfl ?_
          refine wpl_q (q_pure rfl) rfl ?_
          refine wpl_q (q_pure rfl) rfl ?_
          refine wpl_q (q_pure rfl) rfl ?_
          refine wpl_bool2 44 41 rfl rfl (fun hb44 => ?_) (fun hb44 => ?_)
          ·
           try simp only [decide_eq_true_eq, decide_eq_false_iff_not, Bool.and_eq_true, Bool.or_eq_true, beq_iff_eq, bne_iff_ne, ne_eq, Bool.not_eq_true', Bool.not_eq_false', Decidable.not_not] at hb44
           refine wpl_off rfl rfl rfl rfl ?_
           refine wpl_off rfl rfl rfl rfl ?_
           refine wpl_q (q_pure rfl) rfl ?_
           refine wpl_q (q_pure rfl) rfl ?_
           refine wpl_off rfl rfl rfl rfl ?_
           refine wpl_off rfl rfl rfl rfl ?_
           refine wpl_q (q_pure rfl) rfl ?_
           refine wpl_q (q_pure rfl) rfl ?_
           refine wpl_re 52 rfl (congrArg Value.bool (show _ = !goodB (xs.getD i 0) by
             (try simp only [e45, e95] at *)
             first
             | (rw [show goodB (xs.getD i 0) = true from (goodB_iff _).2 (by omega)]; done)
             | (rw [show goodB (xs.getD i 0) = true from (goodB_iff _).2 (by omega)]; rfl)
             | (rw [show goodB (xs.getD i 0) = decide ((xs.getD i 0).toNat = 95) from by rw [Bool.eq_iff_iff, goodB_iff, decide_eq_true_eq]; omega]))) ?_
           refine wpl_nil ?_
           refine ex_mid ⟨(), trivial⟩ ?_ ?_
           ·
            exact (by repeat (first | exact trivial | refine ⟨rfl, ?_⟩))
           ·
            exact fun w h => by first | exact h | exact h.sub SubC.h SubC.h | exact h.sub (by repeat (first | exact Sub.nil | exact Sub.refl _ | with_reducible refine Sub.keep ?_ | refine Sub.drop ?_)) (by repeat (first | exact Sub.nil | exact Sub.refl _ | with_reducible refine Sub.keep ?_ | refine Sub.drop ?_))
          ·
           try simp only [decide_eq_true_eq, decide_eq_false_iff_not, Bool.and_eq_true, Bool.or_eq_true, beq_iff_eq, bne_iff_ne, ne_eq, Bool.not_eq_true', Bool.not_eq_false', Decidable.not_not] at hb44
           refine wpl_on rfl rfl ?_
           refine wpl_q (q_pure rfl) rfl ?_
           refine wpl_on rfl rfl ?_
           refine wpl_q (q8_eql (b := (45 : UInt8)) rfl rfl) rfl ?_
           refine wpl_q (q_pure rfl) rfl ?_
           refine wpl_q (q_pure rfl) rfl ?_
           refine wpl_bool2 48 46 rfl rfl (fun hb48 => ?_) (fun hb48 => ?_)
           ·
            try simp only [decide_eq_true_eq, decide_eq_false_iff_not, Bool.and_eq_true, Bool.or_eq_true, beq_iff_eq, bne_iff_ne, ne_eq, Bool.not_eq_true', Bool.not_eq_false', Decidable.not_not] at hb48
            refine wpl_off rfl rfl rfl rfl ?_
            refine wpl_off rfl rfl rfl rfl ?_
            refine wpl_q (q_pure rfl) rfl ?_
            refine wpl_q (q_pure rfl) rfl ?_
            refine wpl_re 52 rfl (congrArg Value.bool (show _ = !goodB (xs.getD i 0) by
              (try simp only [e45, e95] at *)
              first
              | (rw [show goodB (xs.getD i 0) = true from (goodB_iff _).2 (by omega)]; done)
              | (rw [show goodB (xs.getD i 0) = true from (goodB_iff _).2 (by omega)]; rfl)
              | (rw [show goodB (xs.getD i 0) = decide ((xs.getD i 0).toNat = 95) from by rw [Bool.eq_iff_iff, goodB_iff, decide_eq_true_eq]; omega]))) ?_
            refine wpl_nil ?_
            refine ex_mid ⟨(), trivial⟩ ?_ ?_
            ·
             exact (by repeat (first | exact trivial | refine ⟨rfl, ?_⟩))
            ·
             exact fun w h => by first | exact h | exact h.sub SubC.h SubC.h | exact h.sub (by repeat (first | exact Sub.nil | exact Sub.refl _ | with_reducible refine Sub.keep ?_ | refine Sub.drop ?_)) (by repeat (first | exact Sub.nil | exact Sub.refl _ | with_reducible refine Sub.keep ?_ | refine Sub.drop ?_))
           ·
            try simp only [decide_eq_true_eq, decide_eq_false_iff_not, Bool.and_eq_true, Bool.or_eq_true, beq_iff_eq, bne_iff_ne, ne_eq, Bool.not_eq_true', Bool.not_eq_false', Decidable.not_not] at hb48
            refine wpl_on rfl rfl ?_
            refine wpl_q (q_pure rfl) rfl ?_
            refine wpl_on rfl rfl ?_
            refine wpl_q (q8_eql (b := (95 : UInt8)) rfl rfl) rfl ?_
            refine wpl_q (q_pure rfl) rfl ?_
            refine wpl_q (q_pure rfl) rfl ?_
            refine wpl_re 52 rfl (congrArg Value.bool (show _ = !goodB (xs.getD i 0) by
              (try simp only [e45, e95] at *)
              first
              | (rw [show goodB (xs.getD i 0) = true from (goodB_iff _).2 (by omega)]; done)
              | (rw [show goodB (xs.getD i 0) = true from (goodB_iff _).2 (by omega)]; rfl)
              | (rw [show goodB (xs.getD i 0) = decide ((xs.getD i 0).toNat = 95) from by rw [Bool.eq_iff_iff, goodB_iff, decide_eq_true_eq]; omega]))) ?_
            refine wpl_nil ?_
            refine ex_mid ⟨(), trivial⟩ ?_ ?_
            ·
             exact (by repeat (first | exact trivial | refine ⟨rfl, ?_⟩))
            ·
             exact fun w h => by first | exact h | exact h.sub SubC.h SubC.h | exact h.sub (by repeat (first | exact Sub.nil | exact Sub.refl _ | with_reducible refine Sub.keep ?_ | refine Sub.drop ?_)) (by repeat (first | exact Sub.nil | exact Sub.refl _ | with_reducible refine Sub.keep ?_ | refine Sub.drop ?_))
         ·
          try simp only [decide_eq_true_eq, decide_eq_false_iff_not, Bool.and_eq_true, Bool.or_eq_true, beq_iff_eq, bne_iff_ne, ne_eq, Bool.not_eq_true', Bool.not_eq_false', Decidable.not_not] at hb39
          refine wpl_off rfl rfl rfl rfl ?_
          refine wpl_off rfl rfl rfl rfl ?_
          refine wpl_on rfl rfl ?_
          refine wpl_q (q_pure rfl) rfl ?_
          refine wpl_q (q_pure rfl) rfl ?_
          refine wpl_q (q_pure rfl) rfl ?_
          refine wpl_on rfl rfl ?_
          refine wpl_q (q_pure rfl) rfl ?_
          refine wpl_on rfl rfl ?_
          refine wpl_q (q8_eql (b := (45 : UInt8)) rfl rfl) rfl ?_
          refine wpl_q (q_pure rfl) rfl ?_
          refine wpl_q (q_pure rfl) rfl ?_
          refine wpl_bool2 48 46 rfl rfl (fun hb48 => ?_) (fun hb48 => ?_)
          ·
           try simp only [decide_eq_true_eq, decide_eq_false_iff_not, Bool.and_eq_true, Bool.or_eq_true, beq_iff_eq, bne_iff_ne, ne_eq, Bool.not_eq_true', Bool.not_eq_false', Decidable.not_not] at hb48
           refine wpl_off rfl rfl rfl rfl ?_
           refine wpl_off rfl rfl rfl rfl ?_
           refine wpl_q (q_pure rfl) rfl ?_
           refine wpl_q (q_pure rfl) rfl ?_
           refine wpl_re 52 rfl (congrArg Value.bool (show _ = !goodB (xs.getD i 0) by
             (try simp only [e45, e95] at *)
             first
             | (rw [show goodB (xs.getD i 0) = true from (goodB_iff _).2 (by omega)]; done)
             | (rw [show goodB (xs.getD i 0) = true from (goodB_iff _).2 (by omega)]; rfl)
             | (rw [show goodB (xs.getD i 0) = decide ((xs.getD i 0).toNat = 95) from by rw [Bool.eq_iff_iff, goodB_iff, decide_eq_true_eq]; omega]))) ?_
           refine wpl_nil ?_
           refine ex_mid ⟨(), trivial⟩ ?_ ?_
           ·
            exact (by repeat (first | exact trivial | refine ⟨rfl, ?_⟩))
           ·
            exact fun w h => by first | exact h | exact h.sub SubC.h SubC.h | exact h.sub (by repeat (first | exact Sub.nil | exact Sub.refl _ | with_reducible refine Sub.keep ?_ | refine Sub.drop ?_)) (by repeat (first | exact Sub.nil | exact Sub.refl _ | with_reducible refine Sub.keep ?_ | refine Sub.drop ?_))
          ·
           try simp only [decide_eq_true_eq, decide_eq_false_iff_not, Bool.and_eq_true, Bool.or_eq_true, beq_iff_eq, bne_iff_ne, ne_eq, Bool.not_eq_true', Bool.not_eq_false', Decidable.not_not] at hb48
           refine wpl_on rfl rfl ?_
           refine wpl_q (q_pure rfl) rfl ?_
           refine wpl_on rfl rfl ?_
           refine wpl_q (q8_eql (b := (95 : UInt8)) rfl rfl) rfl ?_
           refine wpl_q (q_pure rfl) rfl ?_
           refine wpl_q (q_pure rfl) rfl ?_
           refine wpl_re 52 rfl (congrArg Value.bool (show _ = !goodB (xs.getD i 0) by
             (try simp only [e45, e95] at *)
             first
             | (rw [show goodB (xs.getD i 0) = true from (goodB_iff _).2 (by omega)]; done)
             | (rw [show goodB (xs.getD i 0) = true from (goodB_iff _).2 (by omega)]; rfl)
             | (rw [show goodB (xs.getD i 0) = decide ((xs.getD i 0).toNat = 95) from by rw [Bool.eq_iff_iff, goodB_iff, decide_eq_true_eq]; omega]))) ?_
           refine wpl_nil ?_
           refine ex_mid ⟨(), trivial⟩ ?_ ?_
           ·
            exact (by repeat (first | exact trivial | refine ⟨rfl, ?_⟩))
           ·
            exact fun w h => by first | exact h | exact h.sub SubC.h SubC.h | exact h.sub (by repeat (first | exact Sub.nil | exact Sub.refl _ | with_reducible refine Sub.keep ?_ | refine Sub.drop ?_)) (by repeat (first | exact Sub.nil | exact Sub.refl _ | with_reducible refine Sub.keep ?_ | refine Sub.drop ?_))
      ·
       rintro ⟨_, _⟩; try dsimp only
       refine wpc_cond rfl (fun hc52 => ?_) (fun hc52 => ?_)
       ·
        have hg : goodB (xs.getD i 0) = false := by simpa using hc52
        refine wpc_seq ?_
        refine wpc_region ?_
        refine wpl_q (q_pure rfl) rfl ?_
        refine wpl_nil ?_
        refine ex_then ?_
        refine wpc_ret ?_
        refine ex_block_ret ?_
        refine ex_then_ret ?_
        refine ex_then_ret ?_
        refine ex_block_ret ?_
        refine ex_then_ret ?_
        refine ret1 (.inl rfl) rfl rfl ?_
        exact fun w h => ⟨by rw [show nameF xs = false by exact name_bad hil hg], h.below⟩
       ·
        have hg : goodB (xs.getD i 0) = true := by simpa using hc52
        refine wpc_skip ?_
        refine ex_block ?_
        refine ex_then ?_
        refine wpc_region ?_
        refine wpl_q (q_pure rfl) rfl ?_
        refine wpl_q (q_addN (b := 1) rfl rfl (by first | omega | (simp only [maxLen]; omega) | (simp only [List.length_append, List.length_cons, List.length_nil, List.length_take, maxLen]; omega) | (simp only [List.length_append, List.length_cons, List.length_nil, List.length_take]; omega))) rfl ?_
        refine wpl_q (q_pure rfl) rfl ?_
        refine wpl_nil ?_
        refine ex_again ⟨i + 1, ⟨by show i + 1 ≤ xs.length; omega, fun j hj => by rcases Nat.lt_or_ge j i with h | h; exact hi1 j h; obtain rfl : j = i := (by have hj : j < i + 1 := hj; omega); exact hg⟩⟩ ?_ ?_ ?_
        ·
         exact (by repeat (first | exact trivial | refine ⟨rfl, ?_⟩))
        ·
         exact fun w h => by first | exact h | exact h.sub SubC.h SubC.h | exact h.sub (by repeat (first | exact Sub.nil | exact Sub.refl _ | with_reducible refine Sub.keep ?_ | refine Sub.drop ?_)) (by repeat (first | exact Sub.nil | exact Sub.refl _ | with_reducible refine Sub.keep ?_ | refine Sub.drop ?_))
        ·
         (show xs.length - (i + 1) < xs.length - i); omega
     ·
      simp only [decide_eq_false_iff_not] at hc16
      obtain rfl : i = xs.length := by omega
      refine wpc_exit ?_
      refine ex_then_exit ?_
      refine ex_then_exit ?_
      refine ex_block_hit ?_
      refine ex_then ?_
      refine wpc_seq ?_
      refine wpc_region ?_
      refine wpl_q (q_pure rfl) rfl ?_
      refine wpl_nil ?_
      refine ex_then ?_
      refine wpc_ret ?_
      refine ret1 (.inl rfl) rfl rfl ?_
      exact fun w h => ⟨by rw [name_all hi1, decide_eq_true hlen.1, decide_eq_true hlen.2]; rfl, h.below⟩

end Go.Proofs.Ytgnablliekgbgaa
