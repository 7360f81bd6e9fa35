/- Lists compared. -/
import Derived.Test.YtgnablliekgbgaaVG
namespace Go.Proofs.Ytgnablliekgbgaa
set_option linter.unusedSimpArgs false
set_option linter.unusedVariables false
open Go Go.PL Go.RowKit

theorem eq8_62 : Eq8 Try.prog 62 16 := eqc_array Try.underlying62 Try.ti62 Try.ti5 rfl (eqc_int Try.underlying5 Try.ti5)


theorem same_step64 (xs ys : List UInt64) (i : Nat) (h : xs.take i = ys.take i) (hx : i < xs.length) (hy : i < ys.length) (e : xs.getD i 0 = ys.getD i 0) : xs.take (i + 1) = ys.take (i + 1) := by
  rw [List.take_add_one, List.take_add_one, h, List.getElem?_eq_getElem hx, List.getElem?_eq_getElem hy]
  rw [getD64 hx, getD64 hy] at e
  rw [e]
theorem same_stepS (xs ys : List (List UInt8)) (i : Nat) (h : xs.take i = ys.take i) (hx : i < xs.length) (hy : i < ys.length) (e : xs.getD i [] = ys.getD i []) : xs.take (i + 1) = ys.take (i + 1) := by
  rw [List.take_add_one, List.take_add_one, h, List.getElem?_eq_getElem hx, List.getElem?_eq_getElem hy]
  rw [List.getD_eq_getElem?_getD, List.getElem?_eq_getElem hx, List.getD_eq_getElem?_getD, List.getElem?_eq_getElem hy] at e
  have e : xs[i] = ys[i] := e
  rw [e]

set_option maxRecDepth 100000 in
theorem equal64 (av : Value) (xs : List UInt64) (bv : Value) (ys : List UInt64) (w : World) (hav : Seen w.cell? av xs.length 1 (v64s xs)) (hbv : Seen w.cell? bv ys.length 1 (v64s ys))  :
    Calls Try.prog 36 [av, bv].toArray w (Pur w (.bool (decide (xs = ys)))) := by
  have sav := hav.sv
  have lav := sav.le
  simp only [maxLen] at lav
  have sbv := hbv.sv
  have lbv := sbv.le
  simp only [maxLen] at lbv
  refine enter (m := 26) (R := Mem w [] [] []) Try.func36 rfl rfl (Nat.le_of_ble_eq_true rfl) (Mem.start w) ?_
  refine wpc_seq ?_
  refine wpc_region ?_
  refine wpl_q (q_pure rfl) rfl ?_
  refine wpl_nil ?_
  refine ex_then ?_
  refine wpc_seq ?_
  refine wpc_seq ?_
  refine wpc_region ?_
  refine wpl_q (q_pure rfl) rfl ?_
  refine wpl_q (q_lenW Try.underlying25 rfl (by first | assumption | exact SV.nil | exact SV.slv (by assumption) (by omega) (by omega) | exact arv_sv (by first | decide | (simp only [maxLen]; omega)))) rfl ?_
  refine wpl_q (q_pure rfl) rfl ?_
  refine wpl_q (q_lenW Try.underlying25 rfl (by first | assumption | exact SV.nil | exact SV.slv (by assumption) (by omega) (by omega) | exact arv_sv (by first | decide | (simp only [maxLen]; omega)))) rfl ?_
  refine wpl_q (q_pure rfl) rfl ?_
  refine wpl_nil ?_
  refine ex_then ?_
  refine wpc_cond rfl (fun hc10 => ?_) (fun hc10 => ?_)
  ·
   simp only [decide_eq_true_eq, bne_iff_ne, ne_eq] at hc10
   have hne : xs ≠ ys := fun e => hc10 (by rw [e])
   refine wpc_seq ?_
   refine wpc_region ?_
   refine wpl_q (q_pure rfl) rfl ?_
   refine wpl_nil ?_
   refine ex_then ?_
   refine wpc_ret ?_
   refine ex_then_ret ?_
   refine ret1 (.inl rfl) rfl rfl ?_
   exact fun w h => ⟨by simp [hne], h.below⟩
  ·
   simp only [bne_eq_false_iff_eq] at hc10
   have hl : xs.length = ys.length := by omega
   refine wpc_skip ?_
   refine ex_then ?_
   refine wpc_seq ?_
   refine wpc_seq ?_
   refine wpc_region ?_
   refine wpl_q (q_pure rfl) rfl ?_
   refine wpl_q (q_lenW Try.underlying25 rfl (by first | assumption | exact SV.nil | exact SV.slv (by assumption) (by omega) (by omega) | exact arv_sv (by first | decide | (simp only [maxLen]; omega)))) rfl ?_
   refine wpl_q (q_pure rfl) rfl ?_
   refine wpl_nil ?_
   refine ex_then ?_
   refine wpc_block ?_
   refine wpc_loopc (ι := { x : Nat // (x ≤ xs.length) ∧ (xs.take x = ys.take x) }) [(0, _), (1, _), (12, _)] (fun x Lc => (13, .int .i64 ((x.1 : Nat) : Int)) :: Lc) (fun x => Mem w [] [] []) (fun x => xs.length - x.1) ⟨0, ⟨Nat.zero_le _, rfl⟩⟩ (by repeat (first | exact trivial | refine ⟨rfl, ?_⟩)) ?_ ?_
   ·
    exact fun w h => h
   ·
    rintro ⟨i, ⟨hi0, hi1⟩⟩; try dsimp only
    have hi0 : i ≤ xs.length := hi0; have hi1 : xs.take i = ys.take i := hi1
    refine wpc_seq ?_
    refine wpc_region ?_
    refine wpl_q (q_pure rfl) rfl ?_
    refine wpl_nil ?_
    refine ex_then ?_
    refine wpc_seq ?_
    refine wpc_cond rfl (fun hc14 => ?_) (fun hc14 => ?_)
    ·
     try simp only [decide_eq_true_eq, decide_eq_false_iff_not, Bool.and_eq_true, Bool.or_eq_true, beq_iff_eq, bne_iff_ne, ne_eq, Bool.not_eq_true', Bool.not_eq_false', Decidable.not_not] at hc14
     refine wpc_skip ?_
     refine ex_then ?_
     refine wpc_seq ?_
     refine wpc_block ?_
     refine wpc_seq ?_
     refine wpc_region ?_
     refine wpl_q (q_pure rfl) rfl ?_
     refine wpl_q (q_pure rfl) rfl ?_
     refine wpl_nil ?_
     refine ex_then ?_
     refine wpc_seq ?_
     refine wpc_draw 9 (by kernel_rfl) (fun _ h => h.drew) ?_
     refine wpd_p 0 rfl (by kernel_rfl) trivial (q_pure rfl) rfl sk0 ?_
     refine wpd_p 1 rfl (by kernel_rfl) trivial (q_pure rfl) rfl sk0 ?_
     refine wpd_p 2 rfl (by kernel_rfl) trivial (q_idxW1 Try.underlying25 Try.ti22 rfl rfl (by first | assumption | exact SV.nil | exact SV.slv (by assumption) (by omega) (by omega) | exact arv_sv (by first | decide | (simp only [maxLen]; omega))) (by first | omega | (simp only [maxLen]; omega) | (simp only [List.length_append, List.length_cons, List.length_nil, List.length_take, maxLen]; omega) | (simp only [List.length_append, List.length_cons, List.length_nil, List.length_take]; omega))) rfl sk0 ?_
     refine wpd_q 3 rfl (by kernel_rfl) trivial (q_ldW Try.underlying22 rfl rfl (fun w h => by first | exact h.seenV | exact h.seenA (by first | decide | (simp only [maxLen]; omega)) (by first | (with_reducible exact key_len _ _ (by (first | with_reducible assumption | exact L16.h))) | with_reducible rfl | (simp only [v8s_length, v32s_length, vis_length, vns_length, v64s_length, List.length_replicate]; first | done | with_reducible assumption | omega) | (rw [v8s_length]; (first | with_reducible assumption | exact L16.h)) | rfl) | exact h.seen_old (by assumption) | exact h.seen_oldL (by assumption) (by assumption) | exact h.seen_fact (by repeat (first | exact List.mem_cons_self .. | apply List.mem_cons_of_mem))) (by first | exact v64s_get (by first | decide | omega | exact Nat.zero_lt_one | (simp; omega) | (simp; done) | (simp only [v8s_length, v32s_length, vis_length, vns_length, v64s_length]; omega)) | rfl)) rfl (fun _ h => h) ?_
     refine wpd_p 4 rfl (by kernel_rfl) trivial (q_pure rfl) rfl sk0 ?_
     refine wpd_p 5 rfl (by kernel_rfl) trivial (q_pure rfl) rfl sk0 ?_
     refine wpd_p 6 rfl (by kernel_rfl) trivial (q_idxW1 Try.underlying25 Try.ti22 rfl rfl (by first | assumption | exact SV.nil | exact SV.slv (by assumption) (by omega) (by omega) | exact arv_sv (by first | decide | (simp only [maxLen]; omega))) (by first | omega | (simp only [maxLen]; omega) | (simp only [List.length_append, List.length_cons, List.length_nil, List.length_take, maxLen]; omega) | (simp only [List.length_append, List.length_cons, List.length_nil, List.length_take]; omega))) rfl sk0 ?_
     refine wpd_q 7 rfl (by kernel_rfl) trivial (q_ldW Try.underlying22 rfl rfl (fun w h => by first | exact h.seenV | exact h.seenA (by first | decide | (simp only [maxLen]; omega)) (by first | (with_reducible exact key_len _ _ (by (first | with_reducible assumption | exact L16.h))) | with_reducible rfl | (simp only [v8s_length, v32s_length, vis_length, vns_length, v64s_length, List.length_replicate]; first | done | with_reducible assumption | omega) | (rw [v8s_length]; (first | with_reducible assumption | exact L16.h)) | rfl) | exact h.seen_old (by assumption) | exact h.seen_oldL (by assumption) (by assumption) | exact h.seen_fact (by repeat (first | exact List.mem_cons_self .. | apply List.mem_cons_of_mem))) (by first | exact v64s_get (by first | decide | omega | exact Nat.zero_lt_one | (simp; omega) | (simp; done) | (simp only [v8s_length, v32s_length, vis_length, vns_length, v64s_length]; omega)) | rfl)) rfl (fun _ h => h) ?_
     refine wpd_p 8 rfl (by kernel_rfl) trivial (q64_neq rfl rfl) rfl sk0 ?_
     refine wpd_done (by kernel_rfl) ?_
     refine ex_then ?_
     refine wpc_cond rfl (fun hc24 => ?_) (fun hc24 => ?_)
     ·
      have hee : ¬ xs.getD i 0 = ys.getD i 0 := by simpa using hc24
      have hne : xs ≠ ys := fun e => hee (by rw [e])
      refine wpc_seq ?_
      refine wpc_region ?_
      refine wpl_q (q_pure rfl) rfl ?_
      refine wpl_nil ?_
      refine ex_then ?_
      refine wpc_ret ?_
      refine ex_block_ret ?_
      refine ex_then_ret ?_
      refine ex_then_ret ?_
      refine ex_block_ret ?_
      refine ex_then_ret ?_
      refine ret1 (.inl rfl) rfl rfl ?_
      exact fun w h => ⟨by simp [hne], h.below⟩
     ·
      have hee : xs.getD i 0 = ys.getD i 0 := by simpa using hc24
      refine wpc_skip ?_
      refine ex_block ?_
      refine ex_then ?_
      refine wpc_region ?_
      refine wpl_q (q_addN (b := 1) rfl rfl (by first | omega | (simp only [maxLen]; omega) | (simp only [List.length_append, List.length_cons, List.length_nil, List.length_take, maxLen]; omega) | (simp only [List.length_append, List.length_cons, List.length_nil, List.length_take]; omega))) rfl ?_
      refine wpl_q (q_pure rfl) rfl ?_
      refine wpl_nil ?_
      refine ex_again ⟨i + 1, ⟨by show i + 1 ≤ xs.length; omega, same_step64 xs ys i hi1 (by omega) (by omega) hee⟩⟩ ?_ ?_ ?_
      ·
       exact (by repeat (first | exact trivial | refine ⟨rfl, ?_⟩))
      ·
       exact fun w h => by first | exact h | exact h.sub SubC.h SubC.h | exact h.sub (by repeat (first | exact Sub.nil | exact Sub.refl _ | with_reducible refine Sub.keep ?_ | refine Sub.drop ?_)) (by repeat (first | exact Sub.nil | exact Sub.refl _ | with_reducible refine Sub.keep ?_ | refine Sub.drop ?_))
      ·
       (show xs.length - (i + 1) < xs.length - i); omega
    ·
     simp only [decide_eq_false_iff_not] at hc14
     obtain rfl : i = xs.length := by omega
     have heq : xs = ys := by rw [List.take_length, hl, List.take_length] at hi1; exact hi1
     refine wpc_exit ?_
     refine ex_then_exit ?_
     refine ex_then_exit ?_
     refine ex_block_hit ?_
     refine ex_then ?_
     refine wpc_seq ?_
     refine wpc_region ?_
     refine wpl_q (q_pure rfl) rfl ?_
     refine wpl_nil ?_
     refine ex_then ?_
     refine wpc_ret ?_
     refine ret1 (.inl rfl) rfl rfl ?_
     exact fun w h => ⟨by simp [heq], h.below⟩

set_option maxRecDepth 100000 in
theorem sameNumbers (av : Value) (xs : List UInt64) (bv : Value) (ys : List UInt64) (w : World) (hav : Seen w.cell? av xs.length 1 (v64s xs)) (hbv : Seen w.cell? bv ys.length 1 (v64s ys))  :
    Calls Try.prog 38 [av, bv].toArray w (Pur w (.bool (decide (xs = ys)))) := by
  have sav := hav.sv
  have lav := sav.le
  simp only [maxLen] at lav
  have sbv := hbv.sv
  have lbv := sbv.le
  simp only [maxLen] at lbv
  refine enter (m := 26) (R := Mem w [] [] []) Try.func38 rfl rfl (Nat.le_of_ble_eq_true rfl) (Mem.start w) ?_
  refine wpc_seq ?_
  refine wpc_region ?_
  refine wpl_q (q_pure rfl) rfl ?_
  refine wpl_nil ?_
  refine ex_then ?_
  refine wpc_seq ?_
  refine wpc_seq ?_
  refine wpc_region ?_
  refine wpl_q (q_pure rfl) rfl ?_
  refine wpl_q (q_lenW Try.underlying25 rfl (by first | assumption | exact SV.nil | exact SV.slv (by assumption) (by omega) (by omega) | exact arv_sv (by first | decide | (simp only [maxLen]; omega)))) rfl ?_
  refine wpl_q (q_pure rfl) rfl ?_
  refine wpl_q (q_lenW Try.underlying25 rfl (by first | assumption | exact SV.nil | exact SV.slv (by assumption) (by omega) (by omega) | exact arv_sv (by first | decide | (simp only [maxLen]; omega)))) rfl ?_
  refine wpl_q (q_pure rfl) rfl ?_
  refine wpl_nil ?_
  refine ex_then ?_
  refine wpc_cond rfl (fun hc10 => ?_) (fun hc10 => ?_)
  ·
   simp only [decide_eq_true_eq, bne_iff_ne, ne_eq] at hc10
   have hne : xs ≠ ys := fun e => hc10 (by rw [e])
   refine wpc_seq ?_
   refine wpc_region ?_
   refine wpl_q (q_pure rfl) rfl ?_
   refine wpl_nil ?_
   refine ex_then ?_
   refine wpc_ret ?_
   refine ex_then_ret ?_
   refine ret1 (.inl rfl) rfl rfl ?_
   exact fun w h => ⟨by simp [hne], h.below⟩
  ·
   simp only [bne_eq_false_iff_eq] at hc10
   have hl : xs.length = ys.length := by omega
   refine wpc_skip ?_
   refine ex_then ?_
   refine wpc_seq ?_
   refine wpc_seq ?_
   refine wpc_region ?_
   refine wpl_q (q_pure rfl) rfl ?_
   refine wpl_nil ?_
   refine ex_then ?_
   refine wpc_block ?_
   refine wpc_loopc (ι := { x : Nat // (x ≤ xs.length) ∧ (xs.take x = ys.take x) }) [(0, _), (1, _)] (fun x Lc => (5, .int .i64 ((x.1 : Nat) : Int)) :: Lc) (fun x => Mem w [] [] []) (fun x => xs.length - x.1) ⟨0, ⟨Nat.zero_le _, rfl⟩⟩ (by repeat (first | exact trivial | refine ⟨rfl, ?_⟩)) ?_ ?_
   ·
    exact fun w h => h
   ·
    rintro ⟨i, ⟨hi0, hi1⟩⟩; try dsimp only
    have hi0 : i ≤ xs.length := hi0; have hi1 : xs.take i = ys.take i := hi1
    refine wpc_seq ?_
    refine wpc_seq ?_
    refine wpc_region ?_
    refine wpl_q (q_pure rfl) rfl ?_
    refine wpl_q (q_pure rfl) rfl ?_
    refine wpl_q (q_lenW Try.underlying25 rfl (by first | assumption | exact SV.nil | exact SV.slv (by assumption) (by omega) (by omega) | exact arv_sv (by first | decide | (simp only [maxLen]; omega)))) rfl ?_
    refine wpl_q (q_pure rfl) rfl ?_
    refine wpl_nil ?_
    refine ex_then ?_
    refine wpc_cond rfl (fun hc14 => ?_) (fun hc14 => ?_)
    ·
     try simp only [decide_eq_true_eq, decide_eq_false_iff_not, Bool.and_eq_true, Bool.or_eq_true, beq_iff_eq, bne_iff_ne, ne_eq, Bool.not_eq_true', Bool.not_eq_false', Decidable.not_not] at hc14
     refine wpc_skip ?_
     refine ex_then ?_
     refine wpc_seq ?_
     refine wpc_block ?_
     refine wpc_seq ?_
     refine wpc_draw 9 (by kernel_rfl) (fun _ h => h.drew) ?_
     refine wpd_p 0 rfl (by kernel_rfl) trivial (q_pure rfl) rfl sk0 ?_
     refine wpd_p 1 rfl (by kernel_rfl) trivial (q_pure rfl) rfl sk0 ?_
     refine wpd_p 2 rfl (by kernel_rfl) trivial (q_idxW1 Try.underlying25 Try.ti22 rfl rfl (by first | assumption | exact SV.nil | exact SV.slv (by assumption) (by omega) (by omega) | exact arv_sv (by first | decide | (simp only [maxLen]; omega))) (by first | omega | (simp only [maxLen]; omega) | (simp only [List.length_append, List.length_cons, List.length_nil, List.length_take, maxLen]; omega) | (simp only [List.length_append, List.length_cons, List.length_nil, List.length_take]; omega))) rfl sk0 ?_
     refine wpd_q 3 rfl (by kernel_rfl) trivial (q_ldW Try.underlying22 rfl rfl (fun w h => by first | exact h.seenV | exact h.seenA (by first | decide | (simp only [maxLen]; omega)) (by first | (with_reducible exact key_len _ _ (by (first | with_reducible assumption | exact L16.h))) | with_reducible rfl | (simp only [v8s_length, v32s_length, vis_length, vns_length, v64s_length, List.length_replicate]; first | done | with_reducible assumption | omega) | (rw [v8s_length]; (first | with_reducible assumption | exact L16.h)) | rfl) | exact h.seen_old (by assumption) | exact h.seen_oldL (by assumption) (by assumption) | exact h.seen_fact (by repeat (first | exact List.mem_cons_self .. | apply List.mem_cons_of_mem))) (by first | exact v64s_get (by first | decide | omega | exact Nat.zero_lt_one | (simp; omega) | (simp; done) | (simp only [v8s_length, v32s_length, vis_length, vns_length, v64s_length]; omega)) | rfl)) rfl (fun _ h => h) ?_
     refine wpd_p 4 rfl (by kernel_rfl) trivial (q_pure rfl) rfl sk0 ?_
     refine wpd_p 5 rfl (by kernel_rfl) trivial (q_pure rfl) rfl sk0 ?_
     refine wpd_p 6 rfl (by kernel_rfl) trivial (q_idxW1 Try.underlying25 Try.ti22 rfl rfl (by first | assumption | exact SV.nil | exact SV.slv (by assumption) (by omega) (by omega) | exact arv_sv (by first | decide | (simp only [maxLen]; omega))) (by first | omega | (simp only [maxLen]; omega) | (simp only [List.length_append, List.length_cons, List.length_nil, List.length_take, maxLen]; omega) | (simp only [List.length_append, List.length_cons, List.length_nil, List.length_take]; omega))) rfl sk0 ?_
     refine wpd_q 7 rfl (by kernel_rfl) trivial (q_ldW Try.underlying22 rfl rfl (fun w h => by first | exact h.seenV | exact h.seenA (by first | decide | (simp only [maxLen]; omega)) (by first | (with_reducible exact key_len _ _ (by (first | with_reducible assumption | exact L16.h))) | with_reducible rfl | (simp only [v8s_length, v32s_length, vis_length, vns_length, v64s_length, List.length_replicate]; first | done | with_reducible assumption | omega) | (rw [v8s_length]; (first | with_reducible assumption | exact L16.h)) | rfl) | exact h.seen_old (by assumption) | exact h.seen_oldL (by assumption) (by assumption) | exact h.seen_fact (by repeat (first | exact List.mem_cons_self .. | apply List.mem_cons_of_mem))) (by first | exact v64s_get (by first | decide | omega | exact Nat.zero_lt_one | (simp; omega) | (simp; done) | (simp only [v8s_length, v32s_length, vis_length, vns_length, v64s_length]; omega)) | rfl)) rfl (fun _ h => h) ?_
     refine wpd_p 8 rfl (by kernel_rfl) trivial (q64_neq rfl rfl) rfl sk0 ?_
     refine wpd_done (by kernel_rfl) ?_
     refine ex_then ?_
     refine wpc_cond rfl (fun hc25 => ?_) (fun hc25 => ?_)
     ·
      have hee : ¬ xs.getD i 0 = ys.getD i 0 := by simpa using hc25
      have hne : xs ≠ ys := fun e => hee (by rw [e])
      refine wpc_seq ?_
      refine wpc_region ?_
      refine wpl_q (q_pure rfl) rfl ?_
      refine wpl_nil ?_
      refine ex_then ?_
      refine wpc_ret ?_
      refine ex_block_ret ?_
      refine ex_then_ret ?_
      refine ex_then_ret ?_
      refine ex_block_ret ?_
      refine ex_then_ret ?_
      refine ret1 (.inl rfl) rfl rfl ?_
      exact fun w h => ⟨by simp [hne], h.below⟩
     ·
      have hee : xs.getD i 0 = ys.getD i 0 := by simpa using hc25
      refine wpc_skip ?_
      refine ex_block ?_
      refine ex_then ?_
      refine wpc_region ?_
      refine wpl_q (q_pure rfl) rfl ?_
      refine wpl_q (q_addN (b := 1) rfl rfl (by first | omega | (simp only [maxLen]; omega) | (simp only [List.length_append, List.length_cons, List.length_nil, List.length_take, maxLen]; omega) | (simp only [List.length_append, List.length_cons, List.length_nil, List.length_take]; omega))) rfl ?_
      refine wpl_q (q_pure rfl) rfl ?_
      refine wpl_nil ?_
      refine ex_again ⟨i + 1, ⟨by show i + 1 ≤ xs.length; omega, same_step64 xs ys i hi1 (by omega) (by omega) hee⟩⟩ ?_ ?_ ?_
      ·
       exact (by repeat (first | exact trivial | refine ⟨rfl, ?_⟩))
      ·
       exact fun w h => by first | exact h | exact h.sub SubC.h SubC.h | exact h.sub (by repeat (first | exact Sub.nil | exact Sub.refl _ | with_reducible refine Sub.keep ?_ | refine Sub.drop ?_)) (by repeat (first | exact Sub.nil | exact Sub.refl _ | with_reducible refine Sub.keep ?_ | refine Sub.drop ?_))
      ·
       (show xs.length - (i + 1) < xs.length - i); omega
    ·
     simp only [decide_eq_false_iff_not] at hc14
     obtain rfl : i = xs.length := by omega
     have heq : xs = ys := by rw [List.take_length, hl, List.take_length] at hi1; exact hi1
     refine wpc_exit ?_
     refine ex_then_exit ?_
     refine ex_then_exit ?_
     refine ex_block_hit ?_
     refine ex_then ?_
     refine wpc_seq ?_
     refine wpc_region ?_
     refine wpl_q (q_pure rfl) rfl ?_
     refine wpl_nil ?_
     refine ex_then ?_
     refine wpc_ret ?_
     refine ret1 (.inl rfl) rfl rfl ?_
     exact fun w h => ⟨by simp [heq], h.below⟩

set_option maxRecDepth 100000 in
theorem equalS (av : Value) (xs : List (List UInt8)) (bv : Value) (ys : List (List UInt8)) (w : World) (hav : Seen w.cell? av xs.length 16 (v8s xs.flatten)) (hlxs : ∀ x ∈ xs, x.length = 16) (hbv : Seen w.cell? bv ys.length 16 (v8s ys.flatten)) (hlys : ∀ x ∈ ys, x.length = 16)  :
    Calls Try.prog 37 [av, bv].toArray w (Pur w (.bool (decide (xs = ys)))) := by
  have sav := hav.sv
  have lav := sav.le
  simp only [maxLen] at lav
  have sbv := hbv.sv
  have lbv := sbv.le
  simp only [maxLen] at lbv
  refine enter (m := 26) (R := Mem w [] [] []) Try.func37 rfl rfl (Nat.le_of_ble_eq_true rfl) (Mem.start w) ?_
  refine wpc_seq ?_
  refine wpc_region ?_
  refine wpl_q (q_pure rfl) rfl ?_
  refine wpl_nil ?_
  refine ex_then ?_
  refine wpc_seq ?_
  refine wpc_seq ?_
  refine wpc_region ?_
  refine wpl_q (q_pure rfl) rfl ?_
  refine wpl_q (q_lenW Try.underlying26 rfl (by first | assumption | exact SV.nil | exact SV.slv (by assumption) (by omega) (by omega) | exact arv_sv (by first | decide | (simp only [maxLen]; omega)))) rfl ?_
  refine wpl_q (q_pure rfl) rfl ?_
  refine wpl_q (q_lenW Try.underlying26 rfl (by first | assumption | exact SV.nil | exact SV.slv (by assumption) (by omega) (by omega) | exact arv_sv (by first | decide | (simp only [maxLen]; omega)))) rfl ?_
  refine wpl_q (q_pure rfl) rfl ?_
  refine wpl_nil ?_
  refine ex_then ?_
  refine wpc_cond rfl (fun hc10 => ?_) (fun hc10 => ?_)
  ·
   simp only [decide_eq_true_eq, bne_iff_ne, ne_eq] at hc10
   have hne : xs ≠ ys := fun e => hc10 (by rw [e])
   refine wpc_seq ?_
   refine wpc_region ?_
   refine wpl_q (q_pure rfl) rfl ?_
   refine wpl_nil ?_
   refine ex_then ?_
   refine wpc_ret ?_
   refine ex_then_ret ?_
   refine ret1 (.inl rfl) rfl rfl ?_
   exact fun w h => ⟨by simp [hne], h.below⟩
  ·
   simp only [bne_eq_false_iff_eq] at hc10
   have hl : xs.length = ys.length := by omega
   refine wpc_skip ?_
   refine ex_then ?_
   refine wpc_seq ?_
   refine wpc_seq ?_
   refine wpc_region ?_
   refine wpl_q (q_pure rfl) rfl ?_
   refine wpl_q (q_lenW Try.underlying26 rfl (by first | assumption | exact SV.nil | exact SV.slv (by assumption) (by omega) (by omega) | exact arv_sv (by first | decide | (simp only [maxLen]; omega)))) rfl ?_
   refine wpl_q (q_pure rfl) rfl ?_
   refine wpl_nil ?_
   refine ex_then ?_
   refine wpc_block ?_
   refine wpc_loopc (ι := { x : Nat // (x ≤ xs.length) ∧ (xs.take x = ys.take x) }) [(0, _), (1, _), (12, _)] (fun x Lc => (13, .int .i64 ((x.1 : Nat) : Int)) :: Lc) (fun x => Mem w [] [] []) (fun x => xs.length - x.1) ⟨0, ⟨Nat.zero_le _, rfl⟩⟩ (by repeat (first | exact trivial | refine ⟨rfl, ?_⟩)) ?_ ?_
   ·
    exact fun w h => h
   ·
    rintro ⟨i, ⟨hi0, hi1⟩⟩; try dsimp only
    have hi0 : i ≤ xs.length := hi0; have hi1 : xs.take i = ys.take i := hi1
    refine wpc_seq ?_
    refine wpc_region ?_
    refine wpl_q (q_pure rfl) rfl ?_
    refine wpl_nil ?_
    refine ex_then ?_
    refine wpc_seq ?_
    refine wpc_cond rfl (fun hc14 => ?_) (fun hc14 => ?_)
    ·
     simp only [decide_eq_true_eq] at hc14
     have g1 := getD_mem_len hlxs (i := i) (by omega)
     have g2 := getD_mem_len hlys (i := i) (by omega)
     refine wpc_skip ?_
     refine ex_then ?_
     refine wpc_seq ?_
     refine wpc_block ?_
     refine wpc_seq ?_
     refine wpc_region ?_
     refine wpl_q (q_pure rfl) rfl ?_
     refine wpl_q (q_pure rfl) rfl ?_
     refine wpl_nil ?_
     refine ex_then ?_
     refine wpc_seq ?_
     refine wpc_draw 9 (by kernel_rfl) (fun _ h => h.drew) ?_
     refine wpd_p 0 rfl (by kernel_rfl) trivial (q_pure rfl) rfl sk0 ?_
     refine wpd_p 1 rfl (by kernel_rfl) trivial (q_pure rfl) rfl sk0 ?_
     refine wpd_p 2 rfl (by kernel_rfl) trivial (q_idxW Try.underlying26 Try.ti62 rfl rfl (by first | assumption | exact SV.nil | exact SV.slv (by assumption) (by omega) (by omega) | exact arv_sv (by first | decide | (simp only [maxLen]; omega))) (by first | omega | (simp only [maxLen]; omega) | (simp only [List.length_append, List.length_cons, List.length_nil, List.length_take, maxLen]; omega) | (simp only [List.length_append, List.length_cons, List.length_nil, List.length_take]; omega))) rfl sk0 ?_
     refine wpd_q 3 rfl (by kernel_rfl) trivial (q_ldWN Try.underlying62 rfl Try.ti62 rfl (fun w h => by first | exact h.seenV | exact h.seenA (by first | decide | (simp only [maxLen]; omega)) (by first | (with_reducible exact key_len _ _ (by (first | with_reducible assumption | exact L16.h))) | with_reducible rfl | (simp only [v8s_length, v32s_length, vis_length, vns_length, v64s_length, List.length_replicate]; first | done | with_reducible assumption | omega) | (rw [v8s_length]; (first | with_reducible assumption | exact L16.h)) | rfl) | exact h.seen_old (by assumption) | exact h.seen_oldL (by assumption) (by assumption) | exact h.seen_fact (by repeat (first | exact List.mem_cons_self .. | apply List.mem_cons_of_mem))) (v8s (xs.getD i [])) (part8 hlxs (by omega)) ((v8s_length _).trans g1)) rfl (fun _ h => h) ?_
     refine wpd_p 4 rfl (by kernel_rfl) trivial (q_pure rfl) rfl sk0 ?_
     refine wpd_p 5 rfl (by kernel_rfl) trivial (q_pure rfl) rfl sk0 ?_
     refine wpd_p 6 rfl (by kernel_rfl) trivial (q_idxW Try.underlying26 Try.ti62 rfl rfl (by first | assumption | exact SV.nil | exact SV.slv (by assumption) (by omega) (by omega) | exact arv_sv (by first | decide | (simp only [maxLen]; omega))) (by first | omega | (simp only [maxLen]; omega) | (simp only [List.length_append, List.length_cons, List.length_nil, List.length_take, maxLen]; omega) | (simp only [List.length_append, List.length_cons, List.length_nil, List.length_take]; omega))) rfl sk0 ?_
     refine wpd_q 7 rfl (by kernel_rfl) trivial (q_ldWN Try.underlying62 rfl Try.ti62 rfl (fun w h => by first | exact h.seenV | exact h.seenA (by first | decide | (simp only [maxLen]; omega)) (by first | (with_reducible exact key_len _ _ (by (first | with_reducible assumption | exact L16.h))) | with_reducible rfl | (simp only [v8s_length, v32s_length, vis_length, vns_length, v64s_length, List.length_replicate]; first | done | with_reducible assumption | omega) | (rw [v8s_length]; (first | with_reducible assumption | exact L16.h)) | rfl) | exact h.seen_old (by assumption) | exact h.seen_oldL (by assumption) (by assumption) | exact h.seen_fact (by repeat (first | exact List.mem_cons_self .. | apply List.mem_cons_of_mem))) (v8s (ys.getD i [])) (part8 hlys (by omega)) ((v8s_length _).trans g2)) rfl (fun _ h => h) ?_
     refine wpd_p 8 rfl (by kernel_rfl) trivial (q_ne8 eq8_62 (by kernel_rfl) rfl rfl (by first | (first | with_reducible assumption | exact L16.h) | simp) (by first | (first | with_reducible assumption | exact L16.h) | simp)) rfl sk0 ?_
     refine wpd_done (by kernel_rfl) ?_
     refine ex_then ?_
     refine wpc_cond rfl (fun hc24 => ?_) (fun hc24 => ?_)
     ·
      have hee : ¬ xs.getD i [] = ys.getD i [] := by simpa using hc24
      have hne : xs ≠ ys := fun e => hee (by rw [e])
      refine wpc_seq ?_
      refine wpc_region ?_
      refine wpl_q (q_pure rfl) rfl ?_
      refine wpl_nil ?_
      refine ex_then ?_
      refine wpc_ret ?_
      refine ex_block_ret ?_
      refine ex_then_ret ?_
      refine ex_then_ret ?_
      refine ex_block_ret ?_
      refine ex_then_ret ?_
      refine ret1 (.inl rfl) rfl rfl ?_
      exact fun w h => ⟨by simp [hne], h.below⟩
     ·
      have hee : xs.getD i [] = ys.getD i [] := by simpa using hc24
      refine wpc_skip ?_
      refine ex_block ?_
      refine ex_then ?_
      refine wpc_region ?_
      refine wpl_q (q_addN (b := 1) rfl rfl (by first | omega | (simp only [maxLen]; omega) | (simp only [List.length_append, List.length_cons, List.length_nil, List.length_take, maxLen]; omega) | (simp only [List.length_append, List.length_cons, List.length_nil, List.length_take]; omega))) rfl ?_
      refine wpl_q (q_pure rfl) rfl ?_
      refine wpl_nil ?_
      refine ex_again ⟨i + 1, ⟨by show i + 1 ≤ xs.length; omega, same_stepS xs ys i hi1 (by omega) (by omega) hee⟩⟩ ?_ ?_ ?_
      ·
       exact (by repeat (first | exact trivial | refine ⟨rfl, ?_⟩))
      ·
       exact fun w h => by first | exact h | exact h.sub SubC.h SubC.h | exact h.sub (by repeat (first | exact Sub.nil | exact Sub.refl _ | with_reducible refine Sub.keep ?_ | refine Sub.drop ?_)) (by repeat (first | exact Sub.nil | exact Sub.refl _ | with_reducible refine Sub.keep ?_ | refine Sub.drop ?_))
      ·
       (show xs.length - (i + 1) < xs.length - i); omega
    ·
     simp only [decide_eq_false_iff_not] at hc14
     obtain rfl : i = xs.length := by omega
     have heq : xs = ys := by rw [List.take_length, hl, List.take_length] at hi1; exact hi1
     refine wpc_exit ?_
     refine ex_then_exit ?_
     refine ex_then_exit ?_
     refine ex_block_hit ?_
     refine ex_then ?_
     refine wpc_seq ?_
     refine wpc_region ?_
     refine wpl_q (q_pure rfl) rfl ?_
     refine wpl_nil ?_
     refine ex_then ?_
     refine wpc_ret ?_
     refine ret1 (.inl rfl) rfl rfl ?_
     exact fun w h => ⟨by simp [heq], h.below⟩

set_option maxRecDepth 100000 in
theorem sameShorts (av : Value) (xs : List (List UInt8)) (bv : Value) (ys : List (List UInt8)) (w : World) (hav : Seen w.cell? av xs.length 16 (v8s xs.flatten)) (hlxs : ∀ x ∈ xs, x.length = 16) (hbv : Seen w.cell? bv ys.length 16 (v8s ys.flatten)) (hlys : ∀ x ∈ ys, x.length = 16)  :
    Calls Try.prog 69 [av, bv].toArray w (Pur w (.bool (decide (xs = ys)))) := by
  have sav := hav.sv
  have lav := sav.le
  simp only [maxLen] at lav
  have sbv := hbv.sv
  have lbv := sbv.le
  simp only [maxLen] at lbv
  refine enter (m := 26) (R := Mem w [] [] []) Try.func69 rfl rfl (Nat.le_of_ble_eq_true rfl) (Mem.start w) ?_
  refine wpc_seq ?_
  refine wpc_region ?_
  refine wpl_q (q_pure rfl) rfl ?_
  refine wpl_nil ?_
  refine ex_then ?_
  refine wpc_seq ?_
  refine wpc_seq ?_
  refine wpc_region ?_
  refine wpl_q (q_pure rfl) rfl ?_
  refine wpl_q (q_lenW Try.underlying26 rfl (by first | assumption | exact SV.nil | exact SV.slv (by assumption) (by omega) (by omega) | exact arv_sv (by first | decide | (simp only [maxLen]; omega)))) rfl ?_
  refine wpl_q (q_pure rfl) rfl ?_
  refine wpl_q (q_lenW Try.underlying26 rfl (by first | assumption | exact SV.nil | exact SV.slv (by assumption) (by omega) (by omega) | exact arv_sv (by first | decide | (simp only [maxLen]; omega)))) rfl ?_
  refine wpl_q (q_pure rfl) rfl ?_
  refine wpl_nil ?_
  refine ex_then ?_
  refine wpc_cond rfl (fun hc10 => ?_) (fun hc10 => ?_)
  ·
   simp only [decide_eq_true_eq, bne_iff_ne, ne_eq] at hc10
   have hne : xs ≠ ys := fun e => hc10 (by rw [e])
   refine wpc_seq ?_
   refine wpc_region ?_
   refine wpl_q (q_pure rfl) rfl ?_
   refine wpl_nil ?_
   refine ex_then ?_
   refine wpc_ret ?_
   refine ex_then_ret ?_
   refine ret1 (.inl rfl) rfl rfl ?_
   exact fun w h => ⟨by simp [hne], h.below⟩
  ·
   simp only [bne_eq_false_iff_eq] at hc10
   have hl : xs.length = ys.length := by omega
   refine wpc_skip ?_
   refine ex_then ?_
   refine wpc_seq ?_
   refine wpc_seq ?_
   refine wpc_region ?_
   refine wpl_q (q_pure rfl) rfl ?_
   refine wpl_nil ?_
   refine ex_then ?_
   refine wpc_block ?_
   refine wpc_loopc (ι := { x : Nat // (x ≤ xs.length) ∧ (xs.take x = ys.take x) }) [(0, _), (1, _)] (fun x Lc => (5, .int .i64 ((x.1 : Nat) : Int)) :: Lc) (fun x => Mem w [] [] []) (fun x => xs.length - x.1) ⟨0, ⟨Nat.zero_le _, rfl⟩⟩ (by repeat (first | exact trivial | refine ⟨rfl, ?_⟩)) ?_ ?_
   ·
    exact fun w h => h
   ·
    rintro ⟨i, ⟨hi0, hi1⟩⟩; try dsimp only
    have hi0 : i ≤ xs.length := hi0; have hi1 : xs.take i = ys.take i := hi1
    refine wpc_seq ?_
    refine wpc_seq ?_
    refine wpc_region ?_
    refine wpl_q (q_pure rfl) rfl ?_
    refine wpl_q (q_pure rfl) rfl ?_
    refine wpl_q (q_lenW Try.underlying26 rfl (by first | assumption | exact SV.nil | exact SV.slv (by assumption) (by omega) (by omega) | exact arv_sv (by first | decide | (simp only [maxLen]; omega)))) rfl ?_
    refine wpl_q (q_pure rfl) rfl ?_
    refine wpl_nil ?_
    refine ex_then ?_
    refine wpc_cond rfl (fun hc14 => ?_) (fun hc14 => ?_)
    ·
     simp only [decide_eq_true_eq] at hc14
     have g1 := getD_mem_len hlxs (i := i) (by omega)
     have g2 := getD_mem_len hlys (i := i) (by omega)
     refine wpc_skip ?_
     refine ex_then ?_
     refine wpc_seq ?_
     refine wpc_block ?_
     refine wpc_seq ?_
     refine wpc_draw 9 (by kernel_rfl) (fun _ h => h.drew) ?_
     refine wpd_p 0 rfl (by kernel_rfl) trivial (q_pure rfl) rfl sk0 ?_
     refine wpd_p 1 rfl (by kernel_rfl) trivial (q_pure rfl) rfl sk0 ?_
     refine wpd_p 2 rfl (by kernel_rfl) trivial (q_idxW Try.underlying26 Try.ti62 rfl rfl (by first | assumption | exact SV.nil | exact SV.slv (by assumption) (by omega) (by omega) | exact arv_sv (by first | decide | (simp only [maxLen]; omega))) (by first | omega | (simp only [maxLen]; omega) | (simp only [List.length_append, List.length_cons, List.length_nil, List.length_take, maxLen]; omega) | (simp only [List.length_append, List.length_cons, List.length_nil, List.length_take]; omega))) rfl sk0 ?_
     refine wpd_q 3 rfl (by kernel_rfl) trivial (q_ldWN Try.underlying62 rfl Try.ti62 rfl (fun w h => by first | exact h.seenV | exact h.seenA (by first | decide | (simp only [maxLen]; omega)) (by first | (with_reducible exact key_len _ _ (by (first | with_reducible assumption | exact L16.h))) | with_reducible rfl | (simp only [v8s_length, v32s_length, vis_length, vns_length, v64s_length, List.length_replicate]; first | done | with_reducible assumption | omega) | (rw [v8s_length]; (first | with_reducible assumption | exact L16.h)) | rfl) | exact h.seen_old (by assumption) | exact h.seen_oldL (by assumption) (by assumption) | exact h.seen_fact (by repeat (first | exact List.mem_cons_self .. | apply List.mem_cons_of_mem))) (v8s (xs.getD i [])) (part8 hlxs (by omega)) ((v8s_length _).trans g1)) rfl (fun _ h => h) ?_
     refine wpd_p 4 rfl (by kernel_rfl) trivial (q_pure rfl) rfl sk0 ?_
     refine wpd_p 5 rfl (by kernel_rfl) trivial (q_pure rfl) rfl sk0 ?_
     refine wpd_p 6 rfl (by kernel_rfl) trivial (q_idxW Try.underlying26 Try.ti62 rfl rfl (by first | assumption | exact SV.nil | exact SV.slv (by assumption) (by omega) (by omega) | exact arv_sv (by first | decide | (simp only [maxLen]; omega))) (by first | omega | (simp only [maxLen]; omega) | (simp only [List.length_append, List.length_cons, List.length_nil, List.length_take, maxLen]; omega) | (simp only [List.length_append, List.length_cons, List.length_nil, List.length_take]; omega))) rfl sk0 ?_
     refine wpd_q 7 rfl (by kernel_rfl) trivial (q_ldWN Try.underlying62 rfl Try.ti62 rfl (fun w h => by first | exact h.seenV | exact h.seenA (by first | decide | (simp only [maxLen]; omega)) (by first | (with_reducible exact key_len _ _ (by (first | with_reducible assumption | exact L16.h))) | with_reducible rfl | (simp only [v8s_length, v32s_length, vis_length, vns_length, v64s_length, List.length_replicate]; first | done | with_reducible assumption | omega) | (rw [v8s_length]; (first | with_reducible assumption | exact L16.h)) | rfl) | exact h.seen_old (by assumption) | exact h.seen_oldL (by assumption) (by assumption) | exact h.seen_fact (by repeat (first | exact List.mem_cons_self .. | apply List.mem_cons_of_mem))) (v8s (ys.getD i [])) (part8 hlys (by omega)) ((v8s_length _).trans g2)) rfl (fun _ h => h) ?_
     refine wpd_p 8 rfl (by kernel_rfl) trivial (q_ne8 eq8_62 (by kernel_rfl) rfl rfl (by first | (first | with_reducible assumption | exact L16.h) | simp) (by first | (first | with_reducible assumption | exact L16.h) | simp)) rfl sk0 ?_
     refine wpd_done (by kernel_rfl) ?_
     refine ex_then ?_
     refine wpc_cond rfl (fun hc25 => ?_) (fun hc25 => ?_)
     ·
      have hee : ¬ xs.getD i [] = ys.getD i [] := by simpa using hc25
      have hne : xs ≠ ys := fun e => hee (by rw [e])
      refine wpc_seq ?_
      refine wpc_region ?_
      refine wpl_q (q_pure rfl) rfl ?_
      refine wpl_nil ?_
      refine ex_then ?_
      refine wpc_ret ?_
      refine ex_block_ret ?_
      refine ex_then_ret ?_
      refine ex_then_ret ?_
      refine ex_block_ret ?_
      refine ex_then_ret ?_
      refine ret1 (.inl rfl) rfl rfl ?_
      exact fun w h => ⟨by simp [hne], h.below⟩
     ·
      have hee : xs.getD i [] = ys.getD i [] := by simpa using hc25
      refine wpc_skip ?_
      refine ex_block ?_
      refine ex_then ?_
      refine wpc_region ?_
      refine wpl_q (q_pure rfl) rfl ?_
      refine wpl_q (q_addN (b := 1) rfl rfl (by first | omega | (simp only [maxLen]; omega) | (simp only [List.length_append, List.length_cons, List.length_nil, List.length_take, maxLen]; omega) | (simp only [List.length_append, List.length_cons, List.length_nil, List.length_take]; omega))) rfl ?_
      refine wpl_q (q_pure rfl) rfl ?_
      refine wpl_nil ?_
      refine ex_again ⟨i + 1, ⟨by show i + 1 ≤ xs.length; omega, same_stepS xs ys i hi1 (by omega) (by omega) hee⟩⟩ ?_ ?_ ?_
      ·
       exact (by repeat (first | exact trivial | refine ⟨rfl, ?_⟩))
      ·
       exact fun w h => by first | exact h | exact h.sub SubC.h SubC.h | exact h.sub (by repeat (first | exact Sub.nil | exact Sub.refl _ | with_reducible refine Sub.keep ?_ | refine Sub.drop ?_)) (by repeat (first | exact Sub.nil | exact Sub.refl _ | with_reducible refine Sub.keep ?_ | refine Sub.drop ?_))
      ·
       (show xs.length - (i + 1) < xs.length - i); omega
    ·
     simp only [decide_eq_false_iff_not] at hc14
     obtain rfl : i = xs.length := by omega
     have heq : xs = ys := by rw [List.take_length, hl, List.take_length] at hi1; exact hi1
     refine wpc_exit ?_
     refine ex_then_exit ?_
     refine ex_then_exit ?_
     refine ex_block_hit ?_
     refine ex_then ?_
     refine wpc_seq ?_
     refine wpc_region ?_
     refine wpl_q (q_pure rfl) rfl ?_
     refine wpl_nil ?_
     refine ex_then ?_
     refine wpc_ret ?_
     refine ret1 (.inl rfl) rfl rfl ?_
     exact fun w h => ⟨by simp [heq], h.below⟩

end Go.Proofs.Ytgnablliekgbgaa
