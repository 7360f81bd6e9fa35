/- Results compared. -/
import Derived.Test.YtoaeklbenmlooaaKAB
namespace Go.Proofs.Ytoaeklbenmlooaa
set_option linter.unusedSimpArgs false
set_option linter.unusedVariables false
open Go Go.PL Go.RowKit

def resC (r : Int × Int) : List Value := [.int .i64 r.1, .int .i64 r.2]
abbrev rcs (rs : List (Int × Int)) : List Value := (rs.map resC).flatten
theorem rcs_length (rs : List (Int × Int)) : (rcs rs).length = rs.length * 2 := by
  induction rs with
  | nil => rfl
  | cons r rs ih => rw [rcs, List.map_cons, List.flatten_cons, List.length_append]; show 2 + (rcs rs).length = _; rw [ih, List.length_cons]; omega
theorem rcs_drop (rs : List (Int × Int)) : ∀ i, i < rs.length → (rcs rs).drop (i * 2) = resC (rs.getD i (0, 0)) ++ (rcs rs).drop (i * 2 + 2) := by
  induction rs with
  | nil => intro i h; simp at h
  | cons r rs ih =>
    intro i h
    cases i with
    | zero => rfl
    | succ i =>
      have e := ih i (by simpa using h)
      show ((resC r) ++ rcs rs).drop ((i + 1) * 2) = resC (rs.getD i (0, 0)) ++ ((resC r) ++ rcs rs).drop ((i + 1) * 2 + 2)
      have d : ∀ k, ((resC r) ++ rcs rs).drop ((resC r).length + k) = (rcs rs).drop k := fun k => by rw [← List.drop_drop, List.drop_left]
      rw [show (i + 1) * 2 = (resC r).length + i * 2 by show _ = 2 + i * 2; omega, d (i * 2), Nat.add_assoc, d (i * 2 + 2)]
      exact e
theorem rcs_part {rs : List (Int × Int)} {i : Nat} (h : i < rs.length) : ((rcs rs).drop (i * 2)).take 2 = resC (rs.getD i (0, 0)) := by
  rw [rcs_drop rs i h, List.take_append_of_le_length (Nat.le_refl 2), List.take_of_length_le (Nat.le_refl 2)]
theorem resC_inj {a b : Int × Int} (h : resC a = resC b) : a = b := by
  cases a; cases b
  simp only [resC, List.cons.injEq, Value.int.injEq, true_and, and_true] at h
  rw [h.1, h.2]
theorem eqKR : EqC Try.prog 2 61 true 2 (fun cs => cs.length = 2 ∧ IntCell .i64 ((cs.drop 0).take 1) ∧ IntCell .i64 ((cs.drop 1).take 1) ∧ True) := by
  refine eqc_struct Try.underlying61 Try.ti61 (by kernel_rfl) ?_
  refine EqFs.cons (sz := 1) (W := IntCell .i64) (by kernel_rfl) rfl (eqc_int Try.underlying3 Try.ti3) ?_
  refine EqFs.cons (sz := 1) (W := IntCell .i64) (by kernel_rfl) rfl (eqc_int Try.underlying31 Try.ti31) ?_
  exact EqFs.nil _
theorem q_neKR {n : Cx} {R : World → Prop} {L : Slots} {t' : TypeId} {x y : Operand} {a b : Int × Int} (hx : ev L x = some (.agg (resC a).toArray)) (hy : ev L y = some (.agg (resC b).toArray)) : QOp Try.prog n R L (.binOp .neq 61 x y t') (.bool (!decide (a = b))) :=
  q_neA eqKR (by decide) (by kernel_rfl) hx hy ⟨rfl, ⟨_, rfl⟩, ⟨_, rfl⟩, trivial⟩ ⟨rfl, ⟨_, rfl⟩, ⟨_, rfl⟩, trivial⟩ _ (by
    simp only [Bool.not_eq_true', decide_eq_false_iff_not]; exact ⟨fun h e => h (resC_inj e), fun h e => h (by rw [e])⟩)

set_option maxRecDepth 100000 in
theorem sameResults (av : Value) (xs : List (Int × Int)) (bv : Value) (ys : List (Int × Int)) (w : World) (hav : Seen w.cell? av xs.length 2 (rcs xs)) (hbv : Seen w.cell? bv ys.length 2 (rcs ys))  :
    Calls Try.prog 32 [av, bv].toArray w (Pur w (.bool (decide (xs = ys)))) := by
  have sav := hav.sv
  have lav := sav.le
  simp only [maxLen] at lav
  have sbv := hbv.sv
  have lbv := sbv.le
  simp only [maxLen] at lbv
  refine enter (m := 26) (R := Mem w [] [] []) Try.func32 rfl rfl (Nat.le_of_ble_eq_true rfl) (Mem.start w) ?_
  refine wpc_seq ?_
  refine wpc_region ?_
  refine wpl_q (q_pure rfl) rfl ?_
  refine wpl_nil ?_
  refine ex_then ?_
  refine wpc_seq ?_
  refine wpc_seq ?_
  refine wpc_region ?_
  refine wpl_q (q_pure rfl) rfl ?_
  refine wpl_q (q_lenW Try.underlying53 rfl (by first | assumption | exact SV.nil | exact SV.slv (by assumption) (by omega) (by omega) | exact arv_sv (by first | decide | (simp only [maxLen]; omega)))) rfl ?_
  refine wpl_q (q_pure rfl) rfl ?_
  refine wpl_q (q_lenW Try.underlying53 rfl (by first | assumption | exact SV.nil | exact SV.slv (by assumption) (by omega) (by omega) | exact arv_sv (by first | decide | (simp only [maxLen]; omega)))) rfl ?_
  refine wpl_q (q_pure rfl) rfl ?_
  refine wpl_nil ?_
  refine ex_then ?_
  refine wpc_cond rfl (fun hc10 => ?_) (fun hc10 => ?_)
  ·
   simp only [decide_eq_true_eq, bne_iff_ne, ne_eq] at hc10
   have hne : xs ≠ ys := fun e => hc10 (by rw [e])
   refine wpc_seq ?_
   refine wpc_region ?_
   refine wpl_q (q_pure rfl) rfl ?_
   refine wpl_nil ?_
   refine ex_then ?_
   refine wpc_ret ?_
   refine ex_then_ret ?_
   refine ret1 (.inl rfl) rfl rfl ?_
   exact fun w h => ⟨by simp [hne], h.below⟩
  ·
   simp only [bne_eq_false_iff_eq] at hc10
   have hl : xs.length = ys.length := by omega
   refine wpc_skip ?_
   refine ex_then ?_
   refine wpc_seq ?_
   refine wpc_seq ?_
   refine wpc_region ?_
   refine wpl_q (q_pure rfl) rfl ?_
   refine wpl_nil ?_
   refine ex_then ?_
   refine wpc_block ?_
   refine wpc_loopc (ι := { x : Nat // (x ≤ xs.length) ∧ (xs.take x = ys.take x) }) [(0, _), (1, _)] (fun x Lc => (5, .int .i64 ((x.1 : Nat) : Int)) :: Lc) (fun x => Mem w [] [] []) (fun x => xs.length - x.1) ⟨0, ⟨Nat.zero_le _, rfl⟩⟩ (by repeat (first | exact trivial | refine ⟨rfl, ?_⟩)) ?_ ?_
   ·
    exact fun w h => h
   ·
    rintro ⟨i, ⟨hi0, hi1⟩⟩; try dsimp only
    have hi0 : i ≤ xs.length := hi0; have hi1 : xs.take i = ys.take i := hi1
    refine wpc_seq ?_
    refine wpc_seq ?_
    refine wpc_region ?_
    refine wpl_q (q_pure rfl) rfl ?_
    refine wpl_q (q_pure rfl) rfl ?_
    refine wpl_q (q_lenW Try.underlying53 rfl (by first | assumption | exact SV.nil | exact SV.slv (by assumption) (by omega) (by omega) | exact arv_sv (by first | decide | (simp only [maxLen]; omega)))) rfl ?_
    refine wpl_q (q_pure rfl) rfl ?_
    refine wpl_nil ?_
    refine ex_then ?_
    refine wpc_cond rfl (fun hc14 => ?_) (fun hc14 => ?_)
    ·
     simp only [decide_eq_true_eq] at hc14
     have hlx : i < xs.length := by omega
     have hly : i < ys.length := by omega
     refine wpc_skip ?_
     refine ex_then ?_
     refine wpc_seq ?_
     refine wpc_block ?_
     refine wpc_seq ?_
     refine wpc_draw 9 (by kernel_rfl) (fun _ h => h.drew) ?_
     refine wpd_p 0 rfl (by kernel_rfl) trivial (q_pure rfl) rfl sk0 ?_
     refine wpd_p 1 rfl (by kernel_rfl) trivial (q_pure rfl) rfl sk0 ?_
     refine wpd_p 2 rfl (by kernel_rfl) trivial (q_idxW Try.underlying53 Try.ti61 rfl rfl (by first | assumption | exact SV.nil | exact SV.slv (by assumption) (by omega) (by omega) | exact arv_sv (by first | decide | (simp only [maxLen]; omega))) (by first | omega | (simp only [maxLen]; omega) | (simp only [List.length_append, List.length_cons, List.length_nil, List.length_take, maxLen]; omega) | (simp only [List.length_append, List.length_cons, List.length_nil, List.length_take]; omega))) rfl sk0 ?_
     refine wpd_q 3 rfl (by kernel_rfl) trivial (q_ldWN Try.underlying61 rfl Try.ti61 rfl (fun w h => h.seen_old hav) (resC (xs.getD i (0, 0))) (rcs_part hlx) rfl) rfl (fun _ h => h) ?_
     refine wpd_p 4 rfl (by kernel_rfl) trivial (q_pure rfl) rfl sk0 ?_
     refine wpd_p 5 rfl (by kernel_rfl) trivial (q_pure rfl) rfl sk0 ?_
     refine wpd_p 6 rfl (by kernel_rfl) trivial (q_idxW Try.underlying53 Try.ti61 rfl rfl (by first | assumption | exact SV.nil | exact SV.slv (by assumption) (by omega) (by omega) | exact arv_sv (by first | decide | (simp only [maxLen]; omega))) (by first | omega | (simp only [maxLen]; omega) | (simp only [List.length_append, List.length_cons, List.length_nil, List.length_take, maxLen]; omega) | (simp only [List.length_append, List.length_cons, List.length_nil, List.length_take]; omega))) rfl sk0 ?_
     refine wpd_q 7 rfl (by kernel_rfl) trivial (q_ldWN Try.underlying61 rfl Try.ti61 rfl (fun w h => h.seen_old hbv) (resC (ys.getD i (0, 0))) (rcs_part hly) rfl) rfl (fun _ h => h) ?_
     refine wpd_q 8 rfl (by kernel_rfl) trivial (q_neKR rfl rfl) rfl (fun _ h => h) ?_
     refine wpd_done (by kernel_rfl) ?_
     refine ex_then ?_
     refine wpc_cond rfl (fun hc25 => ?_) (fun hc25 => ?_)
     ·
      simp only [Bool.not_eq_true', decide_eq_false_iff_not] at hc25
      have hne : xs ≠ ys := fun e => hc25 (by rw [e])
      refine wpc_seq ?_
      refine wpc_region ?_
      refine wpl_q (q_pure rfl) rfl ?_
      refine wpl_nil ?_
      refine ex_then ?_
      refine wpc_ret ?_
      refine ex_block_ret ?_
      refine ex_then_ret ?_
      refine ex_then_ret ?_
      refine ex_block_ret ?_
      refine ex_then_ret ?_
      refine ret1 (.inl rfl) rfl rfl ?_
      exact fun w h => ⟨by simp [hne], h.below⟩
     ·
      simp only [Bool.not_eq_false', decide_eq_true_eq] at hc25
      refine wpc_skip ?_
      refine ex_block ?_
      refine ex_then ?_
      refine wpc_region ?_
      refine wpl_q (q_pure rfl) rfl ?_
      refine wpl_q (q_addN (b := 1) rfl rfl (by first | omega | (simp only [maxLen]; omega) | (simp only [List.length_append, List.length_cons, List.length_nil, List.length_take, maxLen]; omega) | (simp only [List.length_append, List.length_cons, List.length_nil, List.length_take]; omega))) rfl ?_
      refine wpl_q (q_pure rfl) rfl ?_
      refine wpl_nil ?_
      refine ex_again ⟨i + 1, ⟨by omega, same_stepK xs ys (0, 0) i hi1 (by omega) (by omega) hc25⟩⟩ ?_ ?_ ?_
      ·
       exact (by repeat (first | exact trivial | refine ⟨rfl, ?_⟩))
      ·
       exact fun w h => by first | exact h | exact h.sub SubC.h SubC.h | exact h.sub (by repeat (first | exact Sub.nil | exact Sub.refl _ | with_reducible refine Sub.keep ?_ | refine Sub.drop ?_)) (by repeat (first | exact Sub.nil | exact Sub.refl _ | with_reducible refine Sub.keep ?_ | refine Sub.drop ?_))
      ·
       (show xs.length - (i + 1) < xs.length - i); omega
    ·
     simp only [decide_eq_false_iff_not] at hc14
     obtain rfl : i = xs.length := by omega
     have heq : xs = ys := by rw [List.take_length, hl, List.take_length] at hi1; exact hi1
     refine wpc_exit ?_
     refine ex_then_exit ?_
     refine ex_then_exit ?_
     refine ex_block_hit ?_
     refine ex_then ?_
     refine wpc_seq ?_
     refine wpc_region ?_
     refine wpl_q (q_pure rfl) rfl ?_
     refine wpl_nil ?_
     refine ex_then ?_
     refine wpc_ret ?_
     refine ret1 (.inl rfl) rfl rfl ?_
     exact fun w h => ⟨by simp [heq], h.below⟩

end Go.Proofs.Ytoaeklbenmlooaa
