/- The law OnetimeGuards. -/
import Derived.Test.YtfppaagdnpoemaaDoorLB
namespace Go.Proofs.YtfppaagdnpoemaaDoor
set_option linter.unusedSimpArgs false
set_option linter.unusedVariables false
open Go Go.PL Go.RowKit
theorem guard_eq2 (a b : List UInt8) (ha : a.length = 16) (hb : b.length = 16) : (lessB (digsF b) (digsF a) 35 == !decide (a = b)) = true := by
  rw [show decide (a = b) = decide (b = a) from decide_eq_decide.2 eq_comm]; exact guard_eq b a hb ha

set_option maxRecDepth 100000 in
theorem lawGuards (av : Value) (xs : List UInt8) (bv : Value) (ys : List UInt8) (w : World) (hav : Seen w.cell? av xs.length 1 (v8s xs)) (hbv : Seen w.cell? bv ys.length 1 (v8s ys)) (hG : Glb w) :
    Calls Tryd.prog 7 [av, bv].toArray w (Pur w (.bool true)) := by
  have sav := hav.sv
  have lav := sav.le
  simp only [maxLen] at lav
  have sbv := hbv.sv
  have lbv := sbv.le
  simp only [maxLen] at lbv
  have hdl1 := digsF_length (shortF xs)
  have hdl2 := digsF_length (shortF ys)
  refine enter (m := 96) (R := Mem w [] [] []) Tryd.func7 rfl rfl (Nat.le_of_ble_eq_true rfl) (Mem.start w) ?_
  refine wpc_seq ?_
  refine wpc_region ?_
  refine wpl_q (q_pure rfl) rfl ?_
  refine wpl_nil ?_
  refine ex_then ?_
  refine wpc_seq ?_
  refine wpc_region ?_
  refine wpl_t (t_pur Tryd.hb22 rfl fun w h => alive w (glob h hG)) rfl (fun b12 => ?_)
  refine wpl_q (q_pure rfl) rfl ?_
  refine wpl_nil ?_
  refine ex_then ?_
  refine wpc_seq ?_
  refine wpc_seq ?_
  refine wpc_region ?_
  refine wpl_q (q_pure rfl) rfl ?_
  refine wpl_q (q_lenW Tryd.underlying22 rfl (by first | assumption | exact SV.nil | exact SV.slv (by assumption) (by omega) (by omega) | exact arv_sv (by first | decide | (simp only [maxLen]; omega)))) rfl ?_
  refine wpl_q (q_pure rfl) rfl ?_
  refine wpl_q (q_pure rfl) rfl ?_
  refine wpl_bool2 16 15 rfl rfl (fun hb16 => ?_) (fun hb16 => ?_)
  ·
    try simp only [decide_eq_true_eq, decide_eq_false_iff_not, Bool.and_eq_true, Bool.or_eq_true, beq_iff_eq, bne_iff_ne, ne_eq, Bool.not_eq_true', Bool.not_eq_false', Decidable.not_not] at hb16
    refine wpl_off rfl rfl rfl rfl ?_
    refine wpl_off rfl rfl rfl rfl ?_
    refine wpl_off rfl rfl rfl rfl ?_
    refine wpl_q (q_pure rfl) rfl ?_
    refine wpl_q (q_pure rfl) rfl ?_
    refine wpl_off rfl rfl rfl rfl ?_
    refine wpl_off rfl rfl rfl rfl ?_
    refine wpl_q (q_pure rfl) rfl ?_
    refine wpl_nil ?_
    refine ex_then ?_
    refine wpc_cond_t rfl ?_
    refine wpc_seq ?_
    refine wpc_region ?_
    refine wpl_q (q_pure rfl) rfl ?_
    refine wpl_q (q_pure rfl) rfl ?_
    refine wpl_nil ?_
    refine ex_then ?_
    refine wpc_ret ?_
    refine ex_then_ret ?_
    refine ret1 (.inl rfl) rfl rfl ?_
    exact fun w h => ⟨rfl, h.below⟩
  ·
    try simp only [decide_eq_true_eq, decide_eq_false_iff_not, Bool.and_eq_true, Bool.or_eq_true, beq_iff_eq, bne_iff_ne, ne_eq, Bool.not_eq_true', Bool.not_eq_false', Decidable.not_not] at hb16
    refine wpl_on rfl rfl ?_
    refine wpl_q (q_pure rfl) rfl ?_
    refine wpl_on rfl rfl ?_
    refine wpl_q (q_lenW Tryd.underlying22 rfl (by first | assumption | exact SV.nil | exact SV.slv (by assumption) (by omega) (by omega) | exact arv_sv (by first | decide | (simp only [maxLen]; omega)))) rfl ?_
    refine wpl_on rfl rfl ?_
    refine wpl_q (q_pure rfl) rfl ?_
    refine wpl_q (q_pure rfl) rfl ?_
    refine wpl_q (q_pure rfl) rfl ?_
    refine wpl_bool2 21 19 rfl rfl (fun hb21 => ?_) (fun hb21 => ?_)
    ·
      try simp only [decide_eq_true_eq, decide_eq_false_iff_not, Bool.and_eq_true, Bool.or_eq_true, beq_iff_eq, bne_iff_ne, ne_eq, Bool.not_eq_true', Bool.not_eq_false', Decidable.not_not] at hb21
      refine wpl_off rfl rfl rfl rfl ?_
      refine wpl_off rfl rfl rfl rfl ?_
      refine wpl_q (q_pure rfl) rfl ?_
      refine wpl_nil ?_
      refine ex_then ?_
      refine wpc_cond_t rfl ?_
      refine wpc_seq ?_
      refine wpc_region ?_
      refine wpl_q (q_pure rfl) rfl ?_
      refine wpl_q (q_pure rfl) rfl ?_
      refine wpl_nil ?_
      refine ex_then ?_
      refine wpc_ret ?_
      refine ex_then_ret ?_
      refine ret1 (.inl rfl) rfl rfl ?_
      exact fun w h => ⟨rfl, h.below⟩
    ·
      try simp only [decide_eq_true_eq, decide_eq_false_iff_not, Bool.and_eq_true, Bool.or_eq_true, beq_iff_eq, bne_iff_ne, ne_eq, Bool.not_eq_true', Bool.not_eq_false', Decidable.not_not] at hb21
      refine wpl_on rfl rfl ?_
      refine wpl_q (q_pure rfl) rfl ?_
      refine wpl_on rfl rfl ?_
      refine wpl_q (q_pure rfl) rfl ?_
      refine wpl_q (q_pure rfl) rfl ?_
      refine wpl_nil ?_
      refine ex_then ?_
      refine wpc_cond_f rfl ?_
      refine wpc_skip ?_
      refine ex_then ?_
      refine wpc_seq ?_
      refine wpc_region ?_
      refine wpl_q (q_pure rfl) rfl ?_
      refine wpl_tp (t_callP1 Tryd.hb14 rfl fun w h => digits _ _ w (by first | exact Seen.re8 h.seenV | exact Seen.reS h.seenV (by first | assumption | exact signF_all _ _ | exact sg_all _ _) (by decide) | exact Seen.reN h.seenV | exact h.seenV | exact h.seenA (by first | decide | (simp only [maxLen]; omega)) (by first | with_reducible rfl | (simp only [v8s_length, v32s_length, vis_length, vns_length, v64s_length, List.length_replicate]; first | done | with_reducible assumption | omega) | (rw [v8s_length]; (first | with_reducible assumption | with_reducible exact shortF_length _ | with_reducible exact stepF_length _ _ _ | with_reducible exact sumF_length _ | with_reducible exact climbF_length _ (by first | with_reducible assumption | with_reducible exact shortF_length _ | with_reducible exact beginF_length _ _ | with_reducible exact getD_mem_len (by assumption) (by omega)) _ _ _ | with_reducible exact beginF_length _ _ | with_reducible exact chainF_length _ _ _ | with_reducible exact recF_length _ _ | with_reducible exact publicF_length _ | with_reducible exact getD_mem_len (by assumption) (by omega) | (with_reducible exact List.length_replicate))) | rfl) | exact h.seen_old (by assumption) | exact h.seen_oldL (by assumption) (by assumption) | exact Seen.re8 (h.seen_fact (by repeat (first | exact List.mem_cons_self .. | apply List.mem_cons_of_mem))) | exact h.seen_fact (by repeat (first | exact List.mem_cons_self .. | apply List.mem_cons_of_mem))) (glob h hG)) rfl (fun b27 p27 => ?_)
      refine wpl_q (q_pure rfl) rfl ?_
      refine wpl_tp (t_callP1 Tryd.hb14 rfl fun w h => digits _ _ w (by first | exact Seen.re8 h.seenV | exact Seen.reS h.seenV (by first | assumption | exact signF_all _ _ | exact sg_all _ _) (by decide) | exact Seen.reN h.seenV | exact h.seenV | exact h.seenA (by first | decide | (simp only [maxLen]; omega)) (by first | with_reducible rfl | (simp only [v8s_length, v32s_length, vis_length, vns_length, v64s_length, List.length_replicate]; first | done | with_reducible assumption | omega) | (rw [v8s_length]; (first | with_reducible assumption | with_reducible exact shortF_length _ | with_reducible exact stepF_length _ _ _ | with_reducible exact sumF_length _ | with_reducible exact climbF_length _ (by first | with_reducible assumption | with_reducible exact shortF_length _ | with_reducible exact beginF_length _ _ | with_reducible exact getD_mem_len (by assumption) (by omega)) _ _ _ | with_reducible exact beginF_length _ _ | with_reducible exact chainF_length _ _ _ | with_reducible exact recF_length _ _ | with_reducible exact publicF_length _ | with_reducible exact getD_mem_len (by assumption) (by omega) | (with_reducible exact List.length_replicate))) | rfl) | exact h.seen_old (by assumption) | exact h.seen_oldL (by assumption) (by assumption) | exact Seen.re8 (h.seen_fact (by repeat (first | exact List.mem_cons_self .. | apply List.mem_cons_of_mem))) | exact h.seen_fact (by repeat (first | exact List.mem_cons_self .. | apply List.mem_cons_of_mem))) (glob h hG)) rfl (fun b29 p29 => ?_)
      refine wpl_q (q_pure rfl) rfl ?_
      refine wpl_q (q_pure rfl) rfl ?_
      refine wpl_nil ?_
      refine ex_then ?_
      refine wpc_seq ?_
      refine wpc_seq ?_
      refine wpc_region ?_
      refine wpl_q (q_pure rfl) rfl ?_
      refine wpl_q (q_lenW Tryd.underlying34 rfl (by first | assumption | exact SV.nil | exact SV.slv (by assumption) (by omega) (by omega) | exact arv_sv (by first | decide | (simp only [maxLen]; omega)))) rfl ?_
      refine wpl_q (q_bt (q_neI rfl rfl) (bnot_false rfl)) rfl ?_
      refine wpl_q (q_pure rfl) rfl ?_
      refine wpl_on rfl rfl ?_
      refine wpl_q (q_pure rfl) rfl ?_
      refine wpl_on rfl rfl ?_
      refine wpl_q (q_lenW Tryd.underlying34 rfl (by first | assumption | exact SV.nil | exact SV.slv (by assumption) (by omega) (by omega) | exact arv_sv (by first | decide | (simp only [maxLen]; omega)))) rfl ?_
      refine wpl_on rfl rfl ?_
      refine wpl_q (q_bt (q_neI rfl rfl) (bnot_false rfl)) rfl ?_
      refine wpl_q (q_pure rfl) rfl ?_
      refine wpl_nil ?_
      refine ex_then ?_
      refine wpc_cond_f rfl ?_
      refine wpc_skip ?_
      refine ex_then ?_
      refine wpc_seq ?_
      refine wpc_region ?_
      refine wpl_q (q_pure rfl) rfl ?_
      refine wpl_q (q_pure rfl) rfl ?_
      refine wpl_nil ?_
      refine ex_then ?_
      refine wpc_seq ?_
      refine wpc_seq ?_
      refine wpc_region ?_
      refine wpl_q (q_pure rfl) rfl ?_
      refine wpl_nil ?_
      refine ex_then ?_
      refine wpc_block ?_
      refine wpc_loopc (ι := { x : Nat // (x ≤ 35) }) [(0, _), (1, _), (5, _), (6, _), (7, _)] (fun x Lc => (10, .int .i64 ((x.1 : Nat) : Int)) :: (8, .bool (lessB (digsF (shortF xs)) (digsF (shortF ys)) x.1)) :: (9, .bool (lessB (digsF (shortF ys)) (digsF (shortF xs)) x.1)) :: Lc) (fun x => Mem w [] [.row b29 35 3 1 (vns (digsF (shortF ys))), .row b27 35 3 1 (vns (digsF (shortF xs)))] []) (fun x => 35 - x.1) ⟨0, by first | omega | assumption | decide | exact SV.nil | (simp; done) | (dsimp only; omega)⟩ (by repeat (first | exact trivial | refine ⟨rfl, ?_⟩)) ?_ ?_
      · exact fun w h => h
      · rintro ⟨i, hi0⟩; try dsimp only
        have hi0 : i ≤ 35 := hi0
        have hg1 : (digsF (shortF xs)).getD i 0 ≤ 15 := dig_le xs i
        refine wpc_seq ?_
        refine wpc_seq ?_
        refine wpc_region ?_
        refine wpl_q (q_pure rfl) rfl ?_
        refine wpl_q (q_pure rfl) rfl ?_
        refine wpl_q (q_lenW Tryd.underlying34 rfl (by first | assumption | exact SV.nil | exact SV.slv (by assumption) (by omega) (by omega) | exact arv_sv (by first | decide | (simp only [maxLen]; omega)))) rfl ?_
        refine wpl_q (q_pure rfl) rfl ?_
        refine wpl_nil ?_
        refine ex_then ?_
        refine wpc_cond rfl (fun hc41 => ?_) (fun hc41 => ?_)
        ·
          simp only [decide_eq_true_eq] at hc41
          refine wpc_skip ?_
          refine ex_then ?_
          refine wpc_seq ?_
          refine wpc_block ?_
          refine wpc_seq ?_
          refine wpc_seq ?_
          refine wpc_region ?_
          refine wpl_q (q_pure rfl) rfl ?_
          refine wpl_q (q_pure rfl) rfl ?_
          refine wpl_q (q_idxW1 Tryd.underlying34 Tryd.ti3 rfl rfl (by first | assumption | exact SV.nil | exact SV.slv (by assumption) (by omega) (by omega) | exact arv_sv (by first | decide | (simp only [maxLen]; omega))) (by first | omega | (simp only [maxLen]; omega) | (simp only [List.length_append, List.length_cons, List.length_nil, List.length_take, maxLen]; omega) | (simp only [List.length_append, List.length_cons, List.length_nil, List.length_take]; omega))) rfl ?_
          refine wpl_q (q_ldW Tryd.underlying3 rfl rfl (fun w h => by first | exact h.seenV | exact h.seenA (by first | decide | (simp only [maxLen]; omega)) (by first | with_reducible rfl | (simp only [v8s_length, v32s_length, vis_length, vns_length, v64s_length, List.length_replicate]; first | done | with_reducible assumption | omega) | (rw [v8s_length]; (first | with_reducible assumption | with_reducible exact shortF_length _ | with_reducible exact stepF_length _ _ _ | with_reducible exact sumF_length _ | with_reducible exact climbF_length _ (by first | with_reducible assumption | with_reducible exact shortF_length _ | with_reducible exact beginF_length _ _ | with_reducible exact getD_mem_len (by assumption) (by omega)) _ _ _ | with_reducible exact beginF_length _ _ | with_reducible exact chainF_length _ _ _ | with_reducible exact recF_length _ _ | with_reducible exact publicF_length _ | with_reducible exact getD_mem_len (by assumption) (by omega) | (with_reducible exact List.length_replicate))) | rfl) | exact h.seen_old (by assumption) | exact h.seen_oldL (by assumption) (by assumption) | exact h.seen_fact (by repeat (first | exact List.mem_cons_self .. | apply List.mem_cons_of_mem))) (by first | exact vns_get (by first | decide | omega | (simp; omega) | (simp only [v8s_length, v32s_length, vis_length, vns_length, v64s_length]; omega)) | rfl)) rfl ?_
          refine wpl_q (q_pure rfl) rfl ?_
          refine wpl_q (q_pure rfl) rfl ?_
          refine wpl_bool2 49 48 rfl rfl (fun hb49 => ?_) (fun hb49 => ?_)
          ·
            simp only [decide_eq_true_eq] at hb49; omega
          ·
            try simp only [decide_eq_true_eq, decide_eq_false_iff_not, Bool.and_eq_true, Bool.or_eq_true, beq_iff_eq, bne_iff_ne, ne_eq, Bool.not_eq_true', Bool.not_eq_false', Decidable.not_not] at hb49
            refine wpl_on rfl rfl ?_
            refine wpl_q (q_pure rfl) rfl ?_
            refine wpl_on rfl rfl ?_
            refine wpl_q (q_pure rfl) rfl ?_
            refine wpl_on rfl rfl ?_
            refine wpl_q (q_idxW1 Tryd.underlying34 Tryd.ti3 rfl rfl (by first | assumption | exact SV.nil | exact SV.slv (by assumption) (by omega) (by omega) | exact arv_sv (by first | decide | (simp only [maxLen]; omega))) (by first | omega | (simp only [maxLen]; omega) | (simp only [List.length_append, List.length_cons, List.length_nil, List.length_take, maxLen]; omega) | (simp only [List.length_append, List.length_cons, List.length_nil, List.length_take]; omega))) rfl ?_
            refine wpl_on rfl rfl ?_
            refine wpl_q (q_ldW Tryd.underlying3 rfl rfl (fun w h => by first | exact h.seenV | exact h.seenA (by first | decide | (simp only [maxLen]; omega)) (by first | with_reducible rfl | (simp only [v8s_length, v32s_length, vis_length, vns_length, v64s_length, List.length_replicate]; first | done | with_reducible assumption | omega) | (rw [v8s_length]; (first | with_reducible assumption | with_reducible exact shortF_length _ | with_reducible exact stepF_length _ _ _ | with_reducible exact sumF_length _ | with_reducible exact climbF_length _ (by first | with_reducible assumption | with_reducible exact shortF_length _ | with_reducible exact beginF_length _ _ | with_reducible exact getD_mem_len (by assumption) (by omega)) _ _ _ | with_reducible exact beginF_length _ _ | with_reducible exact chainF_length _ _ _ | with_reducible exact recF_length _ _ | with_reducible exact publicF_length _ | with_reducible exact getD_mem_len (by assumption) (by omega) | (with_reducible exact List.length_replicate))) | rfl) | exact h.seen_old (by assumption) | exact h.seen_oldL (by assumption) (by assumption) | exact h.seen_fact (by repeat (first | exact List.mem_cons_self .. | apply List.mem_cons_of_mem))) (by first | exact vns_get (by first | decide | omega | (simp; omega) | (simp only [v8s_length, v32s_length, vis_length, vns_length, v64s_length]; omega)) | rfl)) rfl ?_
            refine wpl_on rfl rfl ?_
            refine wpl_q (q_pure rfl) rfl ?_
            refine wpl_q (q_pure rfl) rfl ?_
            refine wpl_nil ?_
            refine ex_then ?_
            refine wpc_cond rfl (fun hc55 => ?_) (fun hc55 => ?_)
            ·
              simp only [decide_eq_true_eq] at hc55; omega
            ·
              try simp only [decide_eq_true_eq, decide_eq_false_iff_not, Bool.and_eq_true, Bool.or_eq_true, beq_iff_eq, bne_iff_ne, ne_eq, Bool.not_eq_true', Bool.not_eq_false', Decidable.not_not] at hc55
              refine wpc_skip ?_
              refine ex_then ?_
              refine wpc_seq ?_
              refine wpc_draw 13 (by kernel_rfl) (fun _ h => h.drew) ?_
              refine wpd_p 0 rfl (by kernel_rfl) trivial (q_pure rfl) rfl sk0 ?_
              refine wpd_p 1 rfl (by kernel_rfl) trivial (q_pure rfl) rfl sk0 ?_
              refine wpd_bool2 57 8 rfl rfl (fun hb57 => ?_) (fun hb57 => ?_)
              ·
                refine wpd_off 2 rfl (by kernel_rfl) ⟨_, _, rfl, rfl, rfl⟩ rfl sk0 ?_
                refine wpd_off 3 rfl (by kernel_rfl) ⟨_, _, rfl, rfl, rfl⟩ rfl sk0 ?_
                refine wpd_off 4 rfl (by kernel_rfl) ⟨_, _, rfl, rfl, rfl⟩ rfl sk0 ?_
                refine wpd_off 5 rfl (by kernel_rfl) ⟨_, _, rfl, rfl, rfl⟩ rfl sk0 ?_
                refine wpd_off 6 rfl (by kernel_rfl) ⟨_, _, rfl, rfl, rfl⟩ rfl sk0 ?_
                refine wpd_off 7 rfl (by kernel_rfl) ⟨_, _, rfl, rfl, rfl⟩ rfl sk0 ?_
                refine wpd_off 8 rfl (by kernel_rfl) ⟨_, _, rfl, rfl, rfl⟩ rfl sk0 ?_
                refine wpd_off 9 rfl (by kernel_rfl) ⟨_, _, rfl, rfl, rfl⟩ rfl sk0 ?_
                refine wpd_off 10 rfl (by kernel_rfl) ⟨_, _, rfl, rfl, rfl⟩ rfl sk0 ?_
                refine wpd_p 11 rfl (by kernel_rfl) trivial (q_pure rfl) rfl sk0 ?_
                first | refine wpd_re 67 rfl (congrArg Value.bool (show _ = lessB (digsF (shortF xs)) (digsF (shortF ys)) (i + 1) by simp [lessB, hb57])) ?_ | skip
                refine wpd_p 12 rfl (by kernel_rfl) trivial (q_pure rfl) rfl sk0 ?_
                refine wpd_done (by kernel_rfl) ?_
                refine ex_then ?_
                refine wpc_draw 13 (by kernel_rfl) (fun _ h => h.drew) ?_
                refine wpd_p 0 rfl (by kernel_rfl) trivial (q_pure rfl) rfl sk0 ?_
                refine wpd_p 1 rfl (by kernel_rfl) trivial (q_pure rfl) rfl sk0 ?_
                refine wpd_bool2 69 9 rfl rfl (fun hb69 => ?_) (fun hb69 => ?_)
                ·
                  refine wpd_off 2 rfl (by kernel_rfl) ⟨_, _, rfl, rfl, rfl⟩ rfl sk0 ?_
                  refine wpd_off 3 rfl (by kernel_rfl) ⟨_, _, rfl, rfl, rfl⟩ rfl sk0 ?_
                  refine wpd_off 4 rfl (by kernel_rfl) ⟨_, _, rfl, rfl, rfl⟩ rfl sk0 ?_
                  refine wpd_off 5 rfl (by kernel_rfl) ⟨_, _, rfl, rfl, rfl⟩ rfl sk0 ?_
                  refine wpd_off 6 rfl (by kernel_rfl) ⟨_, _, rfl, rfl, rfl⟩ rfl sk0 ?_
                  refine wpd_off 7 rfl (by kernel_rfl) ⟨_, _, rfl, rfl, rfl⟩ rfl sk0 ?_
                  refine wpd_off 8 rfl (by kernel_rfl) ⟨_, _, rfl, rfl, rfl⟩ rfl sk0 ?_
                  refine wpd_off 9 rfl (by kernel_rfl) ⟨_, _, rfl, rfl, rfl⟩ rfl sk0 ?_
                  refine wpd_off 10 rfl (by kernel_rfl) ⟨_, _, rfl, rfl, rfl⟩ rfl sk0 ?_
                  refine wpd_p 11 rfl (by kernel_rfl) trivial (q_pure rfl) rfl sk0 ?_
                  first | refine wpd_re 79 rfl (congrArg Value.bool (show _ = lessB (digsF (shortF ys)) (digsF (shortF xs)) (i + 1) by simp [lessB, hb69])) ?_ | skip
                  refine wpd_p 12 rfl (by kernel_rfl) trivial (q_pure rfl) rfl sk0 ?_
                  refine wpd_done (by kernel_rfl) ?_
                  refine ex_block ?_
                  refine ex_then ?_
                  refine wpc_region ?_
                  refine wpl_q (q_pure rfl) rfl ?_
                  refine wpl_q (q_addN (b := 1) rfl rfl (by first | omega | (simp only [maxLen]; omega) | (simp only [List.length_append, List.length_cons, List.length_nil, List.length_take, maxLen]; omega) | (simp only [List.length_append, List.length_cons, List.length_nil, List.length_take]; omega))) rfl ?_
                  refine wpl_q (q_pure rfl) rfl ?_
                  refine wpl_nil ?_
                  refine ex_again ⟨i + 1, by first | omega | assumption | decide | exact SV.nil | (simp; done) | (dsimp only; omega)⟩ ?_ ?_ ?_
                  · exact (by repeat (first | exact trivial | refine ⟨rfl, ?_⟩))
                  · exact fun w h => by first | exact h | exact h.sub (by repeat (first | exact Sub.nil | exact Sub.refl _ | with_reducible refine Sub.keep ?_ | refine Sub.drop ?_)) (by repeat (first | exact Sub.nil | exact Sub.refl _ | with_reducible refine Sub.keep ?_ | refine Sub.drop ?_))
                  · (show 35 - (i + 1) < 35 - i); omega
                ·
                  refine wpd_p 2 rfl (by kernel_rfl) ⟨_, rfl, rfl⟩ (q_pure rfl) rfl sk0 ?_
                  refine wpd_p 3 rfl (by kernel_rfl) ⟨_, rfl, rfl⟩ (q_pure rfl) rfl sk0 ?_
                  refine wpd_p 4 rfl (by kernel_rfl) ⟨_, rfl, rfl⟩ (q_idxW1 Tryd.underlying34 Tryd.ti3 rfl rfl (by first | assumption | exact SV.nil | exact SV.slv (by assumption) (by omega) (by omega) | exact arv_sv (by first | decide | (simp only [maxLen]; omega))) (by first | omega | (simp only [maxLen]; omega) | (simp only [List.length_append, List.length_cons, List.length_nil, List.length_take, maxLen]; omega) | (simp only [List.length_append, List.length_cons, List.length_nil, List.length_take]; omega))) rfl sk0 ?_
                  refine wpd_q 5 rfl (by kernel_rfl) ⟨_, rfl, rfl⟩ (q_ldW Tryd.underlying3 rfl rfl (fun w h => by first | exact h.seenV | exact h.seenA (by first | decide | (simp only [maxLen]; omega)) (by first | with_reducible rfl | (simp only [v8s_length, v32s_length, vis_length, vns_length, v64s_length, List.length_replicate]; first | done | with_reducible assumption | omega) | (rw [v8s_length]; (first | with_reducible assumption | with_reducible exact shortF_length _ | with_reducible exact stepF_length _ _ _ | with_reducible exact sumF_length _ | with_reducible exact climbF_length _ (by first | with_reducible assumption | with_reducible exact shortF_length _ | with_reducible exact beginF_length _ _ | with_reducible exact getD_mem_len (by assumption) (by omega)) _ _ _ | with_reducible exact beginF_length _ _ | with_reducible exact chainF_length _ _ _ | with_reducible exact recF_length _ _ | with_reducible exact publicF_length _ | with_reducible exact getD_mem_len (by assumption) (by omega) | (with_reducible exact List.length_replicate))) | rfl) | exact h.seen_old (by assumption) | exact h.seen_oldL (by assumption) (by assumption) | exact h.seen_fact (by repeat (first | exact List.mem_cons_self .. | apply List.mem_cons_of_mem))) (by first | exact vns_get (by first | decide | omega | (simp; omega) | (simp only [v8s_length, v32s_length, vis_length, vns_length, v64s_length]; omega)) | rfl)) rfl (fun _ h => h) ?_
                  refine wpd_p 6 rfl (by kernel_rfl) ⟨_, rfl, rfl⟩ (q_pure rfl) rfl sk0 ?_
                  refine wpd_p 7 rfl (by kernel_rfl) ⟨_, rfl, rfl⟩ (q_pure rfl) rfl sk0 ?_
                  refine wpd_p 8 rfl (by kernel_rfl) ⟨_, rfl, rfl⟩ (q_idxW1 Tryd.underlying34 Tryd.ti3 rfl rfl (by first | assumption | exact SV.nil | exact SV.slv (by assumption) (by omega) (by omega) | exact arv_sv (by first | decide | (simp only [maxLen]; omega))) (by first | omega | (simp only [maxLen]; omega) | (simp only [List.length_append, List.length_cons, List.length_nil, List.length_take, maxLen]; omega) | (simp only [List.length_append, List.length_cons, List.length_nil, List.length_take]; omega))) rfl sk0 ?_
                  refine wpd_q 9 rfl (by kernel_rfl) ⟨_, rfl, rfl⟩ (q_ldW Tryd.underlying3 rfl rfl (fun w h => by first | exact h.seenV | exact h.seenA (by first | decide | (simp only [maxLen]; omega)) (by first | with_reducible rfl | (simp only [v8s_length, v32s_length, vis_length, vns_length, v64s_length, List.length_replicate]; first | done | with_reducible assumption | omega) | (rw [v8s_length]; (first | with_reducible assumption | with_reducible exact shortF_length _ | with_reducible exact stepF_length _ _ _ | with_reducible exact sumF_length _ | with_reducible exact climbF_length _ (by first | with_reducible assumption | with_reducible exact shortF_length _ | with_reducible exact beginF_length _ _ | with_reducible exact getD_mem_len (by assumption) (by omega)) _ _ _ | with_reducible exact beginF_length _ _ | with_reducible exact chainF_length _ _ _ | with_reducible exact recF_length _ _ | with_reducible exact publicF_length _ | with_reducible exact getD_mem_len (by assumption) (by omega) | (with_reducible exact List.length_replicate))) | rfl) | exact h.seen_old (by assumption) | exact h.seen_oldL (by assumption) (by assumption) | exact h.seen_fact (by repeat (first | exact List.mem_cons_self .. | apply List.mem_cons_of_mem))) (by first | exact vns_get (by first | decide | omega | (simp; omega) | (simp only [v8s_length, v32s_length, vis_length, vns_length, v64s_length]; omega)) | rfl)) rfl (fun _ h => h) ?_
                  refine wpd_p 10 rfl (by kernel_rfl) ⟨_, rfl, rfl⟩ (q_pure rfl) rfl sk0 ?_
                  refine wpd_p 11 rfl (by kernel_rfl) trivial (q_pure rfl) rfl sk0 ?_
                  first | refine wpd_re 79 rfl (congrArg Value.bool (show _ = lessB (digsF (shortF ys)) (digsF (shortF xs)) (i + 1) by simp [lessB, hb69])) ?_ | skip
                  refine wpd_p 12 rfl (by kernel_rfl) trivial (q_pure rfl) rfl sk0 ?_
                  refine wpd_done (by kernel_rfl) ?_
                  refine ex_block ?_
                  refine ex_then ?_
                  refine wpc_region ?_
                  refine wpl_q (q_pure rfl) rfl ?_
                  refine wpl_q (q_addN (b := 1) rfl rfl (by first | omega | (simp only [maxLen]; omega) | (simp only [List.length_append, List.length_cons, List.length_nil, List.length_take, maxLen]; omega) | (simp only [List.length_append, List.length_cons, List.length_nil, List.length_take]; omega))) rfl ?_
                  refine wpl_q (q_pure rfl) rfl ?_
                  refine wpl_nil ?_
                  refine ex_again ⟨i + 1, by first | omega | assumption | decide | exact SV.nil | (simp; done) | (dsimp only; omega)⟩ ?_ ?_ ?_
                  · exact (by repeat (first | exact trivial | refine ⟨rfl, ?_⟩))
                  · exact fun w h => by first | exact h | exact h.sub (by repeat (first | exact Sub.nil | exact Sub.refl _ | with_reducible refine Sub.keep ?_ | refine Sub.drop ?_)) (by repeat (first | exact Sub.nil | exact Sub.refl _ | with_reducible refine Sub.keep ?_ | refine Sub.drop ?_))
                  · (show 35 - (i + 1) < 35 - i); omega
              ·
                refine wpd_p 2 rfl (by kernel_rfl) ⟨_, rfl, rfl⟩ (q_pure rfl) rfl sk0 ?_
                refine wpd_p 3 rfl (by kernel_rfl) ⟨_, rfl, rfl⟩ (q_pure rfl) rfl sk0 ?_
                refine wpd_p 4 rfl (by kernel_rfl) ⟨_, rfl, rfl⟩ (q_idxW1 Tryd.underlying34 Tryd.ti3 rfl rfl (by first | assumption | exact SV.nil | exact SV.slv (by assumption) (by omega) (by omega) | exact arv_sv (by first | decide | (simp only [maxLen]; omega))) (by first | omega | (simp only [maxLen]; omega) | (simp only [List.length_append, List.length_cons, List.length_nil, List.length_take, maxLen]; omega) | (simp only [List.length_append, List.length_cons, List.length_nil, List.length_take]; omega))) rfl sk0 ?_
                refine wpd_q 5 rfl (by kernel_rfl) ⟨_, rfl, rfl⟩ (q_ldW Tryd.underlying3 rfl rfl (fun w h => by first | exact h.seenV | exact h.seenA (by first | decide | (simp only [maxLen]; omega)) (by first | with_reducible rfl | (simp only [v8s_length, v32s_length, vis_length, vns_length, v64s_length, List.length_replicate]; first | done | with_reducible assumption | omega) | (rw [v8s_length]; (first | with_reducible assumption | with_reducible exact shortF_length _ | with_reducible exact stepF_length _ _ _ | with_reducible exact sumF_length _ | with_reducible exact climbF_length _ (by first | with_reducible assumption | with_reducible exact shortF_length _ | with_reducible exact beginF_length _ _ | with_reducible exact getD_mem_len (by assumption) (by omega)) _ _ _ | with_reducible exact beginF_length _ _ | with_reducible exact chainF_length _ _ _ | with_reducible exact recF_length _ _ | with_reducible exact publicF_length _ | with_reducible exact getD_mem_len (by assumption) (by omega) | (with_reducible exact List.length_replicate))) | rfl) | exact h.seen_old (by assumption) | exact h.seen_oldL (by assumption) (by assumption) | exact h.seen_fact (by repeat (first | exact List.mem_cons_self .. | apply List.mem_cons_of_mem))) (by first | exact vns_get (by first | decide | omega | (simp; omega) | (simp only [v8s_length, v32s_length, vis_length, vns_length, v64s_length]; omega)) | rfl)) rfl (fun _ h => h) ?_
                refine wpd_p 6 rfl (by kernel_rfl) ⟨_, rfl, rfl⟩ (q_pure rfl) rfl sk0 ?_
                refine wpd_p 7 rfl (by kernel_rfl) ⟨_, rfl, rfl⟩ (q_pure rfl) rfl sk0 ?_
                refine wpd_p 8 rfl (by kernel_rfl) ⟨_, rfl, rfl⟩ (q_idxW1 Tryd.underlying34 Tryd.ti3 rfl rfl (by first | assumption | exact SV.nil | exact SV.slv (by assumption) (by omega) (by omega) | exact arv_sv (by first | decide | (simp only [maxLen]; omega))) (by first | omega | (simp only [maxLen]; omega) | (simp only [List.length_append, List.length_cons, List.length_nil, List.length_take, maxLen]; omega) | (simp only [List.length_append, List.length_cons, List.length_nil, List.length_take]; omega))) rfl sk0 ?_
                refine wpd_q 9 rfl (by kernel_rfl) ⟨_, rfl, rfl⟩ (q_ldW Tryd.underlying3 rfl rfl (fun w h => by first | exact h.seenV | exact h.seenA (by first | decide | (simp only [maxLen]; omega)) (by first | with_reducible rfl | (simp only [v8s_length, v32s_length, vis_length, vns_length, v64s_length, List.length_replicate]; first | done | with_reducible assumption | omega) | (rw [v8s_length]; (first | with_reducible assumption | with_reducible exact shortF_length _ | with_reducible exact stepF_length _ _ _ | with_reducible exact sumF_length _ | with_reducible exact climbF_length _ (by first | with_reducible assumption | with_reducible exact shortF_length _ | with_reducible exact beginF_length _ _ | with_reducible exact getD_mem_len (by assumption) (by omega)) _ _ _ | with_reducible exact beginF_length _ _ | with_reducible exact chainF_length _ _ _ | with_reducible exact recF_length _ _ | with_reducible exact publicF_length _ | with_reducible exact getD_mem_len (by assumption) (by omega) | (with_reducible exact List.length_replicate))) | rfl) | exact h.seen_old (by assumption) | exact h.seen_oldL (by assumption) (by assumption) | exact h.seen_fact (by repeat (first | exact List.mem_cons_self .. | apply List.mem_cons_of_mem))) (by first | exact vns_get (by first | decide | omega | (simp; omega) | (simp only [v8s_length, v32s_length, vis_length, vns_length, v64s_length]; omega)) | rfl)) rfl (fun _ h => h) ?_
                refine wpd_p 10 rfl (by kernel_rfl) ⟨_, rfl, rfl⟩ (q_pure rfl) rfl sk0 ?_
                refine wpd_p 11 rfl (by kernel_rfl) trivial (q_pure rfl) rfl sk0 ?_
                first | refine wpd_re 67 rfl (congrArg Value.bool (show _ = lessB (digsF (shortF xs)) (digsF (shortF ys)) (i + 1) by simp [lessB, hb57])) ?_ | skip
                refine wpd_p 12 rfl (by kernel_rfl) trivial (q_pure rfl) rfl sk0 ?_
                refine wpd_done (by kernel_rfl) ?_
                refine ex_then ?_
                refine wpc_draw 13 (by kernel_rfl) (fun _ h => h.drew) ?_
                refine wpd_p 0 rfl (by kernel_rfl) trivial (q_pure rfl) rfl sk0 ?_
                refine wpd_p 1 rfl (by kernel_rfl) trivial (q_pure rfl) rfl sk0 ?_
                refine wpd_bool2 69 9 rfl rfl (fun hb69 => ?_) (fun hb69 => ?_)
                ·
                  refine wpd_off 2 rfl (by kernel_rfl) ⟨_, _, rfl, rfl, rfl⟩ rfl sk0 ?_
                  refine wpd_off 3 rfl (by kernel_rfl) ⟨_, _, rfl, rfl, rfl⟩ rfl sk0 ?_
                  refine wpd_off 4 rfl (by kernel_rfl) ⟨_, _, rfl, rfl, rfl⟩ rfl sk0 ?_
                  refine wpd_off 5 rfl (by kernel_rfl) ⟨_, _, rfl, rfl, rfl⟩ rfl sk0 ?_
                  refine wpd_off 6 rfl (by kernel_rfl) ⟨_, _, rfl, rfl, rfl⟩ rfl sk0 ?_
                  refine wpd_off 7 rfl (by kernel_rfl) ⟨_, _, rfl, rfl, rfl⟩ rfl sk0 ?_
                  refine wpd_off 8 rfl (by kernel_rfl) ⟨_, _, rfl, rfl, rfl⟩ rfl sk0 ?_
                  refine wpd_off 9 rfl (by kernel_rfl) ⟨_, _, rfl, rfl, rfl⟩ rfl sk0 ?_
                  refine wpd_off 10 rfl (by kernel_rfl) ⟨_, _, rfl, rfl, rfl⟩ rfl sk0 ?_
                  refine wpd_p 11 rfl (by kernel_rfl) trivial (q_pure rfl) rfl sk0 ?_
                  first | refine wpd_re 79 rfl (congrArg Value.bool (show _ = lessB (digsF (shortF ys)) (digsF (shortF xs)) (i + 1) by simp [lessB, hb69])) ?_ | skip
                  refine wpd_p 12 rfl (by kernel_rfl) trivial (q_pure rfl) rfl sk0 ?_
                  refine wpd_done (by kernel_rfl) ?_
                  refine ex_block ?_
                  refine ex_then ?_
                  refine wpc_region ?_
                  refine wpl_q (q_pure rfl) rfl ?_
                  refine wpl_q (q_addN (b := 1) rfl rfl (by first | omega | (simp only [maxLen]; omega) | (simp only [List.length_append, List.length_cons, List.length_nil, List.length_take, maxLen]; omega) | (simp only [List.length_append, List.length_cons, List.length_nil, List.length_take]; omega))) rfl ?_
                  refine wpl_q (q_pure rfl) rfl ?_
                  refine wpl_nil ?_
                  refine ex_again ⟨i + 1, by first | omega | assumption | decide | exact SV.nil | (simp; done) | (dsimp only; omega)⟩ ?_ ?_ ?_
                  · exact (by repeat (first | exact trivial | refine ⟨rfl, ?_⟩))
                  · exact fun w h => by first | exact h | exact h.sub (by repeat (first | exact Sub.nil | exact Sub.refl _ | with_reducible refine Sub.keep ?_ | refine Sub.drop ?_)) (by repeat (first | exact Sub.nil | exact Sub.refl _ | with_reducible refine Sub.keep ?_ | refine Sub.drop ?_))
                  · (show 35 - (i + 1) < 35 - i); omega
                ·
                  refine wpd_p 2 rfl (by kernel_rfl) ⟨_, rfl, rfl⟩ (q_pure rfl) rfl sk0 ?_
                  refine wpd_p 3 rfl (by kernel_rfl) ⟨_, rfl, rfl⟩ (q_pure rfl) rfl sk0 ?_
                  refine wpd_p 4 rfl (by kernel_rfl) ⟨_, rfl, rfl⟩ (q_idxW1 Tryd.underlying34 Tryd.ti3 rfl rfl (by first | assumption | exact SV.nil | exact SV.slv (by assumption) (by omega) (by omega) | exact arv_sv (by first | decide | (simp only [maxLen]; omega))) (by first | omega | (simp only [maxLen]; omega) | (simp only [List.length_append, List.length_cons, List.length_nil, List.length_take, maxLen]; omega) | (simp only [List.length_append, List.length_cons, List.length_nil, List.length_take]; omega))) rfl sk0 ?_
                  refine wpd_q 5 rfl (by kernel_rfl) ⟨_, rfl, rfl⟩ (q_ldW Tryd.underlying3 rfl rfl (fun w h => by first | exact h.seenV | exact h.seenA (by first | decide | (simp only [maxLen]; omega)) (by first | with_reducible rfl | (simp only [v8s_length, v32s_length, vis_length, vns_length, v64s_length, List.length_replicate]; first | done | with_reducible assumption | omega) | (rw [v8s_length]; (first | with_reducible assumption | with_reducible exact shortF_length _ | with_reducible exact stepF_length _ _ _ | with_reducible exact sumF_length _ | with_reducible exact climbF_length _ (by first | with_reducible assumption | with_reducible exact shortF_length _ | with_reducible exact beginF_length _ _ | with_reducible exact getD_mem_len (by assumption) (by omega)) _ _ _ | with_reducible exact beginF_length _ _ | with_reducible exact chainF_length _ _ _ | with_reducible exact recF_length _ _ | with_reducible exact publicF_length _ | with_reducible exact getD_mem_len (by assumption) (by omega) | (with_reducible exact List.length_replicate))) | rfl) | exact h.seen_old (by assumption) | exact h.seen_oldL (by assumption) (by assumption) | exact h.seen_fact (by repeat (first | exact List.mem_cons_self .. | apply List.mem_cons_of_mem))) (by first | exact vns_get (by first | decide | omega | (simp; omega) | (simp only [v8s_length, v32s_length, vis_length, vns_length, v64s_length]; omega)) | rfl)) rfl (fun _ h => h) ?_
                  refine wpd_p 6 rfl (by kernel_rfl) ⟨_, rfl, rfl⟩ (q_pure rfl) rfl sk0 ?_
                  refine wpd_p 7 rfl (by kernel_rfl) ⟨_, rfl, rfl⟩ (q_pure rfl) rfl sk0 ?_
                  refine wpd_p 8 rfl (by kernel_rfl) ⟨_, rfl, rfl⟩ (q_idxW1 Tryd.underlying34 Tryd.ti3 rfl rfl (by first | assumption | exact SV.nil | exact SV.slv (by assumption) (by omega) (by omega) | exact arv_sv (by first | decide | (simp only [maxLen]; omega))) (by first | omega | (simp only [maxLen]; omega) | (simp only [List.length_append, List.length_cons, List.length_nil, List.length_take, maxLen]; omega) | (simp only [List.length_append, List.length_cons, List.length_nil, List.length_take]; omega))) rfl sk0 ?_
                  refine wpd_q 9 rfl (by kernel_rfl) ⟨_, rfl, rfl⟩ (q_ldW Tryd.underlying3 rfl rfl (fun w h => by first | exact h.seenV | exact h.seenA (by first | decide | (simp only [maxLen]; omega)) (by first | with_reducible rfl | (simp only [v8s_length, v32s_length, vis_length, vns_length, v64s_length, List.length_replicate]; first | done | with_reducible assumption | omega) | (rw [v8s_length]; (first | with_reducible assumption | with_reducible exact shortF_length _ | with_reducible exact stepF_length _ _ _ | with_reducible exact sumF_length _ | with_reducible exact climbF_length _ (by first | with_reducible assumption | with_reducible exact shortF_length _ | with_reducible exact beginF_length _ _ | with_reducible exact getD_mem_len (by assumption) (by omega)) _ _ _ | with_reducible exact beginF_length _ _ | with_reducible exact chainF_length _ _ _ | with_reducible exact recF_length _ _ | with_reducible exact publicF_length _ | with_reducible exact getD_mem_len (by assumption) (by omega) | (with_reducible exact List.length_replicate))) | rfl) | exact h.seen_old (by assumption) | exact h.seen_oldL (by assumption) (by assumption) | exact h.seen_fact (by repeat (first | exact List.mem_cons_self .. | apply List.mem_cons_of_mem))) (by first | exact vns_get (by first | decide | omega | (simp; omega) | (simp only [v8s_length, v32s_length, vis_length, vns_length, v64s_length]; omega)) | rfl)) rfl (fun _ h => h) ?_
                  refine wpd_p 10 rfl (by kernel_rfl) ⟨_, rfl, rfl⟩ (q_pure rfl) rfl sk0 ?_
                  refine wpd_p 11 rfl (by kernel_rfl) trivial (q_pure rfl) rfl sk0 ?_
                  first | refine wpd_re 79 rfl (congrArg Value.bool (show _ = lessB (digsF (shortF ys)) (digsF (shortF xs)) (i + 1) by simp [lessB, hb69])) ?_ | skip
                  refine wpd_p 12 rfl (by kernel_rfl) trivial (q_pure rfl) rfl sk0 ?_
                  refine wpd_done (by kernel_rfl) ?_
                  refine ex_block ?_
                  refine ex_then ?_
                  refine wpc_region ?_
                  refine wpl_q (q_pure rfl) rfl ?_
                  refine wpl_q (q_addN (b := 1) rfl rfl (by first | omega | (simp only [maxLen]; omega) | (simp only [List.length_append, List.length_cons, List.length_nil, List.length_take, maxLen]; omega) | (simp only [List.length_append, List.length_cons, List.length_nil, List.length_take]; omega))) rfl ?_
                  refine wpl_q (q_pure rfl) rfl ?_
                  refine wpl_nil ?_
                  refine ex_again ⟨i + 1, by first | omega | assumption | decide | exact SV.nil | (simp; done) | (dsimp only; omega)⟩ ?_ ?_ ?_
                  · exact (by repeat (first | exact trivial | refine ⟨rfl, ?_⟩))
                  · exact fun w h => by first | exact h | exact h.sub (by repeat (first | exact Sub.nil | exact Sub.refl _ | with_reducible refine Sub.keep ?_ | refine Sub.drop ?_)) (by repeat (first | exact Sub.nil | exact Sub.refl _ | with_reducible refine Sub.keep ?_ | refine Sub.drop ?_))
                  · (show 35 - (i + 1) < 35 - i); omega
        ·
          simp only [decide_eq_false_iff_not] at hc41
          obtain rfl : i = 35 := by omega
          refine wpc_exit ?_
          refine ex_then_exit ?_
          refine ex_then_exit ?_
          refine ex_block_hit ?_
          refine ex_then ?_
          refine wpc_seq ?_
          refine wpc_region ?_
          refine wpl_q (q_pure rfl) rfl ?_
          refine wpl_t (t_pur Tryd.hb21 rfl fun w h => shortW _ _ w (by first | exact Seen.re8 h.seenV | exact Seen.reS h.seenV (by first | assumption | exact signF_all _ _ | exact sg_all _ _) (by decide) | exact Seen.reN h.seenV | exact h.seenV | exact h.seenA (by first | decide | (simp only [maxLen]; omega)) (by first | with_reducible rfl | (simp only [v8s_length, v32s_length, vis_length, vns_length, v64s_length, List.length_replicate]; first | done | with_reducible assumption | omega) | (rw [v8s_length]; (first | with_reducible assumption | with_reducible exact shortF_length _ | with_reducible exact stepF_length _ _ _ | with_reducible exact sumF_length _ | with_reducible exact climbF_length _ (by first | with_reducible assumption | with_reducible exact shortF_length _ | with_reducible exact beginF_length _ _ | with_reducible exact getD_mem_len (by assumption) (by omega)) _ _ _ | with_reducible exact beginF_length _ _ | with_reducible exact chainF_length _ _ _ | with_reducible exact recF_length _ _ | with_reducible exact publicF_length _ | with_reducible exact getD_mem_len (by assumption) (by omega) | (with_reducible exact List.length_replicate))) | rfl) | exact h.seen_old (by assumption) | exact h.seen_oldL (by assumption) (by assumption) | exact Seen.re8 (h.seen_fact (by repeat (first | exact List.mem_cons_self .. | apply List.mem_cons_of_mem))) | exact h.seen_fact (by repeat (first | exact List.mem_cons_self .. | apply List.mem_cons_of_mem))) (glob h hG)) rfl (fun b81 => ?_)
          refine wpl_q (q_pure rfl) rfl ?_
          refine wpl_t (t_pur Tryd.hb21 rfl fun w h => shortW _ _ w (by first | exact Seen.re8 h.seenV | exact Seen.reS h.seenV (by first | assumption | exact signF_all _ _ | exact sg_all _ _) (by decide) | exact Seen.reN h.seenV | exact h.seenV | exact h.seenA (by first | decide | (simp only [maxLen]; omega)) (by first | with_reducible rfl | (simp only [v8s_length, v32s_length, vis_length, vns_length, v64s_length, List.length_replicate]; first | done | with_reducible assumption | omega) | (rw [v8s_length]; (first | with_reducible assumption | with_reducible exact shortF_length _ | with_reducible exact stepF_length _ _ _ | with_reducible exact sumF_length _ | with_reducible exact climbF_length _ (by first | with_reducible assumption | with_reducible exact shortF_length _ | with_reducible exact beginF_length _ _ | with_reducible exact getD_mem_len (by assumption) (by omega)) _ _ _ | with_reducible exact beginF_length _ _ | with_reducible exact chainF_length _ _ _ | with_reducible exact recF_length _ _ | with_reducible exact publicF_length _ | with_reducible exact getD_mem_len (by assumption) (by omega) | (with_reducible exact List.length_replicate))) | rfl) | exact h.seen_old (by assumption) | exact h.seen_oldL (by assumption) (by assumption) | exact Seen.re8 (h.seen_fact (by repeat (first | exact List.mem_cons_self .. | apply List.mem_cons_of_mem))) | exact h.seen_fact (by repeat (first | exact List.mem_cons_self .. | apply List.mem_cons_of_mem))) (glob h hG)) rfl (fun b83 => ?_)
          refine wpl_q (q_ne8 eq8_25 (by kernel_rfl) rfl rfl (by first | (first | with_reducible assumption | with_reducible exact shortF_length _ | with_reducible exact stepF_length _ _ _ | with_reducible exact sumF_length _ | with_reducible exact climbF_length _ (by first | with_reducible assumption | with_reducible exact shortF_length _ | with_reducible exact beginF_length _ _ | with_reducible exact getD_mem_len (by assumption) (by omega)) _ _ _ | with_reducible exact beginF_length _ _ | with_reducible exact chainF_length _ _ _ | with_reducible exact recF_length _ _ | with_reducible exact publicF_length _ | with_reducible exact getD_mem_len (by assumption) (by omega) | (with_reducible exact List.length_replicate)) | simp) (by first | (first | with_reducible assumption | with_reducible exact shortF_length _ | with_reducible exact stepF_length _ _ _ | with_reducible exact sumF_length _ | with_reducible exact climbF_length _ (by first | with_reducible assumption | with_reducible exact shortF_length _ | with_reducible exact beginF_length _ _ | with_reducible exact getD_mem_len (by assumption) (by omega)) _ _ _ | with_reducible exact beginF_length _ _ | with_reducible exact chainF_length _ _ _ | with_reducible exact recF_length _ _ | with_reducible exact publicF_length _ | with_reducible exact getD_mem_len (by assumption) (by omega) | (with_reducible exact List.length_replicate)) | simp)) rfl ?_
          refine wpl_q (q_pure rfl) rfl ?_
          refine wpl_nil ?_
          refine ex_then ?_
          refine wpc_seq ?_
          refine wpc_region ?_
          refine wpl_q (q_pure rfl) rfl ?_
          refine wpl_q (q_pure rfl) rfl ?_
          refine wpl_on rfl rfl ?_
          refine wpl_q (q_pure rfl) rfl ?_
          refine wpl_on rfl rfl ?_
          refine wpl_q (q_pure rfl) rfl ?_
          refine wpl_on rfl rfl ?_
          refine wpl_q (q_bt (q_beq Tryd.underlying4 rfl rfl) (guard_eq _ _ (shortF_length _) (shortF_length _))) rfl ?_
          refine wpl_q (q_pure rfl) rfl ?_
          refine wpl_q (q_pure rfl) rfl ?_
          refine wpl_on rfl rfl ?_
          refine wpl_q (q_pure rfl) rfl ?_
          refine wpl_on rfl rfl ?_
          refine wpl_q (q_pure rfl) rfl ?_
          refine wpl_on rfl rfl ?_
          refine wpl_q (q_bt (q_beq Tryd.underlying4 rfl rfl) (guard_eq2 _ _ (shortF_length _) (shortF_length _))) rfl ?_
          refine wpl_q (q_pure rfl) rfl ?_
          refine wpl_q (q_pure rfl) rfl ?_
          refine wpl_nil ?_
          refine ex_then ?_
          refine wpc_ret ?_
          refine ret1 (.inl rfl) rfl rfl ?_
          exact fun w h => ⟨rfl, h.below⟩

end Go.Proofs.YtfppaagdnpoemaaDoor
