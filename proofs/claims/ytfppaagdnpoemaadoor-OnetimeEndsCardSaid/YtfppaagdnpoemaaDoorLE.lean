/- The law OnetimeEnds. -/
import Derived.Test.YtfppaagdnpoemaaDoorLB
import Derived.Test.YtfppaagdnpoemaaDoorPLU
namespace Go.Proofs.YtfppaagdnpoemaaDoor
set_option linter.unusedSimpArgs false
set_option linter.unusedVariables false
open Go Go.PL Go.RowKit
set_option maxRecDepth 100000 in
theorem lawEnds (bv : Value) (bs : List UInt8) (cv : Value) (chs : List (List UInt8)) (w : World) (hbv : Seen w.cell? bv bs.length 1 (v8s bs)) (hcv : Seen w.cell? cv chs.length 16 (v8s chs.flatten)) (hlchs : ∀ x ∈ chs, x.length = 16) (hG : Glb w) :
    Calls Tryd.prog 9 [bv, cv].toArray w (Pur w (.bool true)) := by
  have sbv := hbv.sv
  have lbv := sbv.le
  simp only [maxLen] at lbv
  have scv := hcv.sv
  have lcv := scv.le
  simp only [maxLen] at lcv
  have hdl := digsF_length (shortF bs)
  refine enter (m := 99) (R := Mem w [] [] []) Tryd.func9 rfl rfl (Nat.le_of_ble_eq_true rfl) (Mem.start w) ?_
  refine wpc_seq ?_
  refine wpc_region ?_
  refine wpl_q (q_pure rfl) rfl ?_
  refine wpl_nil ?_
  refine ex_then ?_
  refine wpc_seq ?_
  refine wpc_region ?_
  refine wpl_t (t_pur Tryd.hb22 rfl fun w h => alive w (glob h hG)) rfl (fun b12 => ?_)
  refine wpl_q (q_pure rfl) rfl ?_
  refine wpl_nil ?_
  refine ex_then ?_
  refine wpc_seq ?_
  refine wpc_seq ?_
  refine wpc_region ?_
  refine wpl_q (q_pure rfl) rfl ?_
  refine wpl_q (q_lenW Tryd.underlying22 rfl (by first | assumption | exact SV.nil | exact SV.slv (by assumption) (by omega) (by omega) | exact arv_sv (by first | decide | (simp only [maxLen]; omega)))) rfl ?_
  refine wpl_q (q_pure rfl) rfl ?_
  refine wpl_q (q_pure rfl) rfl ?_
  refine wpl_bool2 16 15 rfl rfl (fun hb16 => ?_) (fun hb16 => ?_)
  ·
    try simp only [decide_eq_true_eq, decide_eq_false_iff_not, Bool.and_eq_true, Bool.or_eq_true, beq_iff_eq, bne_iff_ne, ne_eq, Bool.not_eq_true', Bool.not_eq_false', Decidable.not_not] at hb16
    refine wpl_off rfl rfl rfl rfl ?_
    refine wpl_off rfl rfl rfl rfl ?_
    refine wpl_off rfl rfl rfl rfl ?_
    refine wpl_q (q_pure rfl) rfl ?_
    refine wpl_q (q_pure rfl) rfl ?_
    refine wpl_off rfl rfl rfl rfl ?_
    refine wpl_off rfl rfl rfl rfl ?_
    refine wpl_q (q_pure rfl) rfl ?_
    refine wpl_nil ?_
    refine ex_then ?_
    refine wpc_cond_t rfl ?_
    refine wpc_seq ?_
    refine wpc_region ?_
    refine wpl_q (q_pure rfl) rfl ?_
    refine wpl_q (q_pure rfl) rfl ?_
    refine wpl_nil ?_
    refine ex_then ?_
    refine wpc_ret ?_
    refine ex_then_ret ?_
    refine ret1 (.inl rfl) rfl rfl ?_
    exact fun w h => ⟨rfl, h.below⟩
  ·
    try simp only [decide_eq_true_eq, decide_eq_false_iff_not, Bool.and_eq_true, Bool.or_eq_true, beq_iff_eq, bne_iff_ne, ne_eq, Bool.not_eq_true', Bool.not_eq_false', Decidable.not_not] at hb16
    refine wpl_on rfl rfl ?_
    refine wpl_q (q_pure rfl) rfl ?_
    refine wpl_on rfl rfl ?_
    refine wpl_q (q_lenW Tryd.underlying23 rfl (by first | assumption | exact SV.nil | exact SV.slv (by assumption) (by omega) (by omega) | exact arv_sv (by first | decide | (simp only [maxLen]; omega)))) rfl ?_
    refine wpl_on rfl rfl ?_
    refine wpl_q (q_pure rfl) rfl ?_
    refine wpl_q (q_pure rfl) rfl ?_
    refine wpl_q (q_pure rfl) rfl ?_
    refine wpl_bool2 21 19 rfl rfl (fun hb21 => ?_) (fun hb21 => ?_)
    ·
      try simp only [decide_eq_true_eq, decide_eq_false_iff_not, Bool.and_eq_true, Bool.or_eq_true, beq_iff_eq, bne_iff_ne, ne_eq, Bool.not_eq_true', Bool.not_eq_false', Decidable.not_not] at hb21
      refine wpl_off rfl rfl rfl rfl ?_
      refine wpl_off rfl rfl rfl rfl ?_
      refine wpl_q (q_pure rfl) rfl ?_
      refine wpl_nil ?_
      refine ex_then ?_
      refine wpc_cond_t rfl ?_
      refine wpc_seq ?_
      refine wpc_region ?_
      refine wpl_q (q_pure rfl) rfl ?_
      refine wpl_q (q_pure rfl) rfl ?_
      refine wpl_nil ?_
      refine ex_then ?_
      refine wpc_ret ?_
      refine ex_then_ret ?_
      refine ret1 (.inl rfl) rfl rfl ?_
      exact fun w h => ⟨rfl, h.below⟩
    ·
      try simp only [decide_eq_true_eq, decide_eq_false_iff_not, Bool.and_eq_true, Bool.or_eq_true, beq_iff_eq, bne_iff_ne, ne_eq, Bool.not_eq_true', Bool.not_eq_false', Decidable.not_not] at hb21
      refine wpl_on rfl rfl ?_
      refine wpl_q (q_pure rfl) rfl ?_
      refine wpl_on rfl rfl ?_
      refine wpl_q (q_pure rfl) rfl ?_
      refine wpl_q (q_pure rfl) rfl ?_
      refine wpl_nil ?_
      refine ex_then ?_
      refine wpc_cond_f rfl ?_
      refine wpc_skip ?_
      refine ex_then ?_
      refine wpc_seq ?_
      refine wpc_region ?_
      refine wpl_q (q_pure rfl) rfl ?_
      refine wpl_q (q_pure rfl) rfl ?_
      refine wpl_t (t_pur Tryd.hb10 rfl fun w h => recover _ _ _ _ w (by first | exact Seen.re8 h.seenV | exact Seen.reS h.seenV (by first | assumption | exact signF_all _ _ | exact sg_all _ _) (by decide) | exact Seen.reN h.seenV | exact h.seenV | exact h.seenA (by first | decide | (simp only [maxLen]; omega)) (by first | with_reducible rfl | (simp only [v8s_length, v32s_length, vis_length, vns_length, v64s_length, List.length_replicate]; first | done | with_reducible assumption | omega) | (rw [v8s_length]; (first | with_reducible assumption | with_reducible exact shortF_length _ | with_reducible exact stepF_length _ _ _ | with_reducible exact sumF_length _ | with_reducible exact climbF_length _ (by first | with_reducible assumption | with_reducible exact shortF_length _ | with_reducible exact beginF_length _ _ | with_reducible exact getD_mem_len (by assumption) (by omega)) _ _ _ | with_reducible exact beginF_length _ _ | with_reducible exact chainF_length _ _ _ | with_reducible exact recF_length _ _ | with_reducible exact publicF_length _ | with_reducible exact getD_mem_len (by assumption) (by omega) | (with_reducible exact List.length_replicate))) | rfl) | exact h.seen_old (by assumption) | exact h.seen_oldL (by assumption) (by assumption) | exact Seen.re8 (h.seen_fact (by repeat (first | exact List.mem_cons_self .. | apply List.mem_cons_of_mem))) | exact h.seen_fact (by repeat (first | exact List.mem_cons_self .. | apply List.mem_cons_of_mem))) (by first | exact Seen.re8 h.seenV | exact Seen.reS h.seenV (by first | assumption | exact signF_all _ _ | exact sg_all _ _) (by decide) | exact Seen.reN h.seenV | exact h.seenV | exact h.seenA (by first | decide | (simp only [maxLen]; omega)) (by first | with_reducible rfl | (simp only [v8s_length, v32s_length, vis_length, vns_length, v64s_length, List.length_replicate]; first | done | with_reducible assumption | omega) | (rw [v8s_length]; (first | with_reducible assumption | with_reducible exact shortF_length _ | with_reducible exact stepF_length _ _ _ | with_reducible exact sumF_length _ | with_reducible exact climbF_length _ (by first | with_reducible assumption | with_reducible exact shortF_length _ | with_reducible exact beginF_length _ _ | with_reducible exact getD_mem_len (by assumption) (by omega)) _ _ _ | with_reducible exact beginF_length _ _ | with_reducible exact chainF_length _ _ _ | with_reducible exact recF_length _ _ | with_reducible exact publicF_length _ | with_reducible exact getD_mem_len (by assumption) (by omega) | (with_reducible exact List.length_replicate))) | rfl) | exact h.seen_old (by assumption) | exact h.seen_oldL (by assumption) (by assumption) | exact Seen.re8 (h.seen_fact (by repeat (first | exact List.mem_cons_self .. | apply List.mem_cons_of_mem))) | exact h.seen_fact (by repeat (first | exact List.mem_cons_self .. | apply List.mem_cons_of_mem))) (by first | assumption | exact signF_all _ _ | exact sg_all _ _) (glob h hG)) rfl (fun b29 => ?_)
      refine wpl_q (q_pure rfl) rfl ?_
      refine wpl_q (q_pure rfl) rfl ?_
      refine wpl_q (q_pure rfl) rfl ?_
      refine wpl_t (t_alloc Tryd.ti25 (v8s (List.replicate 16 0)) (by rfl)) rfl (fun b6 => ?_)
      refine wpl_t0 (t_stA Tryd.ti25 rfl rfl (by first | with_reducible rfl | (simp only [v8s_length, v32s_length, vis_length, vns_length, v64s_length, List.length_replicate]; first | done | with_reducible assumption | omega) | (rw [v8s_length]; (first | with_reducible assumption | with_reducible exact shortF_length _ | with_reducible exact stepF_length _ _ _ | with_reducible exact sumF_length _ | with_reducible exact climbF_length _ (by first | with_reducible assumption | with_reducible exact shortF_length _ | with_reducible exact beginF_length _ _ | with_reducible exact getD_mem_len (by assumption) (by omega)) _ _ _ | with_reducible exact beginF_length _ _ | with_reducible exact chainF_length _ _ _ | with_reducible exact recF_length _ _ | with_reducible exact publicF_length _ | with_reducible exact getD_mem_len (by assumption) (by omega) | (with_reducible exact List.length_replicate))) | rfl) (v8s_one _) (by first | with_reducible rfl | (simp only [v8s_length, v32s_length, vis_length, vns_length, v64s_length, List.length_replicate]; first | done | with_reducible assumption | omega) | (rw [v8s_length]; (first | with_reducible assumption | with_reducible exact shortF_length _ | with_reducible exact stepF_length _ _ _ | with_reducible exact sumF_length _ | with_reducible exact climbF_length _ (by first | with_reducible assumption | with_reducible exact shortF_length _ | with_reducible exact beginF_length _ _ | with_reducible exact getD_mem_len (by assumption) (by omega)) _ _ _ | with_reducible exact beginF_length _ _ | with_reducible exact chainF_length _ _ _ | with_reducible exact recF_length _ _ | with_reducible exact publicF_length _ | with_reducible exact getD_mem_len (by assumption) (by omega) | (with_reducible exact List.length_replicate))) | rfl)) (fun _ => ?_)
      refine wpl_q (q_pure rfl) rfl ?_
      refine wpl_nil ?_
      refine ex_then ?_
      refine wpc_seq ?_
      refine wpc_region ?_
      refine wpl_q (q_pure rfl) rfl ?_
      refine wpl_tp (t_callP1 Tryd.hb14 rfl fun w h => digits _ _ w (by first | exact Seen.re8 h.seenV | exact Seen.reS h.seenV (by first | assumption | exact signF_all _ _ | exact sg_all _ _) (by decide) | exact Seen.reN h.seenV | exact h.seenV | exact h.seenA (by first | decide | (simp only [maxLen]; omega)) (by first | with_reducible rfl | (simp only [v8s_length, v32s_length, vis_length, vns_length, v64s_length, List.length_replicate]; first | done | with_reducible assumption | omega) | (rw [v8s_length]; (first | with_reducible assumption | with_reducible exact shortF_length _ | with_reducible exact stepF_length _ _ _ | with_reducible exact sumF_length _ | with_reducible exact climbF_length _ (by first | with_reducible assumption | with_reducible exact shortF_length _ | with_reducible exact beginF_length _ _ | with_reducible exact getD_mem_len (by assumption) (by omega)) _ _ _ | with_reducible exact beginF_length _ _ | with_reducible exact chainF_length _ _ _ | with_reducible exact recF_length _ _ | with_reducible exact publicF_length _ | with_reducible exact getD_mem_len (by assumption) (by omega) | (with_reducible exact List.length_replicate))) | rfl) | exact h.seen_old (by assumption) | exact h.seen_oldL (by assumption) (by assumption) | exact Seen.re8 (h.seen_fact (by repeat (first | exact List.mem_cons_self .. | apply List.mem_cons_of_mem))) | exact h.seen_fact (by repeat (first | exact List.mem_cons_self .. | apply List.mem_cons_of_mem))) (glob h hG)) rfl (fun b33 p33 => ?_)
      refine wpl_q (q_pure rfl) rfl ?_
      refine wpl_nil ?_
      refine ex_then ?_
      refine wpc_seq ?_
      refine wpc_seq ?_
      refine wpc_region ?_
      refine wpl_q (q_pure rfl) rfl ?_
      refine wpl_q (q_lenW Tryd.underlying34 rfl (by first | assumption | exact SV.nil | exact SV.slv (by assumption) (by omega) (by omega) | exact arv_sv (by first | decide | (simp only [maxLen]; omega)))) rfl ?_
      refine wpl_q (q_bt (q_neI rfl rfl) (bnot_false rfl)) rfl ?_
      refine wpl_q (q_pure rfl) rfl ?_
      refine wpl_on rfl rfl ?_
      refine wpl_q (q_pure rfl) rfl ?_
      refine wpl_on rfl rfl ?_
      refine wpl_q (q_lenW Tryd.underlying23 rfl (by first | assumption | exact SV.nil | exact SV.slv (by assumption) (by omega) (by omega) | exact arv_sv (by first | decide | (simp only [maxLen]; omega)))) rfl ?_
      refine wpl_on rfl rfl ?_
      refine wpl_q (q_pure rfl) rfl ?_
      refine wpl_q (q_pure rfl) rfl ?_
      refine wpl_nil ?_
      refine ex_then ?_
      refine wpc_cond rfl (fun hc41 => ?_) (fun hc41 => ?_)
      ·
        simp only [bne_iff_ne, ne_eq, decide_eq_true_eq] at hc41
        have hne : chs.length ≠ 35 := by omega
        have hr : recF bs chs = List.replicate 16 0 := if_neg hne
        have he : recEr chs = 12 := if_neg hne
        refine wpc_seq ?_
        refine wpc_region ?_
        refine wpl_q (q_pure rfl) rfl ?_
        refine wpl_q (q_pure rfl) rfl ?_
        refine wpl_on rfl rfl ?_
        refine wpl_q (q_pure rfl) rfl ?_
        refine wpl_on rfl rfl ?_
        refine wpl_q (q_lenW Tryd.underlying34 rfl (by first | assumption | exact SV.nil | exact SV.slv (by assumption) (by omega) (by omega) | exact arv_sv (by first | decide | (simp only [maxLen]; omega)))) rfl ?_
        refine wpl_on rfl rfl ?_
        refine wpl_q (q_tru (q_eqI rfl rfl) rfl) rfl ?_
        refine wpl_q (q_pure rfl) rfl ?_
        refine wpl_q (q_pure rfl) rfl ?_
        refine wpl_on rfl rfl ?_
        refine wpl_q (q_pure rfl) rfl ?_
        refine wpl_on rfl rfl ?_
        refine wpl_q (q_tru (q_eqI rfl rfl) he) rfl ?_
        refine wpl_q (q_pure rfl) rfl ?_
        refine wpl_q (q_pure rfl) rfl ?_
        refine wpl_on rfl rfl ?_
        refine wpl_q (q_ldN Tryd.underlying25 rfl Tryd.ti25 rfl (by first | with_reducible rfl | (simp only [v8s_length, v32s_length, vis_length, vns_length, v64s_length, List.length_replicate]; first | done | with_reducible assumption | omega) | (rw [v8s_length]; (first | with_reducible assumption | with_reducible exact shortF_length _ | with_reducible exact stepF_length _ _ _ | with_reducible exact sumF_length _ | with_reducible exact climbF_length _ (by first | with_reducible assumption | with_reducible exact shortF_length _ | with_reducible exact beginF_length _ _ | with_reducible exact getD_mem_len (by assumption) (by omega)) _ _ _ | with_reducible exact beginF_length _ _ | with_reducible exact chainF_length _ _ _ | with_reducible exact recF_length _ _ | with_reducible exact publicF_length _ | with_reducible exact getD_mem_len (by assumption) (by omega) | (with_reducible exact List.length_replicate))) | rfl)) rfl ?_
        refine wpl_on rfl rfl ?_
        refine wpl_q (q_build (cs := (v8s (List.replicate 16 0))) rfl (built_array Tryd.underlying25 Tryd.ti25 Tryd.ti5 rfl)) rfl ?_
        refine wpl_on rfl rfl ?_
        refine wpl_q (q_tru (q_eq8 eq8_25 (by kernel_rfl) rfl rfl (by first | (first | with_reducible assumption | with_reducible exact shortF_length _ | with_reducible exact stepF_length _ _ _ | with_reducible exact sumF_length _ | with_reducible exact climbF_length _ (by first | with_reducible assumption | with_reducible exact shortF_length _ | with_reducible exact beginF_length _ _ | with_reducible exact getD_mem_len (by assumption) (by omega)) _ _ _ | with_reducible exact beginF_length _ _ | with_reducible exact chainF_length _ _ _ | with_reducible exact recF_length _ _ | with_reducible exact publicF_length _ | with_reducible exact getD_mem_len (by assumption) (by omega) | (with_reducible exact List.length_replicate)) | simp) (by first | (first | with_reducible assumption | with_reducible exact shortF_length _ | with_reducible exact stepF_length _ _ _ | with_reducible exact sumF_length _ | with_reducible exact climbF_length _ (by first | with_reducible assumption | with_reducible exact shortF_length _ | with_reducible exact beginF_length _ _ | with_reducible exact getD_mem_len (by assumption) (by omega)) _ _ _ | with_reducible exact beginF_length _ _ | with_reducible exact chainF_length _ _ _ | with_reducible exact recF_length _ _ | with_reducible exact publicF_length _ | with_reducible exact getD_mem_len (by assumption) (by omega) | (with_reducible exact List.length_replicate)) | simp)) hr) rfl ?_
        refine wpl_q (q_pure rfl) rfl ?_
        refine wpl_q (q_pure rfl) rfl ?_
        refine wpl_nil ?_
        refine ex_then ?_
        refine wpc_ret ?_
        refine ex_then_ret ?_
        refine ret1 (.inl rfl) rfl rfl ?_
        exact fun w h => ⟨rfl, h.below⟩
      ·
        simp only [bne_eq_false_iff_eq, decide_eq_false_iff_not, ne_eq, Decidable.not_not] at hc41
        have heq : chs.length = 35 := by omega
        have hr : recF bs chs = shortF (accF (recE bs chs) 35) := if_pos heq
        have he : recEr chs = 0 := if_pos heq
        refine wpc_skip ?_
        refine ex_then ?_
        refine wpc_seq ?_
        refine wpc_region ?_
        refine wpl_q (q_pure rfl) rfl ?_
        refine wpl_nil ?_
        refine ex_then ?_
        refine wpc_seq ?_
        refine wpc_seq ?_
        refine wpc_region ?_
        refine wpl_q (q_pure rfl) rfl ?_
        refine wpl_nil ?_
        refine ex_then ?_
        refine wpc_block ?_
        refine wpc_loopc (ι := { x : Nat × Value // (x.1 ≤ 35) ∧ (SV x.2 (accF (recE bs chs) x.1).length) }) [(1, _), (5, _), (6, _), (7, _), (8, _)] (fun x Lc => (10, .int .i64 ((x.1.1 : Nat) : Int)) :: (9, x.1.2) :: Lc) (fun x => Mem w [] [.row x.1.2 (accF (recE bs chs) x.1.1).length 5 1 (v8s (accF (recE bs chs) x.1.1)), .row b33 35 3 1 (vns (digsF (shortF bs))), .blk b6 25 (v8s (recF bs chs))] []) (fun x => 35 - x.1.1) ⟨(0, .slice none 0 0), ⟨Nat.zero_le _, SV.nil⟩⟩ (by repeat (first | exact trivial | refine ⟨rfl, ?_⟩)) ?_ ?_
        · exact fun w h => h.nilRow 5 1
        · rintro ⟨⟨i, v⟩, ⟨hi0, hi1⟩⟩; try dsimp only
          have hi0 : i ≤ 35 := hi0; have hi1 : SV v (accF (recE bs chs) i).length := hi1
          have hg1 : (digsF (shortF bs)).getD i 0 ≤ 15 := dig_le bs i
          have hal : (accF (recE bs chs) i).length = 16 * i := accF_len16 (recE bs chs) 35 (fun i hi => recE_length bs chs hlchs i (by omega)) i hi0
          refine wpc_seq ?_
          refine wpc_seq ?_
          refine wpc_region ?_
          refine wpl_q (q_pure rfl) rfl ?_
          refine wpl_q (q_pure rfl) rfl ?_
          refine wpl_q (q_lenW Tryd.underlying34 rfl (by first | assumption | exact SV.nil | exact SV.slv (by assumption) (by omega) (by omega) | exact arv_sv (by first | decide | (simp only [maxLen]; omega)))) rfl ?_
          refine wpl_q (q_pure rfl) rfl ?_
          refine wpl_nil ?_
          refine ex_then ?_
          refine wpc_cond rfl (fun hc60 => ?_) (fun hc60 => ?_)
          ·
            simp only [decide_eq_true_eq] at hc60
            have hgl := getD_mem_len hlchs (i := i) (by omega)
            have hre := recE_length bs chs hlchs i (by omega)
            refine wpc_skip ?_
            refine ex_then ?_
            refine wpc_seq ?_
            refine wpc_block ?_
            refine wpc_seq ?_
            refine wpc_seq ?_
            refine wpc_region ?_
            refine wpl_q (q_pure rfl) rfl ?_
            refine wpl_q (q_pure rfl) rfl ?_
            refine wpl_q (q_idxW1 Tryd.underlying34 Tryd.ti3 rfl rfl (by first | assumption | exact SV.nil | exact SV.slv (by assumption) (by omega) (by omega) | exact arv_sv (by first | decide | (simp only [maxLen]; omega))) (by first | omega | (simp only [maxLen]; omega) | (simp only [List.length_append, List.length_cons, List.length_nil, List.length_take, maxLen]; omega) | (simp only [List.length_append, List.length_cons, List.length_nil, List.length_take]; omega))) rfl ?_
            refine wpl_q (q_ldW Tryd.underlying3 rfl rfl (fun w h => by first | exact h.seenV | exact h.seenA (by first | decide | (simp only [maxLen]; omega)) (by first | with_reducible rfl | (simp only [v8s_length, v32s_length, vis_length, vns_length, v64s_length, List.length_replicate]; first | done | with_reducible assumption | omega) | (rw [v8s_length]; (first | with_reducible assumption | with_reducible exact shortF_length _ | with_reducible exact stepF_length _ _ _ | with_reducible exact sumF_length _ | with_reducible exact climbF_length _ (by first | with_reducible assumption | with_reducible exact shortF_length _ | with_reducible exact beginF_length _ _ | with_reducible exact getD_mem_len (by assumption) (by omega)) _ _ _ | with_reducible exact beginF_length _ _ | with_reducible exact chainF_length _ _ _ | with_reducible exact recF_length _ _ | with_reducible exact publicF_length _ | with_reducible exact getD_mem_len (by assumption) (by omega) | (with_reducible exact List.length_replicate))) | rfl) | exact h.seen_old (by assumption) | exact h.seen_oldL (by assumption) (by assumption) | exact h.seen_fact (by repeat (first | exact List.mem_cons_self .. | apply List.mem_cons_of_mem))) (by first | exact vns_get (by first | decide | omega | (simp; omega) | (simp only [v8s_length, v32s_length, vis_length, vns_length, v64s_length]; omega)) | rfl)) rfl ?_
            refine wpl_q (q_pure rfl) rfl ?_
            refine wpl_q (q_pure rfl) rfl ?_
            refine wpl_bool2 68 67 rfl rfl (fun hb68 => ?_) (fun hb68 => ?_)
            ·
              simp only [decide_eq_true_eq] at hb68; omega
            ·
              try simp only [decide_eq_true_eq, decide_eq_false_iff_not, Bool.and_eq_true, Bool.or_eq_true, beq_iff_eq, bne_iff_ne, ne_eq, Bool.not_eq_true', Bool.not_eq_false', Decidable.not_not] at hb68
              refine wpl_on rfl rfl ?_
              refine wpl_q (q_pure rfl) rfl ?_
              refine wpl_on rfl rfl ?_
              refine wpl_q (q_pure rfl) rfl ?_
              refine wpl_on rfl rfl ?_
              refine wpl_q (q_idxW1 Tryd.underlying34 Tryd.ti3 rfl rfl (by first | assumption | exact SV.nil | exact SV.slv (by assumption) (by omega) (by omega) | exact arv_sv (by first | decide | (simp only [maxLen]; omega))) (by first | omega | (simp only [maxLen]; omega) | (simp only [List.length_append, List.length_cons, List.length_nil, List.length_take, maxLen]; omega) | (simp only [List.length_append, List.length_cons, List.length_nil, List.length_take]; omega))) rfl ?_
              refine wpl_on rfl rfl ?_
              refine wpl_q (q_ldW Tryd.underlying3 rfl rfl (fun w h => by first | exact h.seenV | exact h.seenA (by first | decide | (simp only [maxLen]; omega)) (by first | with_reducible rfl | (simp only [v8s_length, v32s_length, vis_length, vns_length, v64s_length, List.length_replicate]; first | done | with_reducible assumption | omega) | (rw [v8s_length]; (first | with_reducible assumption | with_reducible exact shortF_length _ | with_reducible exact stepF_length _ _ _ | with_reducible exact sumF_length _ | with_reducible exact climbF_length _ (by first | with_reducible assumption | with_reducible exact shortF_length _ | with_reducible exact beginF_length _ _ | with_reducible exact getD_mem_len (by assumption) (by omega)) _ _ _ | with_reducible exact beginF_length _ _ | with_reducible exact chainF_length _ _ _ | with_reducible exact recF_length _ _ | with_reducible exact publicF_length _ | with_reducible exact getD_mem_len (by assumption) (by omega) | (with_reducible exact List.length_replicate))) | rfl) | exact h.seen_old (by assumption) | exact h.seen_oldL (by assumption) (by assumption) | exact h.seen_fact (by repeat (first | exact List.mem_cons_self .. | apply List.mem_cons_of_mem))) (by first | exact vns_get (by first | decide | omega | (simp; omega) | (simp only [v8s_length, v32s_length, vis_length, vns_length, v64s_length]; omega)) | rfl)) rfl ?_
              refine wpl_on rfl rfl ?_
              refine wpl_q (q_pure rfl) rfl ?_
              refine wpl_q (q_pure rfl) rfl ?_
              refine wpl_nil ?_
              refine ex_then ?_
              refine wpc_cond rfl (fun hc74 => ?_) (fun hc74 => ?_)
              ·
                simp only [decide_eq_true_eq] at hc74; omega
              ·
                try simp only [decide_eq_true_eq, decide_eq_false_iff_not, Bool.and_eq_true, Bool.or_eq_true, beq_iff_eq, bne_iff_ne, ne_eq, Bool.not_eq_true', Bool.not_eq_false', Decidable.not_not] at hc74
                refine wpc_skip ?_
                refine ex_then ?_
                refine wpc_seq ?_
                refine wpc_draw 11 (by kernel_rfl) (fun _ h => h.drew) ?_
                refine wpd_p 0 rfl (by kernel_rfl) trivial (q_pure rfl) rfl sk0 ?_
                refine wpd_p 1 rfl (by kernel_rfl) trivial (q_pure rfl) rfl sk0 ?_
                refine wpd_p 2 rfl (by kernel_rfl) trivial (q_idxW Tryd.underlying23 Tryd.ti25 rfl rfl (by first | assumption | exact SV.nil | exact SV.slv (by assumption) (by omega) (by omega) | exact arv_sv (by first | decide | (simp only [maxLen]; omega))) (by first | omega | (simp only [maxLen]; omega) | (simp only [List.length_append, List.length_cons, List.length_nil, List.length_take, maxLen]; omega) | (simp only [List.length_append, List.length_cons, List.length_nil, List.length_take]; omega))) rfl sk0 ?_
                refine wpd_q 3 rfl (by kernel_rfl) trivial (q_ldWN Tryd.underlying25 rfl Tryd.ti25 rfl (fun w h => by first | exact h.seenV | exact h.seenA (by first | decide | (simp only [maxLen]; omega)) (by first | with_reducible rfl | (simp only [v8s_length, v32s_length, vis_length, vns_length, v64s_length, List.length_replicate]; first | done | with_reducible assumption | omega) | (rw [v8s_length]; (first | with_reducible assumption | with_reducible exact shortF_length _ | with_reducible exact stepF_length _ _ _ | with_reducible exact sumF_length _ | with_reducible exact climbF_length _ (by first | with_reducible assumption | with_reducible exact shortF_length _ | with_reducible exact beginF_length _ _ | with_reducible exact getD_mem_len (by assumption) (by omega)) _ _ _ | with_reducible exact beginF_length _ _ | with_reducible exact chainF_length _ _ _ | with_reducible exact recF_length _ _ | with_reducible exact publicF_length _ | with_reducible exact getD_mem_len (by assumption) (by omega) | (with_reducible exact List.length_replicate))) | rfl) | exact h.seen_old (by assumption) | exact h.seen_oldL (by assumption) (by assumption) | exact h.seen_fact (by repeat (first | exact List.mem_cons_self .. | apply List.mem_cons_of_mem))) (v8s (chs.getD i [])) (part8 hlchs (by omega)) ((v8s_length _).trans hgl)) rfl (fun _ h => h) ?_
                refine wpd_p 4 rfl (by kernel_rfl) trivial (q_pure rfl) rfl sk0 ?_
                refine wpd_p 5 rfl (by kernel_rfl) trivial (q_pure rfl) rfl sk0 ?_
                refine wpd_p 6 rfl (by kernel_rfl) trivial (q_pure rfl) rfl sk0 ?_
                refine wpd_p 7 rfl (by kernel_rfl) trivial (q_idxW1 Tryd.underlying34 Tryd.ti3 rfl rfl (by first | assumption | exact SV.nil | exact SV.slv (by assumption) (by omega) (by omega) | exact arv_sv (by first | decide | (simp only [maxLen]; omega))) (by first | omega | (simp only [maxLen]; omega) | (simp only [List.length_append, List.length_cons, List.length_nil, List.length_take, maxLen]; omega) | (simp only [List.length_append, List.length_cons, List.length_nil, List.length_take]; omega))) rfl sk0 ?_
                refine wpd_q 8 rfl (by kernel_rfl) trivial (q_ldW Tryd.underlying3 rfl rfl (fun w h => by first | exact h.seenV | exact h.seenA (by first | decide | (simp only [maxLen]; omega)) (by first | with_reducible rfl | (simp only [v8s_length, v32s_length, vis_length, vns_length, v64s_length, List.length_replicate]; first | done | with_reducible assumption | omega) | (rw [v8s_length]; (first | with_reducible assumption | with_reducible exact shortF_length _ | with_reducible exact stepF_length _ _ _ | with_reducible exact sumF_length _ | with_reducible exact climbF_length _ (by first | with_reducible assumption | with_reducible exact shortF_length _ | with_reducible exact beginF_length _ _ | with_reducible exact getD_mem_len (by assumption) (by omega)) _ _ _ | with_reducible exact beginF_length _ _ | with_reducible exact chainF_length _ _ _ | with_reducible exact recF_length _ _ | with_reducible exact publicF_length _ | with_reducible exact getD_mem_len (by assumption) (by omega) | (with_reducible exact List.length_replicate))) | rfl) | exact h.seen_old (by assumption) | exact h.seen_oldL (by assumption) (by assumption) | exact h.seen_fact (by repeat (first | exact List.mem_cons_self .. | apply List.mem_cons_of_mem))) (by first | exact vns_get (by first | decide | omega | (simp; omega) | (simp only [v8s_length, v32s_length, vis_length, vns_length, v64s_length]; omega)) | rfl)) rfl (fun _ h => h) ?_
                refine wpd_two 9 10 (by kernel_rfl) ?_ ?_
                ·
                  refine wpa_t 9 rfl trivial (t_pur Tryd.hb23 rfl fun w h => climbed _ _ _ 15 w (by (first | with_reducible assumption | with_reducible exact shortF_length _ | with_reducible exact stepF_length _ _ _ | with_reducible exact sumF_length _ | with_reducible exact climbF_length _ (by first | with_reducible assumption | with_reducible exact shortF_length _ | with_reducible exact beginF_length _ _ | with_reducible exact getD_mem_len (by assumption) (by omega)) _ _ _ | with_reducible exact beginF_length _ _ | with_reducible exact chainF_length _ _ _ | with_reducible exact recF_length _ _ | with_reducible exact publicF_length _ | with_reducible exact getD_mem_len (by assumption) (by omega) | (with_reducible exact List.length_replicate))) (glob h hG) (by omega) (by omega)) rfl (fun _ => sk0) (fun b84 => ?_)
                  refine wpd_t 10 rfl (by kernel_rfl) trivial (t_alloc Tryd.ti25 (v8s (List.replicate 16 0)) (by rfl)) rfl (fun _ => (fun w h => .inr (h.sub (by repeat (first | exact Sub.nil | exact Sub.refl _ | with_reducible refine Sub.keep ?_ | refine Sub.drop ?_)) (by repeat (first | exact Sub.nil | exact Sub.refl _ | with_reducible refine Sub.keep ?_ | refine Sub.drop ?_))))) (fun b11 => ?_)
                  refine wpd_t0 11 rfl (by kernel_rfl) trivial (t_stA Tryd.ti25 rfl rfl (by first | with_reducible rfl | (simp only [v8s_length, v32s_length, vis_length, vns_length, v64s_length, List.length_replicate]; first | done | with_reducible assumption | omega) | (rw [v8s_length]; (first | with_reducible assumption | with_reducible exact shortF_length _ | with_reducible exact stepF_length _ _ _ | with_reducible exact sumF_length _ | with_reducible exact climbF_length _ (by first | with_reducible assumption | with_reducible exact shortF_length _ | with_reducible exact beginF_length _ _ | with_reducible exact getD_mem_len (by assumption) (by omega)) _ _ _ | with_reducible exact beginF_length _ _ | with_reducible exact chainF_length _ _ _ | with_reducible exact recF_length _ _ | with_reducible exact publicF_length _ | with_reducible exact getD_mem_len (by assumption) (by omega) | (with_reducible exact List.length_replicate))) | rfl) (v8s_one _) (by first | with_reducible rfl | (simp only [v8s_length, v32s_length, vis_length, vns_length, v64s_length, List.length_replicate]; first | done | with_reducible assumption | omega) | (rw [v8s_length]; (first | with_reducible assumption | with_reducible exact shortF_length _ | with_reducible exact stepF_length _ _ _ | with_reducible exact sumF_length _ | with_reducible exact climbF_length _ (by first | with_reducible assumption | with_reducible exact shortF_length _ | with_reducible exact beginF_length _ _ | with_reducible exact getD_mem_len (by assumption) (by omega)) _ _ _ | with_reducible exact beginF_length _ _ | with_reducible exact chainF_length _ _ _ | with_reducible exact recF_length _ _ | with_reducible exact publicF_length _ | with_reducible exact getD_mem_len (by assumption) (by omega) | (with_reducible exact List.length_replicate))) | rfl)) (fun _ => skk rfl) (fun _ => ?_)
                  refine wpd_done (by kernel_rfl) ?_
                  refine ex_then ?_
                  refine wpc_region ?_
                  refine wpl_q (q_pure rfl) rfl ?_
                  refine wpl_q (q_arAll Tryd.underlying25 Tryd.ti5 rfl rfl) rfl ?_
                  refine wpl_tp (t_apW Tryd.underlying22 Tryd.ti5 rfl (by decide) rfl rfl (fun w h => by first | exact h.seenV | exact h.seenA (by first | decide | (simp only [maxLen]; omega)) (by first | with_reducible rfl | (simp only [v8s_length, v32s_length, vis_length, vns_length, v64s_length, List.length_replicate]; first | done | with_reducible assumption | omega) | (rw [v8s_length]; (first | with_reducible assumption | with_reducible exact shortF_length _ | with_reducible exact stepF_length _ _ _ | with_reducible exact sumF_length _ | with_reducible exact climbF_length _ (by first | with_reducible assumption | with_reducible exact shortF_length _ | with_reducible exact beginF_length _ _ | with_reducible exact getD_mem_len (by assumption) (by omega)) _ _ _ | with_reducible exact beginF_length _ _ | with_reducible exact chainF_length _ _ _ | with_reducible exact recF_length _ _ | with_reducible exact publicF_length _ | with_reducible exact getD_mem_len (by assumption) (by omega) | (with_reducible exact List.length_replicate))) | rfl) | exact h.seen_old (by assumption) | exact h.seen_oldL (by assumption) (by assumption) | exact h.seen_fact (by repeat (first | exact List.mem_cons_self .. | apply List.mem_cons_of_mem))) (v8s_one _) (by first | omega | (simp only [maxLen]; omega) | (simp only [List.length_append, List.length_cons, List.length_nil, List.length_take, maxLen]; omega) | (simp only [List.length_append, List.length_cons, List.length_nil, List.length_take]; omega)) (by first | omega | (simp only [maxLen]; omega) | (simp only [List.length_append, List.length_cons, List.length_nil, List.length_take, maxLen]; omega) | (simp only [List.length_append, List.length_cons, List.length_nil, List.length_take]; omega)) (v8s ((accF (recE bs chs) i) ++ recE bs chs i)) (by first | with_reducible exact List.nil_append _ | exact (v8s_append _ _).symm | exact (vis_append _ _).symm | exact (vns_append _ _).symm | exact (v64s_append _ _).symm | exact (v32s_append _ _).symm | rfl)) rfl (fun b87 p87 => ?_)
                  refine wpl_q (q_pure rfl) rfl ?_
                  refine wpl_nil ?_
                  refine ex_block ?_
                  refine ex_then ?_
                  refine wpc_region ?_
                  refine wpl_q (q_pure rfl) rfl ?_
                  refine wpl_q (q_addN (b := 1) rfl rfl (by first | omega | (simp only [maxLen]; omega) | (simp only [List.length_append, List.length_cons, List.length_nil, List.length_take, maxLen]; omega) | (simp only [List.length_append, List.length_cons, List.length_nil, List.length_take]; omega))) rfl ?_
                  refine wpl_q (q_pure rfl) rfl ?_
                  refine wpl_nil ?_
                  refine ex_again ⟨(i + 1, b87), ⟨by omega, by rw [accF, List.length_append, hre]; exact p87⟩⟩ ?_ ?_ ?_
                  · exact (by repeat (first | exact trivial | refine ⟨rfl, ?_⟩))
                  · exact fun w h => by
                      dsimp only
                      rw [accF, List.length_append, hre]
                      exact h.sub (by repeat (first | exact Sub.nil | exact Sub.refl _ | with_reducible refine Sub.keep ?_ | refine Sub.drop ?_)) (by repeat (first | exact Sub.nil | exact Sub.refl _ | with_reducible refine Sub.keep ?_ | refine Sub.drop ?_))
                  · (show 35 - (i + 1) < 35 - i); omega
                ·
                  refine wpa_t 10 rfl trivial (t_alloc Tryd.ti25 (v8s (List.replicate 16 0)) (by rfl)) rfl (fun _ => (fun w h => .inr (h.sub (by repeat (first | exact Sub.nil | exact Sub.refl _ | with_reducible refine Sub.keep ?_ | refine Sub.drop ?_)) (by repeat (first | exact Sub.nil | exact Sub.refl _ | with_reducible refine Sub.keep ?_ | refine Sub.drop ?_))))) (fun b11 => ?_)
                  refine wpd_t 9 rfl (by kernel_rfl) trivial (t_pur Tryd.hb23 rfl fun w h => climbed _ _ _ 15 w (by (first | with_reducible assumption | with_reducible exact shortF_length _ | with_reducible exact stepF_length _ _ _ | with_reducible exact sumF_length _ | with_reducible exact climbF_length _ (by first | with_reducible assumption | with_reducible exact shortF_length _ | with_reducible exact beginF_length _ _ | with_reducible exact getD_mem_len (by assumption) (by omega)) _ _ _ | with_reducible exact beginF_length _ _ | with_reducible exact chainF_length _ _ _ | with_reducible exact recF_length _ _ | with_reducible exact publicF_length _ | with_reducible exact getD_mem_len (by assumption) (by omega) | (with_reducible exact List.length_replicate))) (glob h hG) (by omega) (by omega)) rfl (fun _ => (fun w h => .inr (h.sub (by repeat (first | exact Sub.nil | exact Sub.refl _ | with_reducible refine Sub.keep ?_ | refine Sub.drop ?_)) (by repeat (first | exact Sub.nil | exact Sub.refl _ | with_reducible refine Sub.keep ?_ | refine Sub.drop ?_))))) (fun b84 => ?_)
                  refine wpd_t0 11 rfl (by kernel_rfl) trivial (t_stA Tryd.ti25 rfl rfl (by first | with_reducible rfl | (simp only [v8s_length, v32s_length, vis_length, vns_length, v64s_length, List.length_replicate]; first | done | with_reducible assumption | omega) | (rw [v8s_length]; (first | with_reducible assumption | with_reducible exact shortF_length _ | with_reducible exact stepF_length _ _ _ | with_reducible exact sumF_length _ | with_reducible exact climbF_length _ (by first | with_reducible assumption | with_reducible exact shortF_length _ | with_reducible exact beginF_length _ _ | with_reducible exact getD_mem_len (by assumption) (by omega)) _ _ _ | with_reducible exact beginF_length _ _ | with_reducible exact chainF_length _ _ _ | with_reducible exact recF_length _ _ | with_reducible exact publicF_length _ | with_reducible exact getD_mem_len (by assumption) (by omega) | (with_reducible exact List.length_replicate))) | rfl) (v8s_one _) (by first | with_reducible rfl | (simp only [v8s_length, v32s_length, vis_length, vns_length, v64s_length, List.length_replicate]; first | done | with_reducible assumption | omega) | (rw [v8s_length]; (first | with_reducible assumption | with_reducible exact shortF_length _ | with_reducible exact stepF_length _ _ _ | with_reducible exact sumF_length _ | with_reducible exact climbF_length _ (by first | with_reducible assumption | with_reducible exact shortF_length _ | with_reducible exact beginF_length _ _ | with_reducible exact getD_mem_len (by assumption) (by omega)) _ _ _ | with_reducible exact beginF_length _ _ | with_reducible exact chainF_length _ _ _ | with_reducible exact recF_length _ _ | with_reducible exact publicF_length _ | with_reducible exact getD_mem_len (by assumption) (by omega) | (with_reducible exact List.length_replicate))) | rfl)) (fun _ => skk rfl) (fun _ => ?_)
                  refine wpd_done (by kernel_rfl) ?_
                  refine ex_then ?_
                  refine wpc_region ?_
                  refine wpl_q (q_pure rfl) rfl ?_
                  refine wpl_q (q_arAll Tryd.underlying25 Tryd.ti5 rfl rfl) rfl ?_
                  refine wpl_tp (t_apW Tryd.underlying22 Tryd.ti5 rfl (by decide) rfl rfl (fun w h => by first | exact h.seenV | exact h.seenA (by first | decide | (simp only [maxLen]; omega)) (by first | with_reducible rfl | (simp only [v8s_length, v32s_length, vis_length, vns_length, v64s_length, List.length_replicate]; first | done | with_reducible assumption | omega) | (rw [v8s_length]; (first | with_reducible assumption | with_reducible exact shortF_length _ | with_reducible exact stepF_length _ _ _ | with_reducible exact sumF_length _ | with_reducible exact climbF_length _ (by first | with_reducible assumption | with_reducible exact shortF_length _ | with_reducible exact beginF_length _ _ | with_reducible exact getD_mem_len (by assumption) (by omega)) _ _ _ | with_reducible exact beginF_length _ _ | with_reducible exact chainF_length _ _ _ | with_reducible exact recF_length _ _ | with_reducible exact publicF_length _ | with_reducible exact getD_mem_len (by assumption) (by omega) | (with_reducible exact List.length_replicate))) | rfl) | exact h.seen_old (by assumption) | exact h.seen_oldL (by assumption) (by assumption) | exact h.seen_fact (by repeat (first | exact List.mem_cons_self .. | apply List.mem_cons_of_mem))) (v8s_one _) (by first | omega | (simp only [maxLen]; omega) | (simp only [List.length_append, List.length_cons, List.length_nil, List.length_take, maxLen]; omega) | (simp only [List.length_append, List.length_cons, List.length_nil, List.length_take]; omega)) (by first | omega | (simp only [maxLen]; omega) | (simp only [List.length_append, List.length_cons, List.length_nil, List.length_take, maxLen]; omega) | (simp only [List.length_append, List.length_cons, List.length_nil, List.length_take]; omega)) (v8s ((accF (recE bs chs) i) ++ recE bs chs i)) (by first | with_reducible exact List.nil_append _ | exact (v8s_append _ _).symm | exact (vis_append _ _).symm | exact (vns_append _ _).symm | exact (v64s_append _ _).symm | exact (v32s_append _ _).symm | rfl)) rfl (fun b87 p87 => ?_)
                  refine wpl_q (q_pure rfl) rfl ?_
                  refine wpl_nil ?_
                  refine ex_block ?_
                  refine ex_then ?_
                  refine wpc_region ?_
                  refine wpl_q (q_pure rfl) rfl ?_
                  refine wpl_q (q_addN (b := 1) rfl rfl (by first | omega | (simp only [maxLen]; omega) | (simp only [List.length_append, List.length_cons, List.length_nil, List.length_take, maxLen]; omega) | (simp only [List.length_append, List.length_cons, List.length_nil, List.length_take]; omega))) rfl ?_
                  refine wpl_q (q_pure rfl) rfl ?_
                  refine wpl_nil ?_
                  refine ex_again ⟨(i + 1, b87), ⟨by omega, by rw [accF, List.length_append, hre]; exact p87⟩⟩ ?_ ?_ ?_
                  · exact (by repeat (first | exact trivial | refine ⟨rfl, ?_⟩))
                  · exact fun w h => by
                      dsimp only
                      rw [accF, List.length_append, hre]
                      exact h.sub (by repeat (first | exact Sub.nil | exact Sub.refl _ | with_reducible refine Sub.keep ?_ | refine Sub.drop ?_)) (by repeat (first | exact Sub.nil | exact Sub.refl _ | with_reducible refine Sub.keep ?_ | refine Sub.drop ?_))
                  · (show 35 - (i + 1) < 35 - i); omega
          ·
            simp only [decide_eq_false_iff_not] at hc60
            obtain rfl : i = 35 := by omega
            refine wpc_exit ?_
            refine ex_then_exit ?_
            refine ex_then_exit ?_
            refine ex_block_hit ?_
            refine ex_then ?_
            refine wpc_seq ?_
            refine wpc_draw 12 (by kernel_rfl) (fun _ h => h.drew) ?_
            refine wpd_p 0 rfl (by kernel_rfl) trivial (q_pure rfl) rfl sk0 ?_
            refine wpd_p 1 rfl (by kernel_rfl) trivial (q_pure rfl) rfl sk0 ?_
            refine wpd_p 2 rfl (by kernel_rfl) ⟨_, rfl, rfl⟩ (q_pure rfl) rfl sk0 ?_
            refine wpd_p 3 rfl (by kernel_rfl) ⟨_, rfl, rfl⟩ (q_tru (q_eqI rfl rfl) he) rfl sk0 ?_
            refine wpd_p 4 rfl (by kernel_rfl) trivial (q_pure rfl) rfl sk0 ?_
            refine wpd_p 5 rfl (by kernel_rfl) trivial (q_pure rfl) rfl sk0 ?_
            refine wpd_q 6 rfl (by kernel_rfl) ⟨_, rfl, rfl⟩ (q_ldN Tryd.underlying25 rfl Tryd.ti25 rfl (by first | with_reducible rfl | (simp only [v8s_length, v32s_length, vis_length, vns_length, v64s_length, List.length_replicate]; first | done | with_reducible assumption | omega) | (rw [v8s_length]; (first | with_reducible assumption | with_reducible exact shortF_length _ | with_reducible exact stepF_length _ _ _ | with_reducible exact sumF_length _ | with_reducible exact climbF_length _ (by first | with_reducible assumption | with_reducible exact shortF_length _ | with_reducible exact beginF_length _ _ | with_reducible exact getD_mem_len (by assumption) (by omega)) _ _ _ | with_reducible exact beginF_length _ _ | with_reducible exact chainF_length _ _ _ | with_reducible exact recF_length _ _ | with_reducible exact publicF_length _ | with_reducible exact getD_mem_len (by assumption) (by omega) | (with_reducible exact List.length_replicate))) | rfl)) rfl (fun _ h => h) ?_
            refine wpd_p 7 rfl (by kernel_rfl) ⟨_, rfl, rfl⟩ (q_pure rfl) rfl sk0 ?_
            refine wpd_t 8 rfl (by kernel_rfl) ⟨_, rfl, rfl⟩ (t_pur Tryd.hb21 rfl fun w h => shortW _ _ w (by first | exact Seen.re8 h.seenV | exact Seen.reS h.seenV (by first | assumption | exact signF_all _ _ | exact sg_all _ _) (by decide) | exact Seen.reN h.seenV | exact h.seenV | exact h.seenA (by first | decide | (simp only [maxLen]; omega)) (by first | with_reducible rfl | (simp only [v8s_length, v32s_length, vis_length, vns_length, v64s_length, List.length_replicate]; first | done | with_reducible assumption | omega) | (rw [v8s_length]; (first | with_reducible assumption | with_reducible exact shortF_length _ | with_reducible exact stepF_length _ _ _ | with_reducible exact sumF_length _ | with_reducible exact climbF_length _ (by first | with_reducible assumption | with_reducible exact shortF_length _ | with_reducible exact beginF_length _ _ | with_reducible exact getD_mem_len (by assumption) (by omega)) _ _ _ | with_reducible exact beginF_length _ _ | with_reducible exact chainF_length _ _ _ | with_reducible exact recF_length _ _ | with_reducible exact publicF_length _ | with_reducible exact getD_mem_len (by assumption) (by omega) | (with_reducible exact List.length_replicate))) | rfl) | exact h.seen_old (by assumption) | exact h.seen_oldL (by assumption) (by assumption) | exact Seen.re8 (h.seen_fact (by repeat (first | exact List.mem_cons_self .. | apply List.mem_cons_of_mem))) | exact h.seen_fact (by repeat (first | exact List.mem_cons_self .. | apply List.mem_cons_of_mem))) (glob h hG)) rfl (fun _ => sk0) (fun b96 => ?_)
            refine wpd_p 9 rfl (by kernel_rfl) ⟨_, rfl, rfl⟩ (q_tru (q_eq8 eq8_25 (by kernel_rfl) rfl rfl (by first | (first | with_reducible assumption | with_reducible exact shortF_length _ | with_reducible exact stepF_length _ _ _ | with_reducible exact sumF_length _ | with_reducible exact climbF_length _ (by first | with_reducible assumption | with_reducible exact shortF_length _ | with_reducible exact beginF_length _ _ | with_reducible exact getD_mem_len (by assumption) (by omega)) _ _ _ | with_reducible exact beginF_length _ _ | with_reducible exact chainF_length _ _ _ | with_reducible exact recF_length _ _ | with_reducible exact publicF_length _ | with_reducible exact getD_mem_len (by assumption) (by omega) | (with_reducible exact List.length_replicate)) | simp) (by first | (first | with_reducible assumption | with_reducible exact shortF_length _ | with_reducible exact stepF_length _ _ _ | with_reducible exact sumF_length _ | with_reducible exact climbF_length _ (by first | with_reducible assumption | with_reducible exact shortF_length _ | with_reducible exact beginF_length _ _ | with_reducible exact getD_mem_len (by assumption) (by omega)) _ _ _ | with_reducible exact beginF_length _ _ | with_reducible exact chainF_length _ _ _ | with_reducible exact recF_length _ _ | with_reducible exact publicF_length _ | with_reducible exact getD_mem_len (by assumption) (by omega) | (with_reducible exact List.length_replicate)) | simp)) hr) rfl sk0 ?_
            refine wpd_p 10 rfl (by kernel_rfl) trivial (q_pure rfl) rfl sk0 ?_
            refine wpd_p 11 rfl (by kernel_rfl) trivial (q_pure rfl) rfl sk0 ?_
            refine wpd_done (by kernel_rfl) ?_
            refine ex_then ?_
            refine wpc_ret ?_
            refine ret1 (.inl rfl) rfl rfl ?_
            exact fun w h => ⟨rfl, h.below⟩

end Go.Proofs.YtfppaagdnpoemaaDoor
