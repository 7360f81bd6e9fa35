/- The law MerklePaths. -/
import Derived.Test.YtbkgfndojlhdoaaDoorMK
namespace Go.Proofs.YtbkgfndojlhdoaaDoor
set_option linter.unusedSimpArgs false
set_option linter.unusedVariables false
open Go Go.PL Go.RowKit
set_option maxRecDepth 100000 in
theorem lawPaths (ht : Int) (bv : Value) (bs : List UInt8) (cv pv : Value) (chs ps : List (List UInt8)) (idx : Int) (w : World) (hbv : Seen w.cell? bv bs.length 1 (v8s bs)) (hcv : Seen w.cell? cv chs.length 16 (v8s chs.flatten)) (hlchs : ∀ x ∈ chs, x.length = 16) (hpv : Seen w.cell? pv ps.length 16 (v8s ps.flatten)) (hlps : ∀ x ∈ ps, x.length = 16) (hG : Glb w) :
    Calls Tryd.prog 8 [.int .i64 ht, bv, .agg #[.int .i64 idx, cv, pv]].toArray w (Pur w (.bool true)) := by
  have sbv := hbv.sv
  have lbv := sbv.le
  simp only [maxLen] at lbv
  have scv := hcv.sv
  have lcv := scv.le
  simp only [maxLen] at lcv
  have spv := hpv.sv
  have lpv := spv.le
  simp only [maxLen] at lpv
  have hrl := rootF_length ht idx bs chs ps
  refine enter (m := 104) (R := Mem w [] [] []) Tryd.func8 rfl rfl (Nat.le_of_ble_eq_true rfl) (Mem.start w) ?_
  refine wpc_seq ?_
  refine wpc_region ?_
  refine wpl_t (t_box rfl [.int .i64 idx, cv, pv] rfl) rfl (fun b5 => ?_)
  refine wpl_q (q_pure rfl) rfl ?_
  refine wpl_nil ?_
  refine ex_then ?_
  refine wpc_seq ?_
  refine wpc_region ?_
  refine wpl_t (t_pur Tryd.hb26 rfl fun w h => alive w (glob h hG)) rfl (fun b16 => ?_)
  refine wpl_q (q_pure rfl) rfl ?_
  refine wpl_nil ?_
  refine ex_then ?_
  refine wpc_seq ?_
  refine wpc_seq ?_
  refine wpc_region ?_
  refine wpl_q (q_pure rfl) rfl ?_
  refine wpl_q (q_lenW Tryd.underlying26 rfl (by first | assumption | exact SV.nil | exact SV.slv (by assumption) (by omega) (by omega) | exact arv_sv (by first | decide | (simp only [maxLen]; omega)))) rfl ?_
  refine wpl_q (q_pure rfl) rfl ?_
  refine wpl_q (q_pure rfl) rfl ?_
  refine wpl_bool2 20 19 rfl rfl (fun hb20 => ?_) (fun hb20 => ?_)
  ·
    try simp only [decide_eq_true_eq, decide_eq_false_iff_not, Bool.and_eq_true, Bool.or_eq_true, beq_iff_eq, bne_iff_ne, ne_eq, Bool.not_eq_true', Bool.not_eq_false', Decidable.not_not] at hb20
    refine wpl_off rfl rfl rfl rfl ?_
    refine wpl_off rfl rfl rfl rfl ?_
    refine wpl_q (q_pure rfl) rfl ?_
    refine wpl_q (q_pure rfl) rfl ?_
    refine wpl_off rfl rfl rfl rfl ?_
    refine wpl_off rfl rfl rfl rfl ?_
    refine wpl_q (q_pure rfl) rfl ?_
    refine wpl_nil ?_
    refine ex_then ?_
    refine wpc_cond_t rfl ?_
    refine wpc_seq ?_
    refine wpc_region ?_
    refine wpl_q (q_pure rfl) rfl ?_
    refine wpl_q (q_pure rfl) rfl ?_
    refine wpl_nil ?_
    refine ex_then ?_
    refine wpc_ret ?_
    refine ex_then_ret ?_
    refine ret1 (.inl rfl) rfl rfl ?_
    exact fun w h => ⟨rfl, h.below⟩
  ·
    try simp only [decide_eq_true_eq, decide_eq_false_iff_not, Bool.and_eq_true, Bool.or_eq_true, beq_iff_eq, bne_iff_ne, ne_eq, Bool.not_eq_true', Bool.not_eq_false', Decidable.not_not] at hb20
    refine wpl_on rfl rfl ?_
    refine wpl_q (q_ldN Tryd.underlying29 rfl Tryd.ti29 rfl (by first | (with_reducible exact key_len _ _ (by (first | with_reducible assumption | exact L16.h))) | with_reducible rfl | (simp only [v8s_length, v32s_length, vis_length, vns_length, v64s_length, List.length_replicate]; first | done | with_reducible assumption | omega) | (rw [v8s_length]; (first | with_reducible assumption | exact L16.h)) | rfl)) rfl ?_
    refine wpl_on rfl rfl ?_
    refine wpl_t (t_pur Tryd.hb10 rfl fun w h => refGreat7 _ _ _ _ _ w (by first | exact Seen.re8 h.seenV | exact Seen.reS h.seenV (by first | assumption | exact signF_all _ _ | exact sg_all _ _ | exact sigC_all _ _ _ _ | exact sigP_all _ _ _ | exact pathF_all _ _ _) (by decide) | exact Seen.reN h.seenV | exact h.seenV | exact h.seenA (by first | decide | (simp only [maxLen]; omega)) (by first | (with_reducible exact key_len _ _ (by (first | with_reducible assumption | exact L16.h))) | with_reducible rfl | (simp only [v8s_length, v32s_length, vis_length, vns_length, v64s_length, List.length_replicate]; first | done | with_reducible assumption | omega) | (rw [v8s_length]; (first | with_reducible assumption | exact L16.h)) | rfl) | exact h.seen_old (by assumption) | exact h.seen_oldL (by assumption) (by assumption) | exact Seen.re8 (h.seen_fact (by repeat (first | exact List.mem_cons_self .. | apply List.mem_cons_of_mem))) | exact h.seen_fact (by repeat (first | exact List.mem_cons_self .. | apply List.mem_cons_of_mem))) (by first | assumption | exact signF_all _ _ | exact sg_all _ _ | exact sigC_all _ _ _ _ | exact sigP_all _ _ _ | exact pathF_all _ _ _) (by first | exact Seen.re8 h.seenV | exact Seen.reS h.seenV (by first | assumption | exact signF_all _ _ | exact sg_all _ _ | exact sigC_all _ _ _ _ | exact sigP_all _ _ _ | exact pathF_all _ _ _) (by decide) | exact Seen.reN h.seenV | exact h.seenV | exact h.seenA (by first | decide | (simp only [maxLen]; omega)) (by first | (with_reducible exact key_len _ _ (by (first | with_reducible assumption | exact L16.h))) | with_reducible rfl | (simp only [v8s_length, v32s_length, vis_length, vns_length, v64s_length, List.length_replicate]; first | done | with_reducible assumption | omega) | (rw [v8s_length]; (first | with_reducible assumption | exact L16.h)) | rfl) | exact h.seen_old (by assumption) | exact h.seen_oldL (by assumption) (by assumption) | exact Seen.re8 (h.seen_fact (by repeat (first | exact List.mem_cons_self .. | apply List.mem_cons_of_mem))) | exact h.seen_fact (by repeat (first | exact List.mem_cons_self .. | apply List.mem_cons_of_mem))) (by first | assumption | exact signF_all _ _ | exact sg_all _ _ | exact sigC_all _ _ _ _ | exact sigP_all _ _ _ | exact pathF_all _ _ _)) rfl (fun b22 => ?_)
    refine wpl_q (q_pure rfl) rfl ?_
    refine wpl_q (q_pure rfl) rfl ?_
    refine wpl_bool2 24 22 rfl rfl (fun hb24 => ?_) (fun hb24 => ?_)
    ·
      try simp only [decide_eq_true_eq, decide_eq_false_iff_not, Bool.and_eq_true, Bool.or_eq_true, beq_iff_eq, bne_iff_ne, ne_eq, Bool.not_eq_true', Bool.not_eq_false', Decidable.not_not] at hb24
      refine wpl_off rfl rfl rfl rfl ?_
      refine wpl_off rfl rfl rfl rfl ?_
      refine wpl_q (q_pure rfl) rfl ?_
      refine wpl_nil ?_
      refine ex_then ?_
      refine wpc_cond_t rfl ?_
      refine wpc_seq ?_
      refine wpc_region ?_
      refine wpl_q (q_pure rfl) rfl ?_
      refine wpl_q (q_pure rfl) rfl ?_
      refine wpl_nil ?_
      refine ex_then ?_
      refine wpc_ret ?_
      refine ex_then_ret ?_
      refine ret1 (.inl rfl) rfl rfl ?_
      exact fun w h => ⟨rfl, h.below⟩
    ·
      try simp only [decide_eq_true_eq, decide_eq_false_iff_not, Bool.and_eq_true, Bool.or_eq_true, beq_iff_eq, bne_iff_ne, ne_eq, Bool.not_eq_true', Bool.not_eq_false', Decidable.not_not] at hb24
      refine wpl_on rfl rfl ?_
      refine wpl_q (q_pure rfl) rfl ?_
      refine wpl_on rfl rfl ?_
      refine wpl_q (q_pure rfl) rfl ?_
      refine wpl_q (q_pure rfl) rfl ?_
      refine wpl_nil ?_
      refine ex_then ?_
      refine wpc_cond_f rfl ?_
      refine wpc_skip ?_
      refine ex_then ?_
      refine wpc_seq ?_
      refine wpc_region ?_
      refine wpl_q (q_pure rfl) rfl ?_
      refine wpl_q (q_pure rfl) rfl ?_
      refine wpl_q (q_ldN Tryd.underlying29 rfl Tryd.ti29 rfl (by first | (with_reducible exact key_len _ _ (by (first | with_reducible assumption | exact L16.h))) | with_reducible rfl | (simp only [v8s_length, v32s_length, vis_length, vns_length, v64s_length, List.length_replicate]; first | done | with_reducible assumption | omega) | (rw [v8s_length]; (first | with_reducible assumption | exact L16.h)) | rfl)) rfl ?_
      refine wpl_t (t_pur Tryd.hb12 rfl fun w h => root7 _ _ _ _ _ _ _ _ w (by first | exact Seen.re8 h.seenV | exact Seen.reS h.seenV (by first | assumption | exact signF_all _ _ | exact sg_all _ _ | exact sigC_all _ _ _ _ | exact sigP_all _ _ _ | exact pathF_all _ _ _) (by decide) | exact Seen.reN h.seenV | exact h.seenV | exact h.seenA (by first | decide | (simp only [maxLen]; omega)) (by first | (with_reducible exact key_len _ _ (by (first | with_reducible assumption | exact L16.h))) | with_reducible rfl | (simp only [v8s_length, v32s_length, vis_length, vns_length, v64s_length, List.length_replicate]; first | done | with_reducible assumption | omega) | (rw [v8s_length]; (first | with_reducible assumption | exact L16.h)) | rfl) | exact h.seen_old (by assumption) | exact h.seen_oldL (by assumption) (by assumption) | exact Seen.re8 (h.seen_fact (by repeat (first | exact List.mem_cons_self .. | apply List.mem_cons_of_mem))) | exact h.seen_fact (by repeat (first | exact List.mem_cons_self .. | apply List.mem_cons_of_mem))) (by first | exact Seen.re8 h.seenV | exact Seen.reS h.seenV (by first | assumption | exact signF_all _ _ | exact sg_all _ _ | exact sigC_all _ _ _ _ | exact sigP_all _ _ _ | exact pathF_all _ _ _) (by decide) | exact Seen.reN h.seenV | exact h.seenV | exact h.seenA (by first | decide | (simp only [maxLen]; omega)) (by first | (with_reducible exact key_len _ _ (by (first | with_reducible assumption | exact L16.h))) | with_reducible rfl | (simp only [v8s_length, v32s_length, vis_length, vns_length, v64s_length, List.length_replicate]; first | done | with_reducible assumption | omega) | (rw [v8s_length]; (first | with_reducible assumption | exact L16.h)) | rfl) | exact h.seen_old (by assumption) | exact h.seen_oldL (by assumption) (by assumption) | exact Seen.re8 (h.seen_fact (by repeat (first | exact List.mem_cons_self .. | apply List.mem_cons_of_mem))) | exact h.seen_fact (by repeat (first | exact List.mem_cons_self .. | apply List.mem_cons_of_mem))) (by first | assumption | exact signF_all _ _ | exact sg_all _ _ | exact sigC_all _ _ _ _ | exact sigP_all _ _ _ | exact pathF_all _ _ _) (by first | exact Seen.re8 h.seenV | exact Seen.reS h.seenV (by first | assumption | exact signF_all _ _ | exact sg_all _ _ | exact sigC_all _ _ _ _ | exact sigP_all _ _ _ | exact pathF_all _ _ _) (by decide) | exact Seen.reN h.seenV | exact h.seenV | exact h.seenA (by first | decide | (simp only [maxLen]; omega)) (by first | (with_reducible exact key_len _ _ (by (first | with_reducible assumption | exact L16.h))) | with_reducible rfl | (simp only [v8s_length, v32s_length, vis_length, vns_length, v64s_length, List.length_replicate]; first | done | with_reducible assumption | omega) | (rw [v8s_length]; (first | with_reducible assumption | exact L16.h)) | rfl) | exact h.seen_old (by assumption) | exact h.seen_oldL (by assumption) (by assumption) | exact Seen.re8 (h.seen_fact (by repeat (first | exact List.mem_cons_self .. | apply List.mem_cons_of_mem))) | exact h.seen_fact (by repeat (first | exact List.mem_cons_self .. | apply List.mem_cons_of_mem))) (by first | assumption | exact signF_all _ _ | exact sg_all _ _ | exact sigC_all _ _ _ _ | exact sigP_all _ _ _ | exact pathF_all _ _ _) (glob h hG)) rfl (fun b33 => ?_)
      refine wpl_q (q_pure rfl) rfl ?_
      refine wpl_q (q_pure rfl) rfl ?_
      refine wpl_q (q_pure rfl) rfl ?_
      refine wpl_t (t_alloc Tryd.ti23 (v8s (List.replicate 16 0)) (by rfl)) rfl (fun b8 => ?_)
      refine wpl_t0 (t_stA Tryd.ti23 rfl rfl (by first | (with_reducible exact key_len _ _ (by (first | with_reducible assumption | exact L16.h))) | with_reducible rfl | (simp only [v8s_length, v32s_length, vis_length, vns_length, v64s_length, List.length_replicate]; first | done | with_reducible assumption | omega) | (rw [v8s_length]; (first | with_reducible assumption | exact L16.h)) | rfl) (v8s_one _) (by first | (with_reducible exact key_len _ _ (by (first | with_reducible assumption | exact L16.h))) | with_reducible rfl | (simp only [v8s_length, v32s_length, vis_length, vns_length, v64s_length, List.length_replicate]; first | done | with_reducible assumption | omega) | (rw [v8s_length]; (first | with_reducible assumption | exact L16.h)) | rfl)) (fun _ => ?_)
      refine wpl_q (q_pure rfl) rfl ?_
      refine wpl_nil ?_
      refine ex_then ?_
      refine wpc_seq ?_
      refine wpc_region ?_
      refine wpl_q (q_pure rfl) rfl ?_
      refine wpl_q (q_ldN Tryd.underlying29 rfl Tryd.ti29 rfl (by first | (with_reducible exact key_len _ _ (by (first | with_reducible assumption | exact L16.h))) | with_reducible rfl | (simp only [v8s_length, v32s_length, vis_length, vns_length, v64s_length, List.length_replicate]; first | done | with_reducible assumption | omega) | (rw [v8s_length]; (first | with_reducible assumption | exact L16.h)) | rfl)) rfl ?_
      refine wpl_t (t_pur Tryd.hb14 rfl fun w h => check7 _ _ _ _ _ _ w (by first | exact Seen.re8 h.seenV | exact Seen.reS h.seenV (by first | assumption | exact signF_all _ _ | exact sg_all _ _ | exact sigC_all _ _ _ _ | exact sigP_all _ _ _ | exact pathF_all _ _ _) (by decide) | exact Seen.reN h.seenV | exact h.seenV | exact h.seenA (by first | decide | (simp only [maxLen]; omega)) (by first | (with_reducible exact key_len _ _ (by (first | with_reducible assumption | exact L16.h))) | with_reducible rfl | (simp only [v8s_length, v32s_length, vis_length, vns_length, v64s_length, List.length_replicate]; first | done | with_reducible assumption | omega) | (rw [v8s_length]; (first | with_reducible assumption | exact L16.h)) | rfl) | exact h.seen_old (by assumption) | exact h.seen_oldL (by assumption) (by assumption) | exact Seen.re8 (h.seen_fact (by repeat (first | exact List.mem_cons_self .. | apply List.mem_cons_of_mem))) | exact h.seen_fact (by repeat (first | exact List.mem_cons_self .. | apply List.mem_cons_of_mem))) (by first | assumption | exact signF_all _ _ | exact sg_all _ _ | exact sigC_all _ _ _ _ | exact sigP_all _ _ _ | exact pathF_all _ _ _) (by first | exact Seen.re8 h.seenV | exact Seen.reS h.seenV (by first | assumption | exact signF_all _ _ | exact sg_all _ _ | exact sigC_all _ _ _ _ | exact sigP_all _ _ _ | exact pathF_all _ _ _) (by decide) | exact Seen.reN h.seenV | exact h.seenV | exact h.seenA (by first | decide | (simp only [maxLen]; omega)) (by first | (with_reducible exact key_len _ _ (by (first | with_reducible assumption | exact L16.h))) | with_reducible rfl | (simp only [v8s_length, v32s_length, vis_length, vns_length, v64s_length, List.length_replicate]; first | done | with_reducible assumption | omega) | (rw [v8s_length]; (first | with_reducible assumption | exact L16.h)) | rfl) | exact h.seen_old (by assumption) | exact h.seen_oldL (by assumption) (by assumption) | exact Seen.re8 (h.seen_fact (by repeat (first | exact List.mem_cons_self .. | apply List.mem_cons_of_mem))) | exact h.seen_fact (by repeat (first | exact List.mem_cons_self .. | apply List.mem_cons_of_mem))) (by first | assumption | exact signF_all _ _ | exact sg_all _ _ | exact sigC_all _ _ _ _ | exact sigP_all _ _ _ | exact pathF_all _ _ _)) rfl (fun b38 => ?_)
      refine wpl_q (q_pure rfl) rfl ?_
      refine wpl_nil ?_
      refine ex_then ?_
      refine wpc_seq ?_
      refine wpc_region ?_
      refine wpl_q (q_pure rfl) rfl ?_
      refine wpl_q (q_field Tryd.underlying29 rfl Tryd.ti27 rfl rfl _ rfl) rfl ?_
      refine wpl_q (q_ld Tryd.underlying27 rfl rfl rfl) rfl ?_
      refine wpl_t (t_pur Tryd.hb27 rfl fun w h => recover _ _ _ _ w (by first | exact Seen.re8 h.seenV | exact Seen.reS h.seenV (by first | assumption | exact signF_all _ _ | exact sg_all _ _ | exact sigC_all _ _ _ _ | exact sigP_all _ _ _ | exact pathF_all _ _ _) (by decide) | exact Seen.reN h.seenV | exact h.seenV | exact h.seenA (by first | decide | (simp only [maxLen]; omega)) (by first | (with_reducible exact key_len _ _ (by (first | with_reducible assumption | exact L16.h))) | with_reducible rfl | (simp only [v8s_length, v32s_length, vis_length, vns_length, v64s_length, List.length_replicate]; first | done | with_reducible assumption | omega) | (rw [v8s_length]; (first | with_reducible assumption | exact L16.h)) | rfl) | exact h.seen_old (by assumption) | exact h.seen_oldL (by assumption) (by assumption) | exact Seen.re8 (h.seen_fact (by repeat (first | exact List.mem_cons_self .. | apply List.mem_cons_of_mem))) | exact h.seen_fact (by repeat (first | exact List.mem_cons_self .. | apply List.mem_cons_of_mem))) (by first | exact Seen.re8 h.seenV | exact Seen.reS h.seenV (by first | assumption | exact signF_all _ _ | exact sg_all _ _ | exact sigC_all _ _ _ _ | exact sigP_all _ _ _ | exact pathF_all _ _ _) (by decide) | exact Seen.reN h.seenV | exact h.seenV | exact h.seenA (by first | decide | (simp only [maxLen]; omega)) (by first | (with_reducible exact key_len _ _ (by (first | with_reducible assumption | exact L16.h))) | with_reducible rfl | (simp only [v8s_length, v32s_length, vis_length, vns_length, v64s_length, List.length_replicate]; first | done | with_reducible assumption | omega) | (rw [v8s_length]; (first | with_reducible assumption | exact L16.h)) | rfl) | exact h.seen_old (by assumption) | exact h.seen_oldL (by assumption) (by assumption) | exact Seen.re8 (h.seen_fact (by repeat (first | exact List.mem_cons_self .. | apply List.mem_cons_of_mem))) | exact h.seen_fact (by repeat (first | exact List.mem_cons_self .. | apply List.mem_cons_of_mem))) (by first | assumption | exact signF_all _ _ | exact sg_all _ _ | exact sigC_all _ _ _ _ | exact sigP_all _ _ _ | exact pathF_all _ _ _) (glob h hG)) rfl (fun b43 => ?_)
      refine wpl_q (q_pure rfl) rfl ?_
      refine wpl_q (q_pure rfl) rfl ?_
      refine wpl_q (q_pure rfl) rfl ?_
      refine wpl_t (t_alloc Tryd.ti23 (v8s (List.replicate 16 0)) (by rfl)) rfl (fun b11 => ?_)
      refine wpl_t0 (t_stA Tryd.ti23 rfl rfl (by first | (with_reducible exact key_len _ _ (by (first | with_reducible assumption | exact L16.h))) | with_reducible rfl | (simp only [v8s_length, v32s_length, vis_length, vns_length, v64s_length, List.length_replicate]; first | done | with_reducible assumption | omega) | (rw [v8s_length]; (first | with_reducible assumption | exact L16.h)) | rfl) (v8s_one _) (by first | (with_reducible exact key_len _ _ (by (first | with_reducible assumption | exact L16.h))) | with_reducible rfl | (simp only [v8s_length, v32s_length, vis_length, vns_length, v64s_length, List.length_replicate]; first | done | with_reducible assumption | omega) | (rw [v8s_length]; (first | with_reducible assumption | exact L16.h)) | rfl)) (fun _ => ?_)
      refine wpl_q (q_pure rfl) rfl ?_
      refine wpl_nil ?_
      refine ex_then ?_
      refine wpc_seq ?_
      refine wpc_seq ?_
      refine wpc_region ?_
      refine wpl_q (q_pure rfl) rfl ?_
      refine wpl_q (q_pure rfl) rfl ?_
      refine wpl_q (q_pure rfl) rfl ?_
      refine wpl_bool2 48 47 rfl rfl (fun hb48 => ?_) (fun hb48 => ?_)
      ·
        simp only [bne_iff_ne, ne_eq, decide_eq_true_eq] at hb48
        have hr : rootF ht idx bs chs ps = List.replicate 16 0 := if_neg hb48
        refine wpl_off rfl rfl rfl rfl ?_
        refine wpl_off rfl rfl rfl rfl ?_
        refine wpl_q (q_pure rfl) rfl ?_
        refine wpl_q (q_pure rfl) rfl ?_
        refine wpl_off rfl rfl rfl rfl ?_
        refine wpl_off rfl rfl rfl rfl ?_
        refine wpl_q (q_pure rfl) rfl ?_
        refine wpl_nil ?_
        refine ex_then ?_
        refine wpc_cond_t rfl ?_
        refine wpc_seq ?_
        refine wpc_region ?_
        refine wpl_q (q_pure rfl) rfl ?_
        refine wpl_q (q_pure rfl) rfl ?_
        refine wpl_on rfl rfl ?_
        refine wpl_q (q_pure rfl) rfl ?_
        refine wpl_on rfl rfl ?_
        refine wpl_q (q_pure rfl) rfl ?_
        refine wpl_on rfl rfl ?_
        refine wpl_q (q_tru (q_eqI rfl rfl) rfl) rfl ?_
        refine wpl_q (q_pure rfl) rfl ?_
        refine wpl_q (q_pure rfl) rfl ?_
        refine wpl_on rfl rfl ?_
        refine wpl_q (q_ldN Tryd.underlying23 rfl Tryd.ti23 rfl (by first | (with_reducible exact key_len _ _ (by (first | with_reducible assumption | exact L16.h))) | with_reducible rfl | (simp only [v8s_length, v32s_length, vis_length, vns_length, v64s_length, List.length_replicate]; first | done | with_reducible assumption | omega) | (rw [v8s_length]; (first | with_reducible assumption | exact L16.h)) | rfl)) rfl ?_
        refine wpl_on rfl rfl ?_
        refine wpl_q (q_build (cs := v8s (List.replicate 16 0)) rfl (built_array Tryd.underlying23 Tryd.ti23 Tryd.ti5 rfl)) rfl ?_
        refine wpl_on rfl rfl ?_
        refine wpl_q (q_tru (q_eq8 eq8_23 (by kernel_rfl) rfl rfl (by first | (first | with_reducible assumption | exact L16.h) | simp) (by first | (first | with_reducible assumption | exact L16.h) | simp)) hr) rfl ?_
        refine wpl_q (q_pure rfl) rfl ?_
        refine wpl_q (q_pure rfl) rfl ?_
        refine wpl_nil ?_
        refine ex_then ?_
        refine wpc_ret ?_
        refine ex_then_ret ?_
        refine ret1 (.inl rfl) rfl rfl ?_
        exact fun w h => ⟨rfl, h.below⟩
      ·
        simp only [bne_eq_false_iff_eq, decide_eq_false_iff_not, ne_eq, Decidable.not_not] at hb48
        obtain ⟨m, k, rfl, rfl, hm, hk, hcl, hpl⟩ := check_spec hb48
        have hpw := pow_le16 hm
        have hr : rootF (m : Int) (k : Int) bs chs ps = upF (recF bs chs) k ps ps.length := if_pos hb48
        have he : recEr chs = 0 := if_pos hcl
        refine wpl_on rfl rfl ?_
        refine wpl_q (q_pure rfl) rfl ?_
        refine wpl_on rfl rfl ?_
        refine wpl_q (q_bt (q_neI rfl rfl) (bnot_false hb48)) rfl ?_
        refine wpl_q (q_pure rfl) rfl ?_
        refine wpl_q (q_pure rfl) rfl ?_
        refine wpl_on rfl rfl ?_
        refine wpl_q (q_pure rfl) rfl ?_
        refine wpl_on rfl rfl ?_
        refine wpl_q (q_bt (q_neI rfl rfl) (bnot_false he)) rfl ?_
        refine wpl_q (q_pure rfl) rfl ?_
        refine wpl_nil ?_
        refine ex_then ?_
        refine wpc_cond_f rfl ?_
        refine wpc_skip ?_
        refine ex_then ?_
        refine wpc_seq ?_
        refine wpc_region ?_
        refine wpl_q (q_field Tryd.underlying29 rfl Tryd.ti3 rfl rfl _ rfl) rfl ?_
        refine wpl_q (q_ld Tryd.underlying3 rfl rfl (by first | exact vns_get (by first | decide | omega | exact Nat.zero_lt_one | (simp; omega) | (simp; done) | (simp only [v8s_length, v32s_length, vis_length, vns_length, v64s_length]; omega)) | rfl)) rfl ?_
        refine wpl_q (q_pure rfl) rfl ?_
        refine wpl_nil ?_
        refine ex_then ?_
        refine wpc_seq ?_
        refine wpc_seq ?_
        refine wpc_region ?_
        refine wpl_q (q_pure rfl) rfl ?_
        refine wpl_nil ?_
        refine ex_then ?_
        refine wpc_block ?_
        refine wpc_loopc (ι := { x : Nat × Nat // (x.1 ≤ ps.length) ∧ (x.2 = k / 2 ^ x.1) }) [(5, _), (7, _), (8, _), (11, _)] (fun x Lc => (14, .int .i64 ((x.1.1 : Nat) : Int)) :: (13, .int .i64 ((x.1.2 : Nat) : Int)) :: Lc) (fun x => Mem w [] [.blk b11 23 (v8s (upF (recF bs chs) k ps x.1.1)), .blk b8 23 (v8s (rootF (m : Int) (k : Int) bs chs ps)), .blk b5 29 [.int .i64 ((k : Nat) : Int), cv, pv]] []) (fun x => ps.length - x.1.1) ⟨(0, k), ⟨Nat.zero_le _, by rw [Nat.pow_zero, Nat.div_one]⟩⟩ (by repeat (first | exact trivial | refine ⟨rfl, ?_⟩)) ?_ ?_
        · exact fun w h => by
            dsimp only
            rw [show upF (recF bs chs) k ps 0 = recF bs chs from rfl]
            exact h.sub SubC.h SubC.h
        · rintro ⟨⟨i, j⟩, ⟨hi0, hi1⟩⟩; try dsimp only
          have hi0 : i ≤ ps.length := hi0; have hi1 : j = k / 2 ^ i := hi1
          have hul := upF_length (recF_length bs chs) k ps i
          have hkl : j ≤ 1000 := hi1 ▸ Nat.le_trans (Nat.div_le_self _ _) (by omega)
          refine wpc_seq ?_
          refine wpc_seq ?_
          refine wpc_region ?_
          refine wpl_q (q_pure rfl) rfl ?_
          refine wpl_q (q_field Tryd.underlying29 rfl Tryd.ti27 rfl rfl _ rfl) rfl ?_
          refine wpl_q (q_ld Tryd.underlying27 rfl rfl rfl) rfl ?_
          refine wpl_q (q_lenW Tryd.underlying27 rfl (by first | assumption | exact SV.nil | exact SV.slv (by assumption) (by omega) (by omega) | exact arv_sv (by first | decide | (simp only [maxLen]; omega)))) rfl ?_
          refine wpl_q (q_pure rfl) rfl ?_
          refine wpl_nil ?_
          refine ex_then ?_
          refine wpc_cond rfl (fun hc73 => ?_) (fun hc73 => ?_)
          ·
            simp only [decide_eq_true_eq] at hc73
            have hgl := getD_mem_len hlps (i := i) (by omega)
            refine wpc_skip ?_
            refine ex_then ?_
            refine wpc_seq ?_
            refine wpc_block ?_
            refine wpc_seq ?_
            refine wpc_region ?_
            refine wpl_q (q_field Tryd.underlying29 rfl Tryd.ti27 rfl rfl _ rfl) rfl ?_
            refine wpl_q (q_ld Tryd.underlying27 rfl rfl rfl) rfl ?_
            refine wpl_q (q_pure rfl) rfl ?_
            refine wpl_q (q_idxW Tryd.underlying27 Tryd.ti23 rfl rfl (by first | assumption | exact SV.nil | exact SV.slv (by assumption) (by omega) (by omega) | exact arv_sv (by first | decide | (simp only [maxLen]; omega))) (by first | omega | (simp only [maxLen]; omega) | (simp only [List.length_append, List.length_cons, List.length_nil, List.length_take, maxLen]; omega) | (simp only [List.length_append, List.length_cons, List.length_nil, List.length_take]; omega))) rfl ?_
            refine wpl_q (q_ldWN Tryd.underlying23 rfl Tryd.ti23 rfl (fun w h => by first | exact h.seenV | exact h.seenA (by first | decide | (simp only [maxLen]; omega)) (by first | (with_reducible exact key_len _ _ (by (first | with_reducible assumption | exact L16.h))) | with_reducible rfl | (simp only [v8s_length, v32s_length, vis_length, vns_length, v64s_length, List.length_replicate]; first | done | with_reducible assumption | omega) | (rw [v8s_length]; (first | with_reducible assumption | exact L16.h)) | rfl) | exact h.seen_old (by assumption) | exact h.seen_oldL (by assumption) (by assumption) | exact h.seen_fact (by repeat (first | exact List.mem_cons_self .. | apply List.mem_cons_of_mem))) (v8s (ps.getD i [])) (part8 hlps (by omega)) ((v8s_length _).trans hgl)) rfl ?_
            refine wpl_t (t_alloc Tryd.ti23 (v8s (List.replicate 16 0)) (by rfl)) rfl (fun b15 => ?_)
            refine wpl_t0 (t_stA Tryd.ti23 rfl rfl (by first | (with_reducible exact key_len _ _ (by (first | with_reducible assumption | exact L16.h))) | with_reducible rfl | (simp only [v8s_length, v32s_length, vis_length, vns_length, v64s_length, List.length_replicate]; first | done | with_reducible assumption | omega) | (rw [v8s_length]; (first | with_reducible assumption | exact L16.h)) | rfl) (v8s_one _) (by first | (with_reducible exact key_len _ _ (by (first | with_reducible assumption | exact L16.h))) | with_reducible rfl | (simp only [v8s_length, v32s_length, vis_length, vns_length, v64s_length, List.length_replicate]; first | done | with_reducible assumption | omega) | (rw [v8s_length]; (first | with_reducible assumption | exact L16.h)) | rfl)) (fun _ => ?_)
            refine wpl_nil ?_
            refine ex_then ?_
            refine wpc_seq ?_
            refine wpc_seq ?_
            refine wpc_region ?_
            refine wpl_q (q_pure rfl) rfl ?_
            refine wpl_q (q_remN (b := 2) rfl rfl (by first | decide | omega)) rfl ?_
            refine wpl_q (q_pure rfl) rfl ?_
            refine wpl_nil ?_
            refine ex_then ?_
            refine wpc_cond rfl (fun hc83 => ?_) (fun hc83 => ?_)
            ·
              try simp only [decide_eq_true_eq, beq_iff_eq] at hc83
              have hst : stepU (upF (recF bs chs) k ps i) (k / 2 ^ i) (ps.getD i []) = joinedF (upF (recF bs chs) k ps i) (ps.getD i []) := if_pos (by rw [← hi1]; omega)
              refine wpc_draw 2 (by kernel_rfl) (fun _ h => h.drew) ?_
              refine wpd_p 1 rfl (by kernel_rfl) trivial (q_arAll Tryd.underlying23 Tryd.ti5 rfl rfl) rfl sk0 ?_
              refine wpd_p 3 rfl (by kernel_rfl) trivial (q_arAll Tryd.underlying23 Tryd.ti5 rfl rfl) rfl sk0 ?_
              refine wpd_tp 0 rfl (by kernel_rfl) trivial (t_bsV (v8s [(1 : UInt8)]) Tryd.underlying26 Tryd.ti5 rfl rfl (by decide) (by decide) rfl (v8s_one _)) rfl (fun _ => (fun w h => .inr (h.sub SubC.h SubC.h))) (fun b84 p84 => ?_)
              refine wpd_tp 2 rfl (by kernel_rfl) trivial (t_apW Tryd.underlying26 Tryd.ti5 rfl (by decide) rfl rfl (fun w h => by first | exact h.seenV | exact h.seenA (by first | decide | (simp only [maxLen]; omega)) (by first | (with_reducible exact key_len _ _ (by (first | with_reducible assumption | exact L16.h))) | with_reducible rfl | (simp only [v8s_length, v32s_length, vis_length, vns_length, v64s_length, List.length_replicate]; first | done | with_reducible assumption | omega) | (rw [v8s_length]; (first | with_reducible assumption | exact L16.h)) | rfl) | exact h.seen_old (by assumption) | exact h.seen_oldL (by assumption) (by assumption) | exact h.seen_fact (by repeat (first | exact List.mem_cons_self .. | apply List.mem_cons_of_mem))) (v8s_one _) (by first | omega | (simp only [maxLen]; omega) | (simp only [List.length_append, List.length_cons, List.length_nil, List.length_take, maxLen]; omega) | (simp only [List.length_append, List.length_cons, List.length_nil, List.length_take]; omega)) (by first | omega | (simp only [maxLen]; omega) | (simp only [List.length_append, List.length_cons, List.length_nil, List.length_take, maxLen]; omega) | (simp only [List.length_append, List.length_cons, List.length_nil, List.length_take]; omega)) _ (by first | with_reducible exact List.nil_append _ | exact (v8s_append _ _).symm | exact (vis_append _ _).symm | exact (vns_append _ _).symm | exact (v64s_append _ _).symm | exact (v32s_append _ _).symm | rfl)) rfl (fun _ => skk rfl) (fun b86 p86 => ?_)
              refine wpd_tp 4 rfl (by kernel_rfl) trivial (t_apW Tryd.underlying26 Tryd.ti5 rfl (by decide) rfl rfl (fun w h => by first | exact h.seenV | exact h.seenA (by first | decide | (simp only [maxLen]; omega)) (by first | (with_reducible exact key_len _ _ (by (first | with_reducible assumption | exact L16.h))) | with_reducible rfl | (simp only [v8s_length, v32s_length, vis_length, vns_length, v64s_length, List.length_replicate]; first | done | with_reducible assumption | omega) | (rw [v8s_length]; (first | with_reducible assumption | exact L16.h)) | rfl) | exact h.seen_old (by assumption) | exact h.seen_oldL (by assumption) (by assumption) | exact h.seen_fact (by repeat (first | exact List.mem_cons_self .. | apply List.mem_cons_of_mem))) (v8s_one _) (by first | omega | (simp only [maxLen]; omega) | (simp only [List.length_append, List.length_cons, List.length_nil, List.length_take, maxLen]; omega) | (simp only [List.length_append, List.length_cons, List.length_nil, List.length_take]; omega)) (by first | omega | (simp only [maxLen]; omega) | (simp only [List.length_append, List.length_cons, List.length_nil, List.length_take, maxLen]; omega) | (simp only [List.length_append, List.length_cons, List.length_nil, List.length_take]; omega)) _ (by first | with_reducible exact List.nil_append _ | exact (v8s_append _ _).symm | exact (vis_append _ _).symm | exact (vns_append _ _).symm | exact (v64s_append _ _).symm | exact (v32s_append _ _).symm | rfl)) rfl (fun _ => skk rfl) (fun b88 p88 => ?_)
              refine wpd_t 5 rfl (by kernel_rfl) trivial (t_pur Tryd.hb28 rfl fun w h => shortW _ _ w (by first | exact Seen.re8 h.seenV | exact Seen.reS h.seenV (by first | assumption | exact signF_all _ _ | exact sg_all _ _ | exact sigC_all _ _ _ _ | exact sigP_all _ _ _ | exact pathF_all _ _ _) (by decide) | exact Seen.reN h.seenV | exact h.seenV | exact h.seenA (by first | decide | (simp only [maxLen]; omega)) (by first | (with_reducible exact key_len _ _ (by (first | with_reducible assumption | exact L16.h))) | with_reducible rfl | (simp only [v8s_length, v32s_length, vis_length, vns_length, v64s_length, List.length_replicate]; first | done | with_reducible assumption | omega) | (rw [v8s_length]; (first | with_reducible assumption | exact L16.h)) | rfl) | exact h.seen_old (by assumption) | exact h.seen_oldL (by assumption) (by assumption) | exact Seen.re8 (h.seen_fact (by repeat (first | exact List.mem_cons_self .. | apply List.mem_cons_of_mem))) | exact h.seen_fact (by repeat (first | exact List.mem_cons_self .. | apply List.mem_cons_of_mem))) (glob h hG)) rfl (fun _ => skk rfl) (fun b89 => ?_)
              refine wpd_t0 6 rfl (by kernel_rfl) trivial (t_stA Tryd.ti23 rfl rfl (by first | (with_reducible exact key_len _ _ (by (first | with_reducible assumption | exact L16.h))) | with_reducible rfl | (simp only [v8s_length, v32s_length, vis_length, vns_length, v64s_length, List.length_replicate]; first | done | with_reducible assumption | omega) | (rw [v8s_length]; (first | with_reducible assumption | exact L16.h)) | rfl) (v8s_one _) (by first | (with_reducible exact key_len _ _ (by (first | with_reducible assumption | exact L16.h))) | with_reducible rfl | (simp only [v8s_length, v32s_length, vis_length, vns_length, v64s_length, List.length_replicate]; first | done | with_reducible assumption | omega) | (rw [v8s_length]; (first | with_reducible assumption | exact L16.h)) | rfl)) (fun _ => skk rfl) (fun _ => ?_)
              refine wpd_done (by kernel_rfl) ?_
              refine ex_then ?_
              refine wpc_region ?_
              refine wpl_q (q_pure rfl) rfl ?_
              refine wpl_q (q_quoN (b := 2) rfl rfl (by first | decide | omega) (by first | omega | (simp only [maxLen]; omega) | (simp only [List.length_append, List.length_cons, List.length_nil, List.length_take, maxLen]; omega) | (simp only [List.length_append, List.length_cons, List.length_nil, List.length_take]; omega))) rfl ?_
              refine wpl_q (q_pure rfl) rfl ?_
              refine wpl_nil ?_
              refine ex_block ?_
              refine ex_then ?_
              refine wpc_region ?_
              refine wpl_q (q_pure rfl) rfl ?_
              refine wpl_q (q_addN (b := 1) rfl rfl (by first | omega | (simp only [maxLen]; omega) | (simp only [List.length_append, List.length_cons, List.length_nil, List.length_take, maxLen]; omega) | (simp only [List.length_append, List.length_cons, List.length_nil, List.length_take]; omega))) rfl ?_
              refine wpl_q (q_pure rfl) rfl ?_
              refine wpl_nil ?_
              refine ex_again ⟨(i + 1, j / 2), ⟨by omega, by rw [hi1, Nat.pow_succ, Nat.div_div_eq_div_mul]⟩⟩ ?_ ?_ ?_
              · exact (by repeat (first | exact trivial | refine ⟨rfl, ?_⟩))
              · exact fun w h => by
                  dsimp only
                  rw [show upF (recF bs chs) k ps (i + 1) = stepU (upF (recF bs chs) k ps i) (k / 2 ^ i) (ps.getD i []) from rfl, hst]
                  exact h.sub (.drop (.drop (Sub.refl _))) (Sub.refl _)
              · (show ps.length - (i + 1) < ps.length - i); omega
            ·
              try simp only [decide_eq_false_iff_not, beq_eq_false_iff_ne, ne_eq] at hc83
              have hst : stepU (upF (recF bs chs) k ps i) (k / 2 ^ i) (ps.getD i []) = joinedF (ps.getD i []) (upF (recF bs chs) k ps i) := if_neg (by rw [← hi1]; omega)
              refine wpc_draw 2 (by kernel_rfl) (fun _ h => h.drew) ?_
              refine wpd_p 1 rfl (by kernel_rfl) trivial (q_arAll Tryd.underlying23 Tryd.ti5 rfl rfl) rfl sk0 ?_
              refine wpd_p 3 rfl (by kernel_rfl) trivial (q_arAll Tryd.underlying23 Tryd.ti5 rfl rfl) rfl sk0 ?_
              refine wpd_tp 0 rfl (by kernel_rfl) trivial (t_bsV (v8s [(1 : UInt8)]) Tryd.underlying26 Tryd.ti5 rfl rfl (by decide) (by decide) rfl (v8s_one _)) rfl (fun _ => (fun w h => .inr (h.sub SubC.h SubC.h))) (fun b90 p90 => ?_)
              refine wpd_tp 2 rfl (by kernel_rfl) trivial (t_apW Tryd.underlying26 Tryd.ti5 rfl (by decide) rfl rfl (fun w h => by first | exact h.seenV | exact h.seenA (by first | decide | (simp only [maxLen]; omega)) (by first | (with_reducible exact key_len _ _ (by (first | with_reducible assumption | exact L16.h))) | with_reducible rfl | (simp only [v8s_length, v32s_length, vis_length, vns_length, v64s_length, List.length_replicate]; first | done | with_reducible assumption | omega) | (rw [v8s_length]; (first | with_reducible assumption | exact L16.h)) | rfl) | exact h.seen_old (by assumption) | exact h.seen_oldL (by assumption) (by assumption) | exact h.seen_fact (by repeat (first | exact List.mem_cons_self .. | apply List.mem_cons_of_mem))) (v8s_one _) (by first | omega | (simp only [maxLen]; omega) | (simp only [List.length_append, List.length_cons, List.length_nil, List.length_take, maxLen]; omega) | (simp only [List.length_append, List.length_cons, List.length_nil, List.length_take]; omega)) (by first | omega | (simp only [maxLen]; omega) | (simp only [List.length_append, List.length_cons, List.length_nil, List.length_take, maxLen]; omega) | (simp only [List.length_append, List.length_cons, List.length_nil, List.length_take]; omega)) _ (by first | with_reducible exact List.nil_append _ | exact (v8s_append _ _).symm | exact (vis_append _ _).symm | exact (vns_append _ _).symm | exact (v64s_append _ _).symm | exact (v32s_append _ _).symm | rfl)) rfl (fun _ => skk rfl) (fun b92 p92 => ?_)
              refine wpd_tp 4 rfl (by kernel_rfl) trivial (t_apW Tryd.underlying26 Tryd.ti5 rfl (by decide) rfl rfl (fun w h => by first | exact h.seenV | exact h.seenA (by first | decide | (simp only [maxLen]; omega)) (by first | (with_reducible exact key_len _ _ (by (first | with_reducible assumption | exact L16.h))) | with_reducible rfl | (simp only [v8s_length, v32s_length, vis_length, vns_length, v64s_length, List.length_replicate]; first | done | with_reducible assumption | omega) | (rw [v8s_length]; (first | with_reducible assumption | exact L16.h)) | rfl) | exact h.seen_old (by assumption) | exact h.seen_oldL (by assumption) (by assumption) | exact h.seen_fact (by repeat (first | exact List.mem_cons_self .. | apply List.mem_cons_of_mem))) (v8s_one _) (by first | omega | (simp only [maxLen]; omega) | (simp only [List.length_append, List.length_cons, List.length_nil, List.length_take, maxLen]; omega) | (simp only [List.length_append, List.length_cons, List.length_nil, List.length_take]; omega)) (by first | omega | (simp only [maxLen]; omega) | (simp only [List.length_append, List.length_cons, List.length_nil, List.length_take, maxLen]; omega) | (simp only [List.length_append, List.length_cons, List.length_nil, List.length_take]; omega)) _ (by first | with_reducible exact List.nil_append _ | exact (v8s_append _ _).symm | exact (vis_append _ _).symm | exact (vns_append _ _).symm | exact (v64s_append _ _).symm | exact (v32s_append _ _).symm | rfl)) rfl (fun _ => skk rfl) (fun b94 p94 => ?_)
              refine wpd_t 5 rfl (by kernel_rfl) trivial (t_pur Tryd.hb28 rfl fun w h => shortW _ _ w (by first | exact Seen.re8 h.seenV | exact Seen.reS h.seenV (by first | assumption | exact signF_all _ _ | exact sg_all _ _ | exact sigC_all _ _ _ _ | exact sigP_all _ _ _ | exact pathF_all _ _ _) (by decide) | exact Seen.reN h.seenV | exact h.seenV | exact h.seenA (by first | decide | (simp only [maxLen]; omega)) (by first | (with_reducible exact key_len _ _ (by (first | with_reducible assumption | exact L16.h))) | with_reducible rfl | (simp only [v8s_length, v32s_length, vis_length, vns_length, v64s_length, List.length_replicate]; first | done | with_reducible assumption | omega) | (rw [v8s_length]; (first | with_reducible assumption | exact L16.h)) | rfl) | exact h.seen_old (by assumption) | exact h.seen_oldL (by assumption) (by assumption) | exact Seen.re8 (h.seen_fact (by repeat (first | exact List.mem_cons_self .. | apply List.mem_cons_of_mem))) | exact h.seen_fact (by repeat (first | exact List.mem_cons_self .. | apply List.mem_cons_of_mem))) (glob h hG)) rfl (fun _ => skk rfl) (fun b95 => ?_)
              refine wpd_t0 6 rfl (by kernel_rfl) trivial (t_stA Tryd.ti23 rfl rfl (by first | (with_reducible exact key_len _ _ (by (first | with_reducible assumption | exact L16.h))) | with_reducible rfl | (simp only [v8s_length, v32s_length, vis_length, vns_length, v64s_length, List.length_replicate]; first | done | with_reducible assumption | omega) | (rw [v8s_length]; (first | with_reducible assumption | exact L16.h)) | rfl) (v8s_one _) (by first | (with_reducible exact key_len _ _ (by (first | with_reducible assumption | exact L16.h))) | with_reducible rfl | (simp only [v8s_length, v32s_length, vis_length, vns_length, v64s_length, List.length_replicate]; first | done | with_reducible assumption | omega) | (rw [v8s_length]; (first | with_reducible assumption | exact L16.h)) | rfl)) (fun _ => skk rfl) (fun _ => ?_)
              refine wpd_done (by kernel_rfl) ?_
              refine ex_then ?_
              refine wpc_region ?_
              refine wpl_q (q_pure rfl) rfl ?_
              refine wpl_q (q_quoN (b := 2) rfl rfl (by first | decide | omega) (by first | omega | (simp only [maxLen]; omega) | (simp only [List.length_append, List.length_cons, List.length_nil, List.length_take, maxLen]; omega) | (simp only [List.length_append, List.length_cons, List.length_nil, List.length_take]; omega))) rfl ?_
              refine wpl_q (q_pure rfl) rfl ?_
              refine wpl_nil ?_
              refine ex_block ?_
              refine ex_then ?_
              refine wpc_region ?_
              refine wpl_q (q_pure rfl) rfl ?_
              refine wpl_q (q_addN (b := 1) rfl rfl (by first | omega | (simp only [maxLen]; omega) | (simp only [List.length_append, List.length_cons, List.length_nil, List.length_take, maxLen]; omega) | (simp only [List.length_append, List.length_cons, List.length_nil, List.length_take]; omega))) rfl ?_
              refine wpl_q (q_pure rfl) rfl ?_
              refine wpl_nil ?_
              refine ex_again ⟨(i + 1, j / 2), ⟨by omega, by rw [hi1, Nat.pow_succ, Nat.div_div_eq_div_mul]⟩⟩ ?_ ?_ ?_
              · exact (by repeat (first | exact trivial | refine ⟨rfl, ?_⟩))
              · exact fun w h => by
                  dsimp only
                  rw [show upF (recF bs chs) k ps (i + 1) = stepU (upF (recF bs chs) k ps i) (k / 2 ^ i) (ps.getD i []) from rfl, hst]
                  exact h.sub (.drop (.drop (Sub.refl _))) (Sub.refl _)
              · (show ps.length - (i + 1) < ps.length - i); omega
          ·
            simp only [decide_eq_false_iff_not] at hc73
            obtain rfl : i = ps.length := by omega
            refine wpc_exit ?_
            refine ex_then_exit ?_
            refine ex_then_exit ?_
            refine ex_block_hit ?_
            refine ex_then ?_
            refine wpc_seq ?_
            refine wpc_region ?_
            refine wpl_q (q_pure rfl) rfl ?_
            refine wpl_q (q_pure rfl) rfl ?_
            refine wpl_on rfl rfl ?_
            refine wpl_q (q_ldN Tryd.underlying23 rfl Tryd.ti23 rfl (by first | (with_reducible exact key_len _ _ (by (first | with_reducible assumption | exact L16.h))) | with_reducible rfl | (simp only [v8s_length, v32s_length, vis_length, vns_length, v64s_length, List.length_replicate]; first | done | with_reducible assumption | omega) | (rw [v8s_length]; (first | with_reducible assumption | exact L16.h)) | rfl)) rfl ?_
            refine wpl_on rfl rfl ?_
            refine wpl_q (q_ldN Tryd.underlying23 rfl Tryd.ti23 rfl (by first | (with_reducible exact key_len _ _ (by (first | with_reducible assumption | exact L16.h))) | with_reducible rfl | (simp only [v8s_length, v32s_length, vis_length, vns_length, v64s_length, List.length_replicate]; first | done | with_reducible assumption | omega) | (rw [v8s_length]; (first | with_reducible assumption | exact L16.h)) | rfl)) rfl ?_
            refine wpl_on rfl rfl ?_
            refine wpl_q (q_tru (q_eq8 eq8_23 (by kernel_rfl) rfl rfl (by first | (first | with_reducible assumption | exact L16.h) | simp) (by first | (first | with_reducible assumption | exact L16.h) | simp)) hr) rfl ?_
            refine wpl_q (q_pure rfl) rfl ?_
            refine wpl_q (q_pure rfl) rfl ?_
            refine wpl_nil ?_
            refine ex_then ?_
            refine wpc_ret ?_
            refine ret1 (.inl rfl) rfl rfl ?_
            exact fun w h => ⟨rfl, h.below⟩

end Go.Proofs.YtbkgfndojlhdoaaDoor
