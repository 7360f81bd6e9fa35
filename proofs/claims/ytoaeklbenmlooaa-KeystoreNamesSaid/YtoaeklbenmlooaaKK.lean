/- The check of a store. -/
import Derived.Test.YtoaeklbenmlooaaKJ
namespace Go.Proofs.Ytoaeklbenmlooaa
set_option linter.unusedSimpArgs false
set_option linter.unusedVariables false
open Go Go.PL Go.RowKit

section
variable {k a : KE} {d : Int}
theorem ok1 (h : ¬ k.id = a.id) : true = !okK k a d := by simp [okK, h]
theorem ok2 (h : ¬ k.ht = a.ht) : true = !okK k a d := by simp [okK, h]
theorem ok3 (h : ¬ k.ak = a.ak) : true = !okK k a d := by simp [okK, h]
theorem ok4 (h : ¬ k.dr = a.dr) : true = !okK k a d := by simp [okK, h]
theorem ok5 (h : ¬ k.du = d) : true = !okK k a d := by simp [okK, h]
theorem ok6 (h : k.nx < 0) : true = !okK k a d := by
  have : decide (0 ≤ k.nx) = false := decide_eq_false (by omega)
  simp [okK, this]
theorem ok7 (h1 : k.id = a.id) (h2 : k.ht = a.ht) (h3 : k.ak = a.ak) (h4 : k.dr = a.dr) (h5 : k.du = d) (h6 : ¬ k.nx < 0) : decide (k.nx > d) = !okK k a d := by
  have e6 : decide (0 ≤ k.nx) = true := decide_eq_true (by omega)
  simp [okK, h1, h2, h3, h4, h5, e6]
  rw [Bool.eq_iff_iff]; simp
end
theorem ku {s : St} (h : ChkP s) (hu : s.up = true) : ChkU s := h.2.2.2.2 hu

set_option maxRecDepth 100000 in
theorem check (s : St) (dv pv kv : Value) (w : World) (hs : StS w.cell? s dv pv kv)  :
    Calls Try.prog 29 [.agg (s.c dv pv kv).toArray].toArray w (Pur w (.int .i64 (chkF s))) := by
  have sdv := hs.d.sv
  have spv := hs.p.sv
  have skv := hs.k.sv
  have l1hs := hs.ld
  have l2hs := hs.lp
  have l3hs := hs.lk
  refine enter (m := 145) (R := Mem w [] [] []) Try.func29 rfl rfl (Nat.le_of_ble_eq_true rfl) (Mem.start w) ?_
  refine wpc_seq ?_
  refine wpc_region ?_
  refine wpl_t (t_box rfl (s.c dv pv kv) rfl) rfl (fun b1 => ?_)
  refine wpl_q (q_pure rfl) rfl ?_
  refine wpl_nil ?_
  refine ex_then ?_
  refine wpc_seq ?_
  refine wpc_seq ?_
  refine wpc_region ?_
  refine wpl_q (q_field Try.underlying27 rfl Try.ti3 rfl rfl _ rfl) rfl ?_
  refine wpl_q (q_ld Try.underlying3 rfl rfl (by first | exact St.c_b hs.len | exact St.c_u hs.len | exact St.c_d hs.len | exact St.c_p hs.len | exact St.c_k hs.len)) rfl ?_
  refine wpl_q (q_pure rfl) rfl ?_
  refine wpl_q (q_pure rfl) rfl ?_
  refine wpl_bool2 14 13 rfl rfl (fun hb14 => ?_) (fun hb14 => ?_)
  ·
   try simp only [decide_eq_true_eq] at hb14
   refine wpl_off rfl rfl rfl rfl ?_
   refine wpl_off rfl rfl rfl rfl ?_
   refine wpl_off rfl rfl rfl rfl ?_
   refine wpl_q (q_pure rfl) rfl ?_
   refine wpl_q (q_pure rfl) rfl ?_
   refine wpl_off rfl rfl rfl rfl ?_
   refine wpl_off rfl rfl rfl rfl ?_
   refine wpl_off rfl rfl rfl rfl ?_
   refine wpl_off rfl rfl rfl rfl ?_
   refine wpl_off rfl rfl rfl rfl ?_
   refine wpl_off rfl rfl rfl rfl ?_
   refine wpl_off rfl rfl rfl rfl ?_
   refine wpl_off rfl rfl rfl rfl ?_
   refine wpl_q (q_pure rfl) rfl ?_
   refine wpl_nil ?_
   refine ex_then ?_
   refine wpc_cond_t rfl ?_
   refine wpc_seq ?_
   refine wpc_region ?_
   refine wpl_q (q_pure rfl) rfl ?_
   refine wpl_nil ?_
   refine ex_then ?_
   refine wpc_ret ?_
   refine ex_then_ret ?_
   refine ret1 (.inl rfl) rfl rfl ?_
   exact fun w h => ⟨by rw [chk8 (fun hh => by have := hh.1; have := hh.2.1; have := hh.2.2.1; omega)], h.below⟩
  ·
   try simp only [decide_eq_false_iff_not] at hb14
   refine wpl_on rfl rfl ?_
   refine wpl_q (q_field Try.underlying27 rfl Try.ti3 rfl rfl _ rfl) rfl ?_
   refine wpl_on rfl rfl ?_
   refine wpl_q (q_ld Try.underlying3 rfl rfl (by first | exact St.c_b hs.len | exact St.c_u hs.len | exact St.c_d hs.len | exact St.c_p hs.len | exact St.c_k hs.len)) rfl ?_
   refine wpl_on rfl rfl ?_
   refine wpl_q (q_pure rfl) rfl ?_
   refine wpl_q (q_pure rfl) rfl ?_
   refine wpl_q (q_pure rfl) rfl ?_
   refine wpl_bool2 19 17 rfl rfl (fun hb19 => ?_) (fun hb19 => ?_)
   ·
    try simp only [decide_eq_true_eq] at hb19
    refine wpl_off rfl rfl rfl rfl ?_
    refine wpl_off rfl rfl rfl rfl ?_
    refine wpl_off rfl rfl rfl rfl ?_
    refine wpl_off rfl rfl rfl rfl ?_
    refine wpl_off rfl rfl rfl rfl ?_
    refine wpl_off rfl rfl rfl rfl ?_
    refine wpl_off rfl rfl rfl rfl ?_
    refine wpl_off rfl rfl rfl rfl ?_
    refine wpl_q (q_pure rfl) rfl ?_
    refine wpl_nil ?_
    refine ex_then ?_
    refine wpc_cond_t rfl ?_
    refine wpc_seq ?_
    refine wpc_region ?_
    refine wpl_q (q_pure rfl) rfl ?_
    refine wpl_nil ?_
    refine ex_then ?_
    refine wpc_ret ?_
    refine ex_then_ret ?_
    refine ret1 (.inl rfl) rfl rfl ?_
    exact fun w h => ⟨by rw [chk8 (fun hh => by have := hh.1; have := hh.2.1; have := hh.2.2.1; omega)], h.below⟩
   ·
    try simp only [decide_eq_false_iff_not] at hb19
    refine wpl_on rfl rfl ?_
    refine wpl_q (q_field Try.underlying27 rfl Try.ti24 rfl rfl _ rfl) rfl ?_
    refine wpl_on rfl rfl ?_
    refine wpl_q (q_ld Try.underlying24 rfl rfl (by first | exact St.c_b hs.len | exact St.c_u hs.len | exact St.c_d hs.len | exact St.c_p hs.len | exact St.c_k hs.len)) rfl ?_
    refine wpl_on rfl rfl ?_
    refine wpl_q (q_lenW Try.underlying24 rfl (by first | assumption | exact SV.nil | exact SV.slv (by assumption) (by omega) (by omega) | exact arv_sv (by first | decide | (simp only [maxLen]; omega)))) rfl ?_
    refine wpl_on rfl rfl ?_
    refine wpl_q (q_field Try.underlying27 rfl Try.ti24 rfl rfl _ rfl) rfl ?_
    refine wpl_on rfl rfl ?_
    refine wpl_q (q_ld Try.underlying24 rfl rfl (by first | exact St.c_b hs.len | exact St.c_u hs.len | exact St.c_d hs.len | exact St.c_p hs.len | exact St.c_k hs.len)) rfl ?_
    refine wpl_on rfl rfl ?_
    refine wpl_q (q_lenW Try.underlying24 rfl (by first | assumption | exact SV.nil | exact SV.slv (by assumption) (by omega) (by omega) | exact arv_sv (by first | decide | (simp only [maxLen]; omega)))) rfl ?_
    refine wpl_on rfl rfl ?_
    refine wpl_q (q_addN rfl rfl (by first | omega | (simp only [maxLen]; omega) | (simp only [List.length_append, List.length_cons, List.length_nil, List.length_take, maxLen]; omega) | (simp only [List.length_append, List.length_cons, List.length_nil, List.length_take]; omega))) rfl ?_
    refine wpl_on rfl rfl ?_
    refine wpl_q (q_pure rfl) rfl ?_
    refine wpl_q (q_pure rfl) rfl ?_
    refine wpl_nil ?_
    refine ex_then ?_
    refine wpc_cond rfl (fun hc28 => ?_) (fun hc28 => ?_)
    ·
     simp only [decide_eq_true_eq] at hc28
     refine wpc_seq ?_
     refine wpc_region ?_
     refine wpl_q (q_pure rfl) rfl ?_
     refine wpl_nil ?_
     refine ex_then ?_
     refine wpc_ret ?_
     refine ex_then_ret ?_
     refine ret1 (.inl rfl) rfl rfl ?_
     exact fun w h => ⟨by rw [chk8 (fun hh => by have := hh.1; have := hh.2.1; have := hh.2.2.1; omega)], h.below⟩
    ·
     simp only [decide_eq_false_iff_not] at hc28
     refine wpc_skip ?_
     refine ex_then ?_
     refine wpc_seq ?_
     refine wpc_seq ?_
     refine wpc_region ?_
     refine wpl_q (q_field Try.underlying27 rfl Try.ti4 rfl rfl _ rfl) rfl ?_
     refine wpl_q (q_ld Try.underlying4 rfl rfl (by first | exact St.c_b hs.len | exact St.c_u hs.len | exact St.c_d hs.len | exact St.c_p hs.len | exact St.c_k hs.len)) rfl ?_
     refine wpl_q (q_pure rfl) rfl ?_
     refine wpl_nil ?_
     refine ex_then ?_
     refine wpc_cond rfl (fun hc31 => ?_) (fun hc31 => ?_)
     ·
      simp only [Bool.not_eq_true'] at hc31
      refine wpc_seq ?_
      refine wpc_seq ?_
      refine wpc_region ?_
      refine wpl_q (q_field Try.underlying27 rfl Try.ti24 rfl rfl _ rfl) rfl ?_
      refine wpl_q (q_ld Try.underlying24 rfl rfl (by first | exact St.c_b hs.len | exact St.c_u hs.len | exact St.c_d hs.len | exact St.c_p hs.len | exact St.c_k hs.len)) rfl ?_
      refine wpl_q (q_lenW Try.underlying24 rfl (by first | assumption | exact SV.nil | exact SV.slv (by assumption) (by omega) (by omega) | exact arv_sv (by first | decide | (simp only [maxLen]; omega)))) rfl ?_
      refine wpl_q (q_pure rfl) rfl ?_
      refine wpl_q (q_pure rfl) rfl ?_
      refine wpl_bool2 36 35 rfl rfl (fun hb36 => ?_) (fun hb36 => ?_)
      ·
       try simp only [decide_eq_true_eq] at hb36
       refine wpl_off rfl rfl rfl rfl ?_
       refine wpl_off rfl rfl rfl rfl ?_
       refine wpl_off rfl rfl rfl rfl ?_
       refine wpl_off rfl rfl rfl rfl ?_
       refine wpl_q (q_pure rfl) rfl ?_
       refine wpl_nil ?_
       refine ex_then ?_
       refine wpc_cond_t rfl ?_
       refine wpc_seq ?_
       refine wpc_region ?_
       refine wpl_q (q_pure rfl) rfl ?_
       refine wpl_nil ?_
       refine ex_then ?_
       refine wpc_ret ?_
       refine ex_then_ret ?_
       refine ex_then_ret ?_
       refine ret1 (.inl rfl) rfl rfl ?_
       exact fun w h => ⟨by rw [chk8 (fun hh => by have := hh.2.2.2.1 hc31; omega)], h.below⟩
      ·
       try simp only [decide_eq_false_iff_not] at hb36
       refine wpl_on rfl rfl ?_
       refine wpl_q (q_field Try.underlying27 rfl Try.ti25 rfl rfl _ rfl) rfl ?_
       refine wpl_on rfl rfl ?_
       refine wpl_q (q_ld Try.underlying25 rfl rfl (by first | exact St.c_b hs.len | exact St.c_u hs.len | exact St.c_d hs.len | exact St.c_p hs.len | exact St.c_k hs.len)) rfl ?_
       refine wpl_on rfl rfl ?_
       refine wpl_q (q_lenW Try.underlying25 rfl (by first | assumption | exact SV.nil | exact SV.slv (by assumption) (by omega) (by omega) | exact arv_sv (by first | decide | (simp only [maxLen]; omega)))) rfl ?_
       refine wpl_on rfl rfl ?_
       refine wpl_q (q_pure rfl) rfl ?_
       refine wpl_q (q_pure rfl) rfl ?_
       refine wpl_nil ?_
       refine ex_then ?_
       refine wpc_cond rfl (fun hc41 => ?_) (fun hc41 => ?_)
       ·
        simp only [decide_eq_true_eq] at hc41
        refine wpc_seq ?_
        refine wpc_region ?_
        refine wpl_q (q_pure rfl) rfl ?_
        refine wpl_nil ?_
        refine ex_then ?_
        refine wpc_ret ?_
        refine ex_then_ret ?_
        refine ex_then_ret ?_
        refine ret1 (.inl rfl) rfl rfl ?_
        exact fun w h => ⟨by rw [chk8 (fun hh => by have := hh.2.2.2.1 hc31; omega)], h.below⟩
       ·
        simp only [decide_eq_false_iff_not] at hc41
        refine wpc_skip ?_
        refine ex_then ?_
        refine wpc_seq ?_
        refine wpc_region ?_
        refine wpl_q (q_pure rfl) rfl ?_
        refine wpl_nil ?_
        refine ex_then ?_
        refine wpc_ret ?_
        refine ex_then_ret ?_
        refine ret1 (.inl rfl) rfl rfl ?_
        exact fun w h => ⟨by rw [chk0 ⟨by omega, by omega, by omega, fun _ => ⟨by omega, by omega⟩, fun hh => by rw [hc31] at hh; cases hh⟩], h.below⟩
     ·
      simp only [Bool.not_eq_false'] at hc31
      refine wpc_skip ?_
      refine ex_then ?_
      refine wpc_seq ?_
      refine wpc_region ?_
      refine wpl_q (q_field Try.underlying27 rfl Try.ti24 rfl rfl _ rfl) rfl ?_
      refine wpl_q (q_ld Try.underlying24 rfl rfl (by first | exact St.c_b hs.len | exact St.c_u hs.len | exact St.c_d hs.len | exact St.c_p hs.len | exact St.c_k hs.len)) rfl ?_
      refine wpl_tp (t_callP1 Try.hb42 rfl fun w h => scan _ _ w (by first | exact Seen.re8 h.seenV | exact h.seenV | exact h.seenA (by first | decide | (simp only [maxLen]; omega)) (by first | with_reducible rfl | (simp only [v8s_length, v32s_length, vis_length, vns_length, v64s_length, List.length_replicate]; first | done | with_reducible assumption | omega) | (rw [v8s_length]; (first | with_reducible assumption | with_reducible exact shortF_length _ | with_reducible exact stepF_length _ _ _ | with_reducible exact sumF_length _ | with_reducible exact climbF_length _ (by first | with_reducible assumption | with_reducible exact shortF_length _ | with_reducible exact beginF_length _ _ | with_reducible exact getD_mem_len (by assumption) (by omega)) _ _ _ | with_reducible exact beginF_length _ _ | with_reducible exact chainF_length _ _ _ | with_reducible exact recF_length _ _ | with_reducible exact publicF_length _ | with_reducible exact getD_mem_len (by assumption) (by omega) | (with_reducible exact List.length_replicate))) | rfl) | exact h.seen_old (by assumption) | exact h.seen_oldL (by assumption) (by assumption) | exact h.seen_old hs.d | exact h.seen_old hs.p | exact h.seen_old hs.k | exact Seen.re8 (h.seen_fact (by repeat (first | exact List.mem_cons_self .. | apply List.mem_cons_of_mem))) | exact h.seen_fact (by repeat (first | exact List.mem_cons_self .. | apply List.mem_cons_of_mem)))) rfl (fun b45 p45 => ?_)
      refine wpl_q (q_pure rfl) rfl ?_
      refine wpl_q (q_pure rfl) rfl ?_
      refine wpl_q (q_pure rfl) rfl ?_
      refine wpl_q (q_pure rfl) rfl ?_
      refine wpl_q (q_pure rfl) rfl ?_
      refine wpl_nil ?_
      refine ex_then ?_
      refine wpc_seq ?_
      refine wpc_region ?_
      refine wpl_q (q_field Try.underlying27 rfl Try.ti24 rfl rfl _ rfl) rfl ?_
      refine wpl_q (q_ld Try.underlying24 rfl rfl (by first | exact St.c_b hs.len | exact St.c_u hs.len | exact St.c_d hs.len | exact St.c_p hs.len | exact St.c_k hs.len)) rfl ?_
      refine wpl_q (q_field Try.underlying27 rfl Try.ti24 rfl rfl _ rfl) rfl ?_
      refine wpl_q (q_ld Try.underlying24 rfl rfl (by first | exact St.c_b hs.len | exact St.c_u hs.len | exact St.c_d hs.len | exact St.c_p hs.len | exact St.c_k hs.len)) rfl ?_
      refine wpl_tp (t_bsV [dv, pv] Try.underlying98 Try.ti24 rfl rfl (by decide) (by decide) rfl (by first | exact v8s_one _ | exact v32s_one _ | exact v64s_one _ | exact vis_one _ | exact vns_one _ | exact v16s_one _ | (intro u hu; simp at hu; rcases hu with h | h <;> subst h <;> rfl) | (intro u hu; simp only [List.mem_cons, List.not_mem_nil, or_false] at hu; subst hu; exact SV.one (by assumption)) | (intro u hu; simp only [List.mem_cons, List.not_mem_nil, or_false] at hu; rcases hu with rfl <;> exact SV.one (by first | assumption | exact SV.nil | exact SV.slv (by assumption) (by omega) (by omega))) | (intro u hu; simp only [List.mem_cons, List.not_mem_nil, or_false] at hu; rcases hu with rfl | rfl <;> exact SV.one (by first | assumption | exact SV.nil | exact SV.slv (by assumption) (by omega) (by omega))) | (intro u hu; simp only [List.mem_cons, List.not_mem_nil, or_false] at hu; rcases hu with rfl | rfl | rfl <;> exact SV.one (by first | assumption | exact SV.nil | exact SV.slv (by assumption) (by omega) (by omega))) | (intro u hu; simp only [List.mem_cons, List.not_mem_nil, or_false] at hu; rcases hu with rfl | rfl | rfl | rfl <;> exact SV.one (by first | assumption | exact SV.nil | exact SV.slv (by assumption) (by omega) (by omega))) | (simp [Value.oneCell']; done))) rfl (fun b53 p53 => ?_)
      refine wpl_tp (t_callP1 Try.hb41 rfl fun w h => concat2 _ dv pv s.dk s.pd w (partsK2 h.seenV (h.seen_old hs.d) (h.seen_old hs.p)) (by rw [List.length_append]; omega)) rfl (fun b54 p54 => ?_)
      refine wpl_tp (t_callP1 Try.hb42 rfl fun w h => scan _ _ w (by first | exact Seen.re8 h.seenV | exact h.seenV | exact h.seenA (by first | decide | (simp only [maxLen]; omega)) (by first | with_reducible rfl | (simp only [v8s_length, v32s_length, vis_length, vns_length, v64s_length, List.length_replicate]; first | done | with_reducible assumption | omega) | (rw [v8s_length]; (first | with_reducible assumption | with_reducible exact shortF_length _ | with_reducible exact stepF_length _ _ _ | with_reducible exact sumF_length _ | with_reducible exact climbF_length _ (by first | with_reducible assumption | with_reducible exact shortF_length _ | with_reducible exact beginF_length _ _ | with_reducible exact getD_mem_len (by assumption) (by omega)) _ _ _ | with_reducible exact beginF_length _ _ | with_reducible exact chainF_length _ _ _ | with_reducible exact recF_length _ _ | with_reducible exact publicF_length _ | with_reducible exact getD_mem_len (by assumption) (by omega) | (with_reducible exact List.length_replicate))) | rfl) | exact h.seen_old (by assumption) | exact h.seen_oldL (by assumption) (by assumption) | exact h.seen_old hs.d | exact h.seen_old hs.p | exact h.seen_old hs.k | exact Seen.re8 (h.seen_fact (by repeat (first | exact List.mem_cons_self .. | apply List.mem_cons_of_mem))) | exact h.seen_fact (by repeat (first | exact List.mem_cons_self .. | apply List.mem_cons_of_mem)))) rfl (fun b55 p55 => ?_)
      refine wpl_q (q_pure rfl) rfl ?_
      refine wpl_q (q_pure rfl) rfl ?_
      refine wpl_q (q_pure rfl) rfl ?_
      refine wpl_q (q_pure rfl) rfl ?_
      refine wpl_q (q_pure rfl) rfl ?_
      refine wpl_nil ?_
      refine ex_then ?_
      refine wpc_seq ?_
      refine wpc_seq ?_
      refine wpc_region ?_
      refine wpl_q (q_pure rfl) rfl ?_
      refine wpl_q (q_field Try.underlying27 rfl Try.ti24 rfl rfl _ rfl) rfl ?_
      refine wpl_q (q_ld Try.underlying24 rfl rfl (by first | exact St.c_b hs.len | exact St.c_u hs.len | exact St.c_d hs.len | exact St.c_p hs.len | exact St.c_k hs.len)) rfl ?_
      refine wpl_q (q_lenW Try.underlying24 rfl (by first | assumption | exact SV.nil | exact SV.slv (by assumption) (by omega) (by omega) | exact arv_sv (by first | decide | (simp only [maxLen]; omega)))) rfl ?_
      refine wpl_q (q_pure rfl) rfl ?_
      refine wpl_q (q_pure rfl) rfl ?_
      refine wpl_bool2 63 62 rfl rfl (fun hb63 => ?_) (fun hb63 => ?_)
      ·
       simp only [bne_iff_ne, ne_eq] at hb63
       refine wpl_off rfl rfl rfl rfl ?_
       refine wpl_off rfl rfl rfl rfl ?_
       refine wpl_off rfl rfl rfl rfl ?_
       refine wpl_off rfl rfl rfl rfl ?_
       refine wpl_off rfl rfl rfl rfl ?_
       refine wpl_off rfl rfl rfl rfl ?_
       refine wpl_off rfl rfl rfl rfl ?_
       refine wpl_q (q_pure rfl) rfl ?_
       refine wpl_q (q_pure rfl) rfl ?_
       refine wpl_off rfl rfl rfl rfl ?_
       refine wpl_off rfl rfl rfl rfl ?_
       refine wpl_off rfl rfl rfl rfl ?_
       refine wpl_off rfl rfl rfl rfl ?_
       refine wpl_off rfl rfl rfl rfl ?_
       refine wpl_off rfl rfl rfl rfl ?_
       refine wpl_q (q_pure rfl) rfl ?_
       refine wpl_nil ?_
       refine ex_then ?_
       refine wpc_cond_t rfl ?_
       refine wpc_seq ?_
       refine wpc_region ?_
       refine wpl_q (q_pure rfl) rfl ?_
       refine wpl_nil ?_
       refine ex_then ?_
       refine wpc_ret ?_
       refine ex_then_ret ?_
       refine ret1 (.inl rfl) rfl rfl ?_
       exact fun w h => ⟨by rw [chk8 (fun hh => by have hu := ku hh hc31; have := hu.1; have := hu.2.1; have := hu.2.2.1; omega)], h.below⟩
      ·
       simp only [bne_eq_false_iff_eq] at hb63
       refine wpl_on rfl rfl ?_
       refine wpl_q (q_pure rfl) rfl ?_
       refine wpl_on rfl rfl ?_
       refine wpl_q (q_pure rfl) rfl ?_
       refine wpl_on rfl rfl ?_
       refine wpl_q (q_field Try.underlying27 rfl Try.ti24 rfl rfl _ rfl) rfl ?_
       refine wpl_on rfl rfl ?_
       refine wpl_q (q_ld Try.underlying24 rfl rfl (by first | exact St.c_b hs.len | exact St.c_u hs.len | exact St.c_d hs.len | exact St.c_p hs.len | exact St.c_k hs.len)) rfl ?_
       refine wpl_on rfl rfl ?_
       refine wpl_q (q_lenW Try.underlying24 rfl (by first | assumption | exact SV.nil | exact SV.slv (by assumption) (by omega) (by omega) | exact arv_sv (by first | decide | (simp only [maxLen]; omega)))) rfl ?_
       refine wpl_on rfl rfl ?_
       first | refine wpl_q (qop_eq (q_pure rfl) (congrArg (Value.int .i64) (wk_i64 (by omega) (by omega)))) rfl ?_ | refine wpl_q (q_pure rfl) rfl ?_
       refine wpl_on rfl rfl ?_
       refine wpl_q (q_pure rfl) rfl ?_
       refine wpl_q (q_pure rfl) rfl ?_
       refine wpl_q (q_pure rfl) rfl ?_
       refine wpl_bool2 72 70 rfl rfl (fun hb72 => ?_) (fun hb72 => ?_)
       ·
        simp only [bne_iff_ne, ne_eq] at hb72
        refine wpl_off rfl rfl rfl rfl ?_
        refine wpl_off rfl rfl rfl rfl ?_
        refine wpl_off rfl rfl rfl rfl ?_
        refine wpl_off rfl rfl rfl rfl ?_
        refine wpl_off rfl rfl rfl rfl ?_
        refine wpl_off rfl rfl rfl rfl ?_
        refine wpl_q (q_pure rfl) rfl ?_
        refine wpl_nil ?_
        refine ex_then ?_
        refine wpc_cond_t rfl ?_
        refine wpc_seq ?_
        refine wpc_region ?_
        refine wpl_q (q_pure rfl) rfl ?_
        refine wpl_nil ?_
        refine ex_then ?_
        refine wpc_ret ?_
        refine ex_then_ret ?_
        refine ret1 (.inl rfl) rfl rfl ?_
        exact fun w h => ⟨by rw [chk8 (fun hh => by have hu := ku hh hc31; have := hu.1; have := hu.2.1; have := hu.2.2.1; omega)], h.below⟩
       ·
        simp only [bne_eq_false_iff_eq] at hb72
        refine wpl_on rfl rfl ?_
        refine wpl_q (q_pure rfl) rfl ?_
        refine wpl_on rfl rfl ?_
        refine wpl_q (q_lenW Try.underlying25 rfl (by first | assumption | exact SV.nil | exact SV.slv (by assumption) (by omega) (by omega) | exact arv_sv (by first | decide | (simp only [maxLen]; omega)))) rfl ?_
        refine wpl_on rfl rfl ?_
        refine wpl_q (q_field Try.underlying27 rfl Try.ti25 rfl rfl _ rfl) rfl ?_
        refine wpl_on rfl rfl ?_
        refine wpl_q (q_ld Try.underlying25 rfl rfl (by first | exact St.c_b hs.len | exact St.c_u hs.len | exact St.c_d hs.len | exact St.c_p hs.len | exact St.c_k hs.len)) rfl ?_
        refine wpl_on rfl rfl ?_
        refine wpl_q (q_lenW Try.underlying25 rfl (by first | assumption | exact SV.nil | exact SV.slv (by assumption) (by omega) (by omega) | exact arv_sv (by first | decide | (simp only [maxLen]; omega)))) rfl ?_
        refine wpl_on rfl rfl ?_
        refine wpl_q (q_pure rfl) rfl ?_
        refine wpl_q (q_pure rfl) rfl ?_
        refine wpl_nil ?_
        refine ex_then ?_
        refine wpc_cond rfl (fun hc79 => ?_) (fun hc79 => ?_)
        ·
         simp only [bne_iff_ne, ne_eq] at hc79
         refine wpc_seq ?_
         refine wpc_region ?_
         refine wpl_q (q_pure rfl) rfl ?_
         refine wpl_nil ?_
         refine ex_then ?_
         refine wpc_ret ?_
         refine ex_then_ret ?_
         refine ret1 (.inl rfl) rfl rfl ?_
         exact fun w h => ⟨by rw [chk8 (fun hh => by have hu := ku hh hc31; have := hu.1; have := hu.2.1; have := hu.2.2.1; omega)], h.below⟩
        ·
         simp only [bne_eq_false_iff_eq] at hc79
         have hn1 : (scanR s.dk).2 = s.dk.length := by omega
         have hn2 : (scanR (s.dk ++ s.pd)).2 = s.dk.length + s.pd.length := by omega
         have hn3 : (scanR (s.dk ++ s.pd)).1.length = s.ks.length := by omega
         refine wpc_skip ?_
         refine ex_then ?_
         refine wpc_seq ?_
         refine wpc_seq ?_
         refine wpc_region ?_
         refine wpl_q (q_field Try.underlying27 rfl Try.ti25 rfl rfl _ rfl) rfl ?_
         refine wpl_q (q_ld Try.underlying25 rfl rfl (by first | exact St.c_b hs.len | exact St.c_u hs.len | exact St.c_d hs.len | exact St.c_p hs.len | exact St.c_k hs.len)) rfl ?_
         refine wpl_q (q_lenW Try.underlying25 rfl (by first | assumption | exact SV.nil | exact SV.slv (by assumption) (by omega) (by omega) | exact arv_sv (by first | decide | (simp only [maxLen]; omega)))) rfl ?_
         refine wpl_q (q_pure rfl) rfl ?_
         refine wpl_nil ?_
         refine ex_then ?_
         refine wpc_block ?_
         refine wpc_loopc (ι := { x : Nat // (x ≤ s.ks.length) ∧ (∀ j, j < x → okK (s.ks.getD j KE.z) ((scanR (s.dk ++ s.pd)).1.getD j KE.z) (durF (scanR s.dk).1 j) = true) }) [(3, _), (5, _), (81, _), (82, _)] (fun x Lc => (83, .int .i64 ((x.1 : Nat) : Int)) :: Lc) (fun x => Mem w [] [kRow b55 (scanR (s.dk ++ s.pd)).1, kRow b45 (scanR s.dk).1] []) (fun x => s.ks.length - x.1) ⟨0, ⟨Nat.zero_le _, fun j hj => absurd hj (Nat.not_lt_zero _)⟩⟩ (by repeat (first | exact trivial | refine ⟨rfl, ?_⟩)) ?_ ?_
         ·
          exact fun w h => h.sub SubC.h SubC.h
         ·
          rintro ⟨i, ⟨hi0, hi1⟩⟩; try dsimp only
          have hi0 : i ≤ s.ks.length := hi0; have hi1 : ∀ j, j < i → okK (s.ks.getD j KE.z) ((scanR (s.dk ++ s.pd)).1.getD j KE.z) (durF (scanR s.dk).1 j) = true := hi1
          refine wpc_seq ?_
          refine wpc_region ?_
          refine wpl_q (q_pure rfl) rfl ?_
          refine wpl_nil ?_
          refine ex_then ?_
          refine wpc_seq ?_
          refine wpc_cond rfl (fun hc84 => ?_) (fun hc84 => ?_)
          ·
           simp only [decide_eq_true_eq] at hc84
           have hik : i < s.ks.length := by omega
           have hia : i < (scanR (s.dk ++ s.pd)).1.length := by omega
           refine wpc_skip ?_
           refine ex_then ?_
           refine wpc_seq ?_
           refine wpc_block ?_
           refine wpc_seq ?_
           refine wpc_region ?_
           refine wpl_q (q_pure rfl) rfl ?_
           refine wpl_q (q_idxW Try.underlying25 Try.ti66 rfl rfl (by first | assumption | exact SV.nil | exact SV.slv (by assumption) (by omega) (by omega) | exact arv_sv (by first | decide | (simp only [maxLen]; omega))) (by first | omega | (simp only [maxLen]; omega) | (simp only [List.length_append, List.length_cons, List.length_nil, List.length_take, maxLen]; omega) | (simp only [List.length_append, List.length_cons, List.length_nil, List.length_take]; omega))) rfl ?_
           refine wpl_q (q_ldWN Try.underlying66 rfl Try.ti66 rfl (fun w h => h.seen_old hs.k) (s.ks.getD i KE.z).c (kcs_part hik) rfl) rfl ?_
           refine wpl_t (t_alloc Try.ti66 _ rfl) rfl (fun b8 => ?_)
           refine wpl_q (q_pure rfl) rfl ?_
           refine wpl_t0 (t_stA Try.ti66 rfl rfl (by first | with_reducible rfl | (simp only [v8s_length, v32s_length, vis_length, vns_length, v64s_length, List.length_replicate]; first | done | with_reducible assumption | omega) | (rw [v8s_length]; (first | with_reducible assumption | with_reducible exact shortF_length _ | with_reducible exact stepF_length _ _ _ | with_reducible exact sumF_length _ | with_reducible exact climbF_length _ (by first | with_reducible assumption | with_reducible exact shortF_length _ | with_reducible exact beginF_length _ _ | with_reducible exact getD_mem_len (by assumption) (by omega)) _ _ _ | with_reducible exact beginF_length _ _ | with_reducible exact chainF_length _ _ _ | with_reducible exact recF_length _ _ | with_reducible exact publicF_length _ | with_reducible exact getD_mem_len (by assumption) (by omega) | (with_reducible exact List.length_replicate))) | rfl) (ke_one _) (by first | with_reducible rfl | (simp only [v8s_length, v32s_length, vis_length, vns_length, v64s_length, List.length_replicate]; first | done | with_reducible assumption | omega) | (rw [v8s_length]; (first | with_reducible assumption | with_reducible exact shortF_length _ | with_reducible exact stepF_length _ _ _ | with_reducible exact sumF_length _ | with_reducible exact climbF_length _ (by first | with_reducible assumption | with_reducible exact shortF_length _ | with_reducible exact beginF_length _ _ | with_reducible exact getD_mem_len (by assumption) (by omega)) _ _ _ | with_reducible exact beginF_length _ _ | with_reducible exact chainF_length _ _ _ | with_reducible exact recF_length _ _ | with_reducible exact publicF_length _ | with_reducible exact getD_mem_len (by assumption) (by omega) | (with_reducible exact List.length_replicate))) | rfl)) (fun _ => ?_)
           refine wpl_nil ?_
           refine ex_then ?_
           refine wpc_seq ?_
           refine wpc_region ?_
           refine wpl_q (q_pure rfl) rfl ?_
           first | refine wpl_re 9 rfl (congrArg (Value.int .i64) hdu) ?_ | skip
           refine wpl_nil ?_
           refine ex_then ?_
           refine wpc_cutc ({ x : Unit // True }) [(3, b45), (5, b55), (7, .int .i64 ((i : Nat) : Int)), (8, .pointer (some ⟨b8, 0, none⟩)), (81, kv), (82, .int .i64 ((s.ks.length : Nat) : Int)), (83, .int .i64 ((i : Nat) : Int))] (fun x Lc => (9, .int .i64 (durF (scanR s.dk).1 i)) :: Lc) (fun x => Mem w [] [.blk b8 66 (s.ks.getD i KE.z).c, kRow b55 (scanR (s.dk ++ s.pd)).1, kRow b45 (scanR s.dk).1] []) ?_ ?_
           ·
            refine wpc_seq ?_
            refine wpc_region ?_
            refine wpl_q (q_pure rfl) rfl ?_
            refine wpl_q (q_pure rfl) rfl ?_
            refine wpl_q (q_lenW Try.underlying25 rfl (by first | assumption | exact SV.nil | exact SV.slv (by assumption) (by omega) (by omega) | exact arv_sv (by first | decide | (simp only [maxLen]; omega)))) rfl ?_
            refine wpl_q (q_pure rfl) rfl ?_
            refine wpl_nil ?_
            refine ex_then ?_
            refine wpc_cond rfl (fun hc91 => ?_) (fun hc91 => ?_)
            ·
             simp only [decide_eq_true_eq] at hc91
             have hid : i < (scanR s.dk).1.length := by omega
             have hdu : ((scanR s.dk).1.getD i KE.z).ak = (durF (scanR s.dk).1 i) := by rw [durF, if_pos hid]
             refine wpc_region ?_
             refine wpl_q (q_pure rfl) rfl ?_
             refine wpl_q (q_pure rfl) rfl ?_
             refine wpl_q (q_idxW Try.underlying25 Try.ti66 rfl rfl (by first | assumption | exact SV.nil | exact SV.slv (by assumption) (by omega) (by omega) | exact arv_sv (by first | decide | (simp only [maxLen]; omega))) (by first | omega | (simp only [maxLen]; omega) | (simp only [List.length_append, List.length_cons, List.length_nil, List.length_take, maxLen]; omega) | (simp only [List.length_append, List.length_cons, List.length_nil, List.length_take]; omega))) rfl ?_
             refine wpl_q (q_fieldPo 4 Try.underlying66 rfl Try.ti3 rfl rfl rfl) rfl ?_
             refine wpl_q (q_ldWF Try.underlying3 rfl rfl (fun w h => (show Seen w.cell? b45 (scanR s.dk).1.length 6 (kcs (scanR s.dk).1) from h.seenV)) (kcs_get hid rfl)) rfl ?_
             refine wpl_q (q_pure rfl) rfl ?_
             first | refine wpl_re 9 rfl (congrArg (Value.int .i64) hdu) ?_ | skip
             refine wpl_nil ?_
             refine ex_mid ⟨(), trivial⟩ ?_ ?_
             ·
              exact (by repeat (first | exact trivial | refine ⟨rfl, ?_⟩))
             ·
              exact fun w h => by first | exact h | exact h.sub SubC.h SubC.h | exact h.sub (by repeat (first | exact Sub.nil | exact Sub.refl _ | with_reducible refine Sub.keep ?_ | refine Sub.drop ?_)) (by repeat (first | exact Sub.nil | exact Sub.refl _ | with_reducible refine Sub.keep ?_ | refine Sub.drop ?_))
            ·
             simp only [decide_eq_false_iff_not] at hc91
             have hdu : (0 : Int) = (durF (scanR s.dk).1 i) := by rw [durF, if_neg (by omega)]
             refine wpc_re 9 rfl (congrArg (Value.int .i64) hdu) ?_
             refine wpc_skip ?_
             refine ex_mid ⟨(), trivial⟩ ?_ ?_
             ·
              exact (by repeat (first | exact trivial | refine ⟨rfl, ?_⟩))
             ·
              exact fun w h => by first | exact h | exact h.sub SubC.h SubC.h | exact h.sub (by repeat (first | exact Sub.nil | exact Sub.refl _ | with_reducible refine Sub.keep ?_ | refine Sub.drop ?_)) (by repeat (first | exact Sub.nil | exact Sub.refl _ | with_reducible refine Sub.keep ?_ | refine Sub.drop ?_))
           ·
            rintro ⟨_, _⟩; try dsimp only
            refine wpc_seq ?_
            refine wpc_region ?_
            refine wpl_q (q_pure rfl) rfl ?_
            refine wpl_q (q_pure rfl) rfl ?_
            refine wpl_q (q_idxW Try.underlying25 Try.ti66 rfl rfl (by first | assumption | exact SV.nil | exact SV.slv (by assumption) (by omega) (by omega) | exact arv_sv (by first | decide | (simp only [maxLen]; omega))) (by first | omega | (simp only [maxLen]; omega) | (simp only [List.length_append, List.length_cons, List.length_nil, List.length_take, maxLen]; omega) | (simp only [List.length_append, List.length_cons, List.length_nil, List.length_take]; omega))) rfl ?_
            refine wpl_q (q_ldWN Try.underlying66 rfl Try.ti66 rfl (fun w h => h.seenV) ((scanR (s.dk ++ s.pd)).1.getD i KE.z).c (kcs_part hia) rfl) rfl ?_
            refine wpl_t (t_alloc Try.ti66 _ rfl) rfl (fun b10 => ?_)
            refine wpl_t0 (t_stA Try.ti66 rfl rfl (by first | with_reducible rfl | (simp only [v8s_length, v32s_length, vis_length, vns_length, v64s_length, List.length_replicate]; first | done | with_reducible assumption | omega) | (rw [v8s_length]; (first | with_reducible assumption | with_reducible exact shortF_length _ | with_reducible exact stepF_length _ _ _ | with_reducible exact sumF_length _ | with_reducible exact climbF_length _ (by first | with_reducible assumption | with_reducible exact shortF_length _ | with_reducible exact beginF_length _ _ | with_reducible exact getD_mem_len (by assumption) (by omega)) _ _ _ | with_reducible exact beginF_length _ _ | with_reducible exact chainF_length _ _ _ | with_reducible exact recF_length _ _ | with_reducible exact publicF_length _ | with_reducible exact getD_mem_len (by assumption) (by omega) | (with_reducible exact List.length_replicate))) | rfl) (ke_one _) (by first | with_reducible rfl | (simp only [v8s_length, v32s_length, vis_length, vns_length, v64s_length, List.length_replicate]; first | done | with_reducible assumption | omega) | (rw [v8s_length]; (first | with_reducible assumption | with_reducible exact shortF_length _ | with_reducible exact stepF_length _ _ _ | with_reducible exact sumF_length _ | with_reducible exact climbF_length _ (by first | with_reducible assumption | with_reducible exact shortF_length _ | with_reducible exact beginF_length _ _ | with_reducible exact getD_mem_len (by assumption) (by omega)) _ _ _ | with_reducible exact beginF_length _ _ | with_reducible exact chainF_length _ _ _ | with_reducible exact recF_length _ _ | with_reducible exact publicF_length _ | with_reducible exact getD_mem_len (by assumption) (by omega) | (with_reducible exact List.length_replicate))) | rfl)) (fun _ => ?_)
            refine wpl_nil ?_
            refine ex_then ?_
            refine wpc_cutc ({ x : Unit // True }) [(3, b45), (5, b55), (81, kv), (82, .int .i64 ((s.ks.length : Nat) : Int)), (83, .int .i64 ((i : Nat) : Int))] (fun x Lc => (143, .bool (!okK (s.ks.getD i KE.z) ((scanR (s.dk ++ s.pd)).1.getD i KE.z) (durF (scanR s.dk).1 i))) :: Lc) (fun x => Mem w [] [kRow b55 (scanR (s.dk ++ s.pd)).1, kRow b45 (scanR s.dk).1] []) ?_ ?_
            ·
             refine wpc_region ?_
             refine wpl_q (q_field Try.underlying66 rfl Try.ti28 rfl rfl _ rfl) rfl ?_
             refine wpl_q (q_ld Try.underlying28 rfl rfl (by first | exact v32s_get (by first | decide | omega | exact Nat.zero_lt_one | (simp; omega) | (simp; done) | (simp only [v8s_length, v32s_length, vis_length, vns_length, v64s_length]; omega)) | rfl)) rfl ?_
             refine wpl_q (q_field Try.underlying66 rfl Try.ti28 rfl rfl _ rfl) rfl ?_
             refine wpl_q (q_ld Try.underlying28 rfl rfl (by first | exact v32s_get (by first | decide | omega | exact Nat.zero_lt_one | (simp; omega) | (simp; done) | (simp only [v8s_length, v32s_length, vis_length, vns_length, v64s_length]; omega)) | rfl)) rfl ?_
             refine wpl_q (q32_neq rfl rfl) rfl ?_
             refine wpl_q (q_pure rfl) rfl ?_
             refine wpl_bool2 106 105 rfl rfl (fun hb106 => ?_) (fun hb106 => ?_)
             ·
              try simp only [decide_eq_true_eq, decide_eq_false_iff_not, Bool.and_eq_true, Bool.or_eq_true, beq_iff_eq, bne_iff_ne, ne_eq, Bool.not_eq_true', Bool.not_eq_false', Decidable.not_not] at hb106
              refine wpl_off rfl rfl rfl rfl ?_
              refine wpl_off rfl rfl rfl rfl ?_
              refine wpl_off rfl rfl rfl rfl ?_
              refine wpl_off rfl rfl rfl rfl ?_
              refine wpl_off rfl rfl rfl rfl ?_
              refine wpl_q (q_pure rfl) rfl ?_
              refine wpl_q (q_pure rfl) rfl ?_
              refine wpl_off rfl rfl rfl rfl ?_
              refine wpl_off rfl rfl rfl rfl ?_
              refine wpl_off rfl rfl rfl rfl ?_
              refine wpl_off rfl rfl rfl rfl ?_
              refine wpl_off rfl rfl rfl rfl ?_
              refine wpl_q (q_pure rfl) rfl ?_
              refine wpl_q (q_pure rfl) rfl ?_
              refine wpl_off rfl rfl rfl rfl ?_
              refine wpl_off rfl rfl rfl rfl ?_
              refine wpl_off rfl rfl rfl rfl ?_
              refine wpl_off rfl rfl rfl rfl ?_
              refine wpl_off rfl rfl rfl rfl ?_
              refine wpl_q (q_pure rfl) rfl ?_
              refine wpl_q (q_pure rfl) rfl ?_
              refine wpl_off rfl rfl rfl rfl ?_
              refine wpl_off rfl rfl rfl rfl ?_
              refine wpl_off rfl rfl rfl rfl ?_
              refine wpl_off rfl rfl rfl rfl ?_
              refine wpl_q (q_pure rfl) rfl ?_
              refine wpl_q (q_pure rfl) rfl ?_
              refine wpl_off rfl rfl rfl rfl ?_
              refine wpl_off rfl rfl rfl rfl ?_
              refine wpl_off rfl rfl rfl rfl ?_
              refine wpl_q (q_pure rfl) rfl ?_
              refine wpl_q (q_pure rfl) rfl ?_
              refine wpl_off rfl rfl rfl rfl ?_
              refine wpl_off rfl rfl rfl rfl ?_
              refine wpl_off rfl rfl rfl rfl ?_
              refine wpl_off rfl rfl rfl rfl ?_
              refine wpl_q (q_pure rfl) rfl ?_
              refine wpl_re 143 rfl (congrArg Value.bool (show _ = !(okK (s.ks.getD i KE.z) ((scanR (s.dk ++ s.pd)).1.getD i KE.z) (durF (scanR s.dk).1 i)) by first | exact ok1 hb106 | exact ok1 (bne_iff_ne.1 hb106) | exact ok2 hb113 | exact ok2 (bne_iff_ne.1 hb113) | exact ok3 hb120 | exact ok3 (bne_iff_ne.1 hb120) | exact ok4 hb127 | exact ok4 (bne_iff_ne.1 hb127) | exact ok5 hb133 | exact ok5 (bne_iff_ne.1 hb133) | exact ok6 hb138 | exact ok6 (bne_iff_ne.1 hb138) | exact ok4 (by simpa using hb127) | exact ok7 (by first | exact hb106 | exact bne_eq_false_iff_eq.1 hb106) (by first | exact hb113 | exact bne_eq_false_iff_eq.1 hb113) (by first | exact hb120 | exact bne_eq_false_iff_eq.1 hb120) (by first | exact hb127 | exact eq_of_beq hb127 | simpa using hb127) (by first | exact hb133 | exact bne_eq_false_iff_eq.1 hb133) (by first | exact hb138 | exact bne_eq_false_iff_eq.1 hb138))) ?_
              refine wpl_nil ?_
              refine ex_mid ⟨(), trivial⟩ ?_ ?_
              ·
               exact (by repeat (first | exact trivial | refine ⟨rfl, ?_⟩))
              ·
               exact fun w h => by first | exact h | exact h.sub SubC.h SubC.h | exact h.sub (by repeat (first | exact Sub.nil | exact Sub.refl _ | with_reducible refine Sub.keep ?_ | refine Sub.drop ?_)) (by repeat (first | exact Sub.nil | exact Sub.refl _ | with_reducible refine Sub.keep ?_ | refine Sub.drop ?_))
             ·
              try simp only [decide_eq_true_eq, decide_eq_false_iff_not, Bool.and_eq_true, Bool.or_eq_true, beq_iff_eq, bne_iff_ne, ne_eq, Bool.not_eq_true', Bool.not_eq_false', Decidable.not_not] at hb106
              refine wpl_on rfl rfl ?_
              refine wpl_q (q_field Try.underlying66 rfl Try.ti3 rfl rfl _ rfl) rfl ?_
              refine wpl_on rfl rfl ?_
              refine wpl_q (q_ld Try.underlying3 rfl rfl (by first | exact vns_get (by first | decide | omega | exact Nat.zero_lt_one | (simp; omega) | (simp; done) | (simp only [v8s_length, v32s_length, vis_length, vns_length, v64s_length]; omega)) | rfl)) rfl ?_
              refine wpl_on rfl rfl ?_
              refine wpl_q (q_field Try.underlying66 rfl Try.ti3 rfl rfl _ rfl) rfl ?_
              refine wpl_on rfl rfl ?_
              refine wpl_q (q_ld Try.underlying3 rfl rfl (by first | exact vns_get (by first | decide | omega | exact Nat.zero_lt_one | (simp; omega) | (simp; done) | (simp only [v8s_length, v32s_length, vis_length, vns_length, v64s_length]; omega)) | rfl)) rfl ?_
              refine wpl_on rfl rfl ?_
              refine wpl_q (q_pure rfl) rfl ?_
              refine wpl_q (q_pure rfl) rfl ?_
              refine wpl_q (q_pure rfl) rfl ?_
              refine wpl_bool2 113 111 rfl rfl (fun hb113 => ?_) (fun hb113 => ?_)
              ·
               try simp only [decide_eq_true_eq, decide_eq_false_iff_not, Bool.and_eq_true, Bool.or_eq_true, beq_iff_eq, bne_iff_ne, ne_eq, Bool.not_eq_true', Bool.not_eq_false', Decidable.not_not] at hb113
               refine wpl_off rfl rfl rfl rfl ?_
               refine wpl_off rfl rfl rfl rfl ?_
               refine wpl_off rfl rfl rfl rfl ?_
               refine wpl_off rfl rfl rfl rfl ?_
               refine wpl_off rfl rfl rfl rfl ?_
               refine wpl_q (q_pure rfl) rfl ?_
               refine wpl_q (q_pure rfl) rfl ?_
               refine wpl_off rfl rfl rfl rfl ?_
               refine wpl_off rfl rfl rfl rfl ?_
               refine wpl_off rfl rfl rfl rfl ?_
               refine wpl_off rfl rfl rfl rfl ?_
               refine wpl_off rfl rfl rfl rfl ?_
               refine wpl_q (q_pure rfl) rfl ?_
               refine wpl_q (q_pure rfl) rfl ?_
               refine wpl_off rfl rfl rfl rfl ?_
               refine wpl_off rfl rfl rfl rfl ?_
               refine wpl_off rfl rfl rfl rfl ?_
               refine wpl_off rfl rfl rfl rfl ?_
               refine wpl_q (q_pure rfl) rfl ?_
               refine wpl_q (q_pure rfl) rfl ?_
               refine wpl_off rfl rfl rfl rfl ?_
               refine wpl_off rfl rfl rfl rfl ?_
               refine wpl_off rfl rfl rfl rfl ?_
               refine wpl_q (q_pure rfl) rfl ?_
               refine wpl_q (q_pure rfl) rfl ?_
               refine wpl_off rfl rfl rfl rfl ?_
               refine wpl_off rfl rfl rfl rfl ?_
               refine wpl_off rfl rfl rfl rfl ?_
               refine wpl_off rfl rfl rfl rfl ?_
               refine wpl_q (q_pure rfl) rfl ?_
               refine wpl_re 143 rfl (congrArg Value.bool (show _ = !(okK (s.ks.getD i KE.z) ((scanR (s.dk ++ s.pd)).1.getD i KE.z) (durF (scanR s.dk).1 i)) by first | exact ok1 hb106 | exact ok1 (bne_iff_ne.1 hb106) | exact ok2 hb113 | exact ok2 (bne_iff_ne.1 hb113) | exact ok3 hb120 | exact ok3 (bne_iff_ne.1 hb120) | exact ok4 hb127 | exact ok4 (bne_iff_ne.1 hb127) | exact ok5 hb133 | exact ok5 (bne_iff_ne.1 hb133) | exact ok6 hb138 | exact ok6 (bne_iff_ne.1 hb138) | exact ok4 (by simpa using hb127) | exact ok7 (by first | exact hb106 | exact bne_eq_false_iff_eq.1 hb106) (by first | exact hb113 | exact bne_eq_false_iff_eq.1 hb113) (by first | exact hb120 | exact bne_eq_false_iff_eq.1 hb120) (by first | exact hb127 | exact eq_of_beq hb127 | simpa using hb127) (by first | exact hb133 | exact bne_eq_false_iff_eq.1 hb133) (by first | exact hb138 | exact bne_eq_false_iff_eq.1 hb138))) ?_
               refine wpl_nil ?_
               refine ex_mid ⟨(), trivial⟩ ?_ ?_
               ·
                exact (by repeat (first | exact trivial | refine ⟨rfl, ?_⟩))
               ·
                exact fun w h => by first | exact h | exact h.sub SubC.h SubC.h | exact h.sub (by repeat (first | exact Sub.nil | exact Sub.refl _ | with_reducible refine Sub.keep ?_ | refine Sub.drop ?_)) (by repeat (first | exact Sub.nil | exact Sub.refl _ | with_reducible refine Sub.keep ?_ | refine Sub.drop ?_))
              ·
               try simp only [decide_eq_true_eq, decide_eq_false_iff_not, Bool.and_eq_true, Bool.or_eq_true, beq_iff_eq, bne_iff_ne, ne_eq, Bool.not_eq_true', Bool.not_eq_false', Decidable.not_not] at hb113
               refine wpl_on rfl rfl ?_
               refine wpl_q (q_field Try.underlying66 rfl Try.ti3 rfl rfl _ rfl) rfl ?_
               refine wpl_on rfl rfl ?_
               refine wpl_q (q_ld Try.underlying3 rfl rfl (by first | exact vns_get (by first | decide | omega | exact Nat.zero_lt_one | (simp; omega) | (simp; done) | (simp only [v8s_length, v32s_length, vis_length, vns_length, v64s_length]; omega)) | rfl)) rfl ?_
               refine wpl_on rfl rfl ?_
               refine wpl_q (q_field Try.underlying66 rfl Try.ti3 rfl rfl _ rfl) rfl ?_
               refine wpl_on rfl rfl ?_
               refine wpl_q (q_ld Try.underlying3 rfl rfl (by first | exact vns_get (by first | decide | omega | exact Nat.zero_lt_one | (simp; omega) | (simp; done) | (simp only [v8s_length, v32s_length, vis_length, vns_length, v64s_length]; omega)) | rfl)) rfl ?_
               refine wpl_on rfl rfl ?_
               refine wpl_q (q_pure rfl) rfl ?_
               refine wpl_q (q_pure rfl) rfl ?_
               refine wpl_q (q_pure rfl) rfl ?_
               refine wpl_bool2 120 118 rfl rfl (fun hb120 => ?_) (fun hb120 => ?_)
               ·
                try simp only [decide_eq_true_eq, decide_eq_false_iff_not, Bool.and_eq_true, Bool.or_eq_true, beq_iff_eq, bne_iff_ne, ne_eq, Bool.not_eq_true', Bool.not_eq_false', Decidable.not_not] at hb120
                refine wpl_off rfl rfl rfl rfl ?_
                refine wpl_off rfl rfl rfl rfl ?_
                refine wpl_off rfl rfl rfl rfl ?_
                refine wpl_off rfl rfl rfl rfl ?_
                refine wpl_off rfl rfl rfl rfl ?_
                refine wpl_q (q_pure rfl) rfl ?_
                refine wpl_q (q_pure rfl) rfl ?_
                refine wpl_off rfl rfl rfl rfl ?_
                refine wpl_off rfl rfl rfl rfl ?_
                refine wpl_off rfl rfl rfl rfl ?_
                refine wpl_off rfl rfl rfl rfl ?_
                refine wpl_q (q_pure rfl) rfl ?_
                refine wpl_q (q_pure rfl) rfl ?_
                refine wpl_off rfl rfl rfl rfl ?_
                refine wpl_off rfl rfl rfl rfl ?_
                refine wpl_off rfl rfl rfl rfl ?_
                refine wpl_q (q_pure rfl) rfl ?_
                refine wpl_q (q_pure rfl) rfl ?_
                refine wpl_off rfl rfl rfl rfl ?_
                refine wpl_off rfl rfl rfl rfl ?_
                refine wpl_off rfl rfl rfl rfl ?_
                refine wpl_off rfl rfl rfl rfl ?_
                refine wpl_q (q_pure rfl) rfl ?_
                refine wpl_re 143 rfl (congrArg Value.bool (show _ = !(okK (s.ks.getD i KE.z) ((scanR (s.dk ++ s.pd)).1.getD i KE.z) (durF (scanR s.dk).1 i)) by first | exact ok1 hb106 | exact ok1 (bne_iff_ne.1 hb106) | exact ok2 hb113 | exact ok2 (bne_iff_ne.1 hb113) | exact ok3 hb120 | exact ok3 (bne_iff_ne.1 hb120) | exact ok4 hb127 | exact ok4 (bne_iff_ne.1 hb127) | exact ok5 hb133 | exact ok5 (bne_iff_ne.1 hb133) | exact ok6 hb138 | exact ok6 (bne_iff_ne.1 hb138) | exact ok4 (by simpa using hb127) | exact ok7 (by first | exact hb106 | exact bne_eq_false_iff_eq.1 hb106) (by first | exact hb113 | exact bne_eq_false_iff_eq.1 hb113) (by first | exact hb120 | exact bne_eq_false_iff_eq.1 hb120) (by first | exact hb127 | exact eq_of_beq hb127 | simpa using hb127) (by first | exact hb133 | exact bne_eq_false_iff_eq.1 hb133) (by first | exact hb138 | exact bne_eq_false_iff_eq.1 hb138))) ?_
                refine wpl_nil ?_
                refine ex_mid ⟨(), trivial⟩ ?_ ?_
                ·
                 exact (by repeat (first | exact trivial | refine ⟨rfl, ?_⟩))
                ·
                 exact fun w h => by first | exact h | exact h.sub SubC.h SubC.h | exact h.sub (by repeat (first | exact Sub.nil | exact Sub.refl _ | with_reducible refine Sub.keep ?_ | refine Sub.drop ?_)) (by repeat (first | exact Sub.nil | exact Sub.refl _ | with_reducible refine Sub.keep ?_ | refine Sub.drop ?_))
               ·
                try simp only [decide_eq_true_eq, decide_eq_false_iff_not, Bool.and_eq_true, Bool.or_eq_true, beq_iff_eq, bne_iff_ne, ne_eq, Bool.not_eq_true', Bool.not_eq_false', Decidable.not_not] at hb120
                refine wpl_on rfl rfl ?_
                refine wpl_q (q_field Try.underlying66 rfl Try.ti4 rfl rfl _ rfl) rfl ?_
                refine wpl_on rfl rfl ?_
                refine wpl_q (q_ld Try.underlying4 rfl rfl (by first | exact vbs_get (by first | decide | omega | exact Nat.zero_lt_one | (simp; omega) | (simp; done) | (simp only [v8s_length, v32s_length, vis_length, vns_length, v64s_length]; omega)) | rfl)) rfl ?_
                refine wpl_on rfl rfl ?_
                refine wpl_q (q_field Try.underlying66 rfl Try.ti4 rfl rfl _ rfl) rfl ?_
                refine wpl_on rfl rfl ?_
                refine wpl_q (q_ld Try.underlying4 rfl rfl (by first | exact vbs_get (by first | decide | omega | exact Nat.zero_lt_one | (simp; omega) | (simp; done) | (simp only [v8s_length, v32s_length, vis_length, vns_length, v64s_length]; omega)) | rfl)) rfl ?_
                refine wpl_on rfl rfl ?_
                refine wpl_q (q_bne Try.underlying4 rfl rfl) rfl ?_
                refine wpl_q (q_pure rfl) rfl ?_
                refine wpl_q (q_pure rfl) rfl ?_
                refine wpl_bool2 127 125 rfl rfl (fun hb127 => ?_) (fun hb127 => ?_)
                ·
                 try simp only [decide_eq_true_eq, decide_eq_false_iff_not, Bool.and_eq_true, Bool.or_eq_true, beq_iff_eq, bne_iff_ne, ne_eq, Bool.not_eq_true', Bool.not_eq_false', Decidable.not_not] at hb127
                 refine wpl_off rfl rfl rfl rfl ?_
                 refine wpl_off rfl rfl rfl rfl ?_
                 refine wpl_off rfl rfl rfl rfl ?_
                 refine wpl_off rfl rfl rfl rfl ?_
                 refine wpl_q (q_pure rfl) rfl ?_
                 refine wpl_q (q_pure rfl) rfl ?_
                 refine wpl_off rfl rfl rfl rfl ?_
                 refine wpl_off rfl rfl rfl rfl ?_
                 refine wpl_off rfl rfl rfl rfl ?_
                 refine wpl_q (q_pure rfl) rfl ?_
                 refine wpl_q (q_pure rfl) rfl ?_
                 refine wpl_off rfl rfl rfl rfl ?_
                 refine wpl_off rfl rfl rfl rfl ?_
                 refine wpl_off rfl rfl rfl rfl ?_
                 refine wpl_off rfl rfl rfl rfl ?_
                 refine wpl_q (q_pure rfl) rfl ?_
                 refine wpl_re 143 rfl (congrArg Value.bool (show _ = !(okK (s.ks.getD i KE.z) ((scanR (s.dk ++ s.pd)).1.getD i KE.z) (durF (scanR s.dk).1 i)) by first | exact ok1 hb106 | exact ok1 (bne_iff_ne.1 hb106) | exact ok2 hb113 | exact ok2 (bne_iff_ne.1 hb113) | exact ok3 hb120 | exact ok3 (bne_iff_ne.1 hb120) | exact ok4 hb127 | exact ok4 (bne_iff_ne.1 hb127) | exact ok5 hb133 | exact ok5 (bne_iff_ne.1 hb133) | exact ok6 hb138 | exact ok6 (bne_iff_ne.1 hb138) | exact ok4 (by simpa using hb127) | exact ok7 (by first | exact hb106 | exact bne_eq_false_iff_eq.1 hb106) (by first | exact hb113 | exact bne_eq_false_iff_eq.1 hb113) (by first | exact hb120 | exact bne_eq_false_iff_eq.1 hb120) (by first | exact hb127 | exact eq_of_beq hb127 | simpa using hb127) (by first | exact hb133 | exact bne_eq_false_iff_eq.1 hb133) (by first | exact hb138 | exact bne_eq_false_iff_eq.1 hb138))) ?_
                 refine wpl_nil ?_
                 refine ex_mid ⟨(), trivial⟩ ?_ ?_
                 ·
                  exact (by repeat (first | exact trivial | refine ⟨rfl, ?_⟩))
                 ·
                  exact fun w h => by first | exact h | exact h.sub SubC.h SubC.h | exact h.sub (by repeat (first | exact Sub.nil | exact Sub.refl _ | with_reducible refine Sub.keep ?_ | refine Sub.drop ?_)) (by repeat (first | exact Sub.nil | exact Sub.refl _ | with_reducible refine Sub.keep ?_ | refine Sub.drop ?_))
                ·
                 try simp only [decide_eq_true_eq, decide_eq_false_iff_not, Bool.and_eq_true, Bool.or_eq_true, beq_iff_eq, bne_iff_ne, ne_eq, Bool.not_eq_true', Bool.not_eq_false', Decidable.not_not] at hb127
                 refine wpl_on rfl rfl ?_
                 refine wpl_q (q_field Try.underlying66 rfl Try.ti3 rfl rfl _ rfl) rfl ?_
                 refine wpl_on rfl rfl ?_
                 refine wpl_q (q_ld Try.underlying3 rfl rfl (by first | exact vns_get (by first | decide | omega | exact Nat.zero_lt_one | (simp; omega) | (simp; done) | (simp only [v8s_length, v32s_length, vis_length, vns_length, v64s_length]; omega)) | rfl)) rfl ?_
                 refine wpl_on rfl rfl ?_
                 refine wpl_q (q_pure rfl) rfl ?_
                 refine wpl_on rfl rfl ?_
                 refine wpl_q (q_pure rfl) rfl ?_
                 refine wpl_q (q_pure rfl) rfl ?_
                 refine wpl_q (q_pure rfl) rfl ?_
                 refine wpl_bool2 133 131 rfl rfl (fun hb133 => ?_) (fun hb133 => ?_)
                 ·
                  try simp only [decide_eq_true_eq, decide_eq_false_iff_not, Bool.and_eq_true, Bool.or_eq_true, beq_iff_eq, bne_iff_ne, ne_eq, Bool.not_eq_true', Bool.not_eq_false', Decidable.not_not] at hb133
                  refine wpl_off rfl rfl rfl rfl ?_
                  refine wpl_off rfl rfl rfl rfl ?_
                  refine wpl_off rfl rfl rfl rfl ?_
                  refine wpl_q (q_pure rfl) rfl ?_
                  refine wpl_q (q_pure rfl) rfl ?_
                  refine wpl_off rfl rfl rfl rfl ?_
                  refine wpl_off rfl rfl rfl rfl ?_
                  refine wpl_off rfl rfl rfl rfl ?_
                  refine wpl_off rfl rfl rfl rfl ?_
                  refine wpl_q (q_pure rfl) rfl ?_
                  refine wpl_re 143 rfl (congrArg Value.bool (show _ = !(okK (s.ks.getD i KE.z) ((scanR (s.dk ++ s.pd)).1.getD i KE.z) (durF (scanR s.dk).1 i)) by first | exact ok1 hb106 | exact ok1 (bne_iff_ne.1 hb106) | exact ok2 hb113 | exact ok2 (bne_iff_ne.1 hb113) | exact ok3 hb120 | exact ok3 (bne_iff_ne.1 hb120) | exact ok4 hb127 | exact ok4 (bne_iff_ne.1 hb127) | exact ok5 hb133 | exact ok5 (bne_iff_ne.1 hb133) | exact ok6 hb138 | exact ok6 (bne_iff_ne.1 hb138) | exact ok4 (by simpa using hb127) | exact ok7 (by first | exact hb106 | exact bne_eq_false_iff_eq.1 hb106) (by first | exact hb113 | exact bne_eq_false_iff_eq.1 hb113) (by first | exact hb120 | exact bne_eq_false_iff_eq.1 hb120) (by first | exact hb127 | exact eq_of_beq hb127 | simpa using hb127) (by first | exact hb133 | exact bne_eq_false_iff_eq.1 hb133) (by first | exact hb138 | exact bne_eq_false_iff_eq.1 hb138))) ?_
                  refine wpl_nil ?_
                  refine ex_mid ⟨(), trivial⟩ ?_ ?_
                  ·
                   exact (by repeat (first | exact trivial | refine ⟨rfl, ?_⟩))
                  ·
                   exact fun w h => by first | exact h | exact h.sub SubC.h SubC.h | exact h.sub (by repeat (first | exact Sub.nil | exact Sub.refl _ | with_reducible refine Sub.keep ?_ | refine Sub.drop ?_)) (by repeat (first | exact Sub.nil | exact Sub.refl _ | with_reducible refine Sub.keep ?_ | refine Sub.drop ?_))
                 ·
                  try simp only [decide_eq_true_eq, decide_eq_false_iff_not, Bool.and_eq_true, Bool.or_eq_true, beq_iff_eq, bne_iff_ne, ne_eq, Bool.not_eq_true', Bool.not_eq_false', Decidable.not_not] at hb133
                  refine wpl_on rfl rfl ?_
                  refine wpl_q (q_field Try.underlying66 rfl Try.ti3 rfl rfl _ rfl) rfl ?_
                  refine wpl_on rfl rfl ?_
                  refine wpl_q (q_ld Try.underlying3 rfl rfl (by first | exact vns_get (by first | decide | omega | exact Nat.zero_lt_one | (simp; omega) | (simp; done) | (simp only [v8s_length, v32s_length, vis_length, vns_length, v64s_length]; omega)) | rfl)) rfl ?_
                  refine wpl_on rfl rfl ?_
                  refine wpl_q (q_pure rfl) rfl ?_
                  refine wpl_q (q_pure rfl) rfl ?_
                  refine wpl_q (q_pure rfl) rfl ?_
                  refine wpl_bool2 138 136 rfl rfl (fun hb138 => ?_) (fun hb138 => ?_)
                  ·
                   try simp only [decide_eq_true_eq, decide_eq_false_iff_not, Bool.and_eq_true, Bool.or_eq_true, beq_iff_eq, bne_iff_ne, ne_eq, Bool.not_eq_true', Bool.not_eq_false', Decidable.not_not] at hb138
                   refine wpl_off rfl rfl rfl rfl ?_
                   refine wpl_off rfl rfl rfl rfl ?_
                   refine wpl_off rfl rfl rfl rfl ?_
                   refine wpl_off rfl rfl rfl rfl ?_
                   refine wpl_q (q_pure rfl) rfl ?_
                   refine wpl_re 143 rfl (congrArg Value.bool (show _ = !(okK (s.ks.getD i KE.z) ((scanR (s.dk ++ s.pd)).1.getD i KE.z) (durF (scanR s.dk).1 i)) by first | exact ok1 hb106 | exact ok1 (bne_iff_ne.1 hb106) | exact ok2 hb113 | exact ok2 (bne_iff_ne.1 hb113) | exact ok3 hb120 | exact ok3 (bne_iff_ne.1 hb120) | exact ok4 hb127 | exact ok4 (bne_iff_ne.1 hb127) | exact ok5 hb133 | exact ok5 (bne_iff_ne.1 hb133) | exact ok6 hb138 | exact ok6 (bne_iff_ne.1 hb138) | exact ok4 (by simpa using hb127) | exact ok7 (by first | exact hb106 | exact bne_eq_false_iff_eq.1 hb106) (by first | exact hb113 | exact bne_eq_false_iff_eq.1 hb113) (by first | exact hb120 | exact bne_eq_false_iff_eq.1 hb120) (by first | exact hb127 | exact eq_of_beq hb127 | simpa using hb127) (by first | exact hb133 | exact bne_eq_false_iff_eq.1 hb133) (by first | exact hb138 | exact bne_eq_false_iff_eq.1 hb138))) ?_
                   refine wpl_nil ?_
                   refine ex_mid ⟨(), trivial⟩ ?_ ?_
                   ·
                    exact (by repeat (first | exact trivial | refine ⟨rfl, ?_⟩))
                   ·
                    exact fun w h => by first | exact h | exact h.sub SubC.h SubC.h | exact h.sub (by repeat (first | exact Sub.nil | exact Sub.refl _ | with_reducible refine Sub.keep ?_ | refine Sub.drop ?_)) (by repeat (first | exact Sub.nil | exact Sub.refl _ | with_reducible refine Sub.keep ?_ | refine Sub.drop ?_))
                  ·
                   try simp only [decide_eq_true_eq, decide_eq_false_iff_not, Bool.and_eq_true, Bool.or_eq_true, beq_iff_eq, bne_iff_ne, ne_eq, Bool.not_eq_true', Bool.not_eq_false', Decidable.not_not] at hb138
                   refine wpl_on rfl rfl ?_
                   refine wpl_q (q_field Try.underlying66 rfl Try.ti3 rfl rfl _ rfl) rfl ?_
                   refine wpl_on rfl rfl ?_
                   refine wpl_q (q_ld Try.underlying3 rfl rfl (by first | exact vns_get (by first | decide | omega | exact Nat.zero_lt_one | (simp; omega) | (simp; done) | (simp only [v8s_length, v32s_length, vis_length, vns_length, v64s_length]; omega)) | rfl)) rfl ?_
                   refine wpl_on rfl rfl ?_
                   refine wpl_q (q_pure rfl) rfl ?_
                   refine wpl_on rfl rfl ?_
                   refine wpl_q (q_pure rfl) rfl ?_
                   refine wpl_q (q_pure rfl) rfl ?_
                   refine wpl_re 143 rfl (congrArg Value.bool (show _ = !(okK (s.ks.getD i KE.z) ((scanR (s.dk ++ s.pd)).1.getD i KE.z) (durF (scanR s.dk).1 i)) by first | exact ok1 hb106 | exact ok1 (bne_iff_ne.1 hb106) | exact ok2 hb113 | exact ok2 (bne_iff_ne.1 hb113) | exact ok3 hb120 | exact ok3 (bne_iff_ne.1 hb120) | exact ok4 hb127 | exact ok4 (bne_iff_ne.1 hb127) | exact ok5 hb133 | exact ok5 (bne_iff_ne.1 hb133) | exact ok6 hb138 | exact ok6 (bne_iff_ne.1 hb138) | exact ok4 (by simpa using hb127) | exact ok7 (by first | exact hb106 | exact bne_eq_false_iff_eq.1 hb106) (by first | exact hb113 | exact bne_eq_false_iff_eq.1 hb113) (by first | exact hb120 | exact bne_eq_false_iff_eq.1 hb120) (by first | exact hb127 | exact eq_of_beq hb127 | simpa using hb127) (by first | exact hb133 | exact bne_eq_false_iff_eq.1 hb133) (by first | exact hb138 | exact bne_eq_false_iff_eq.1 hb138))) ?_
                   refine wpl_nil ?_
                   refine ex_mid ⟨(), trivial⟩ ?_ ?_
                   ·
                    exact (by repeat (first | exact trivial | refine ⟨rfl, ?_⟩))
                   ·
                    exact fun w h => by first | exact h | exact h.sub SubC.h SubC.h | exact h.sub (by repeat (first | exact Sub.nil | exact Sub.refl _ | with_reducible refine Sub.keep ?_ | refine Sub.drop ?_)) (by repeat (first | exact Sub.nil | exact Sub.refl _ | with_reducible refine Sub.keep ?_ | refine Sub.drop ?_))
            ·
             rintro ⟨_, _⟩; try dsimp only
             refine wpc_cond rfl (fun hc143 => ?_) (fun hc143 => ?_)
             ·
              simp only [Bool.not_eq_true'] at hc143
              refine wpc_seq ?_
              refine wpc_region ?_
              refine wpl_q (q_pure rfl) rfl ?_
              refine wpl_nil ?_
              refine ex_then ?_
              refine wpc_ret ?_
              refine ex_block_ret ?_
              refine ex_then_ret ?_
              refine ex_then_ret ?_
              refine ex_block_ret ?_
              refine ex_then_ret ?_
              refine ret1 (.inl rfl) rfl rfl ?_
              exact fun w h => ⟨by rw [chk8 (fun hh => by have h4 := (ku hh hc31).2.2.2 i hik; rw [hc143] at h4; cases h4)], h.below⟩
             ·
              simp only [Bool.not_eq_false'] at hc143
              refine wpc_skip ?_
              refine ex_block ?_
              refine ex_then ?_
              refine wpc_region ?_
              refine wpl_q (q_addN (b := 1) rfl rfl (by first | omega | (simp only [maxLen]; omega) | (simp only [List.length_append, List.length_cons, List.length_nil, List.length_take, maxLen]; omega) | (simp only [List.length_append, List.length_cons, List.length_nil, List.length_take]; omega))) rfl ?_
              refine wpl_q (q_pure rfl) rfl ?_
              refine wpl_nil ?_
              refine ex_again ⟨i + 1, ⟨by omega, fun j hj => by rcases Nat.lt_succ_iff_lt_or_eq.1 hj with h | rfl; exact hi1 j h; exact hc143⟩⟩ ?_ ?_ ?_
              ·
               exact (by repeat (first | exact trivial | refine ⟨rfl, ?_⟩))
              ·
               exact fun w h => by first | exact h | exact h.sub SubC.h SubC.h | exact h.sub (by repeat (first | exact Sub.nil | exact Sub.refl _ | with_reducible refine Sub.keep ?_ | refine Sub.drop ?_)) (by repeat (first | exact Sub.nil | exact Sub.refl _ | with_reducible refine Sub.keep ?_ | refine Sub.drop ?_))
              ·
               (show s.ks.length - (i + 1) < s.ks.length - i); omega
          ·
           simp only [decide_eq_false_iff_not] at hc84
           obtain rfl : i = s.ks.length := by omega
           refine wpc_exit ?_
           refine ex_then_exit ?_
           refine ex_then_exit ?_
           refine ex_block_hit ?_
           refine ex_then ?_
           refine wpc_seq ?_
           refine wpc_region ?_
           refine wpl_q (q_pure rfl) rfl ?_
           refine wpl_nil ?_
           refine ex_then ?_
           refine wpc_ret ?_
           refine ret1 (.inl rfl) rfl rfl ?_
           exact fun w h => ⟨by rw [chk0 (show ChkP s from ⟨by omega, by omega, by omega, (fun hh => by rw [hc31] at hh; cases hh), fun _ => ⟨hn1, hn2, hn3, hi1⟩⟩)], h.below⟩

end Go.Proofs.Ytoaeklbenmlooaa
