/- The reference checks a store. -/
import Derived.Test.YtoaeklbenmlooaaKL
namespace Go.Proofs.Ytoaeklbenmlooaa
set_option linter.unusedSimpArgs false
set_option linter.unusedVariables false
open Go Go.PL Go.RowKit

section
variable {k a : KE} {d : Int}
theorem okq1 (h : ¬ k.id = a.id) : okK k a d = false := by simp [okK, h]
theorem okq2 (h : ¬ k.ht = a.ht) : okK k a d = false := by simp [okK, h]
theorem okq3 (h : ¬ k.ak = a.ak) : okK k a d = false := by simp [okK, h]
theorem okq4 (h : ¬ k.dr = a.dr) : okK k a d = false := by simp [okK, h]
theorem okq5 (h : ¬ k.du = d) : okK k a d = false := by simp [okK, h]
theorem okq6 (h : k.nx < 0) : okK k a d = false := by
  have : decide (0 ≤ k.nx) = false := decide_eq_false (by omega)
  simp [okK, this]
theorem okq7 (h : d < k.nx) : okK k a d = false := by
  have : decide (k.nx ≤ d) = false := decide_eq_false (by omega)
  simp [okK, this]
theorem okq8 (h1 : k.id = a.id) (h2 : k.ht = a.ht) (h3 : k.ak = a.ak) (h4 : k.dr = a.dr) (h5 : k.du = d) (h6 : ¬ k.nx < 0) (h7 : ¬ d < k.nx) : okK k a d = true := by
  have e6 : decide (0 ≤ k.nx) = true := decide_eq_true (by omega)
  have e7 : decide (k.nx ≤ d) = true := decide_eq_true (by omega)
  simp [okK, h1, h2, h3, h4, h5, e6, e7]
theorem okb (h : okK k a d = true) : k.id = a.id ∧ k.ht = a.ht ∧ k.ak = a.ak ∧ k.dr = a.dr := by
  simp only [okK, Bool.and_eq_true, decide_eq_true_eq] at h
  exact ⟨h.1.1.1.1.1.1, h.1.1.1.1.1.2, h.1.1.1.1.2, h.1.1.1.2⟩
end
def sameK (k a : KE) : Bool := decide (k.id = a.id) && decide (k.ht = a.ht) && decide (k.ak = a.ak) && decide (k.dr = a.dr)
theorem sameK_t {k a : KE} (h : sameK k a = true) : k.id = a.id ∧ k.ht = a.ht ∧ k.ak = a.ak ∧ k.dr = a.dr := by
  simp only [sameK, Bool.and_eq_true, decide_eq_true_eq] at h
  exact ⟨h.1.1.1, h.1.1.2, h.1.2, h.2⟩
theorem sameK_f {k a : KE} {d : Int} (h : sameK k a = false) : okK k a d = false := by
  cases hc : okK k a d
  · rfl
  · obtain ⟨h1, h2, h3, h4⟩ := okb hc
    simp [sameK, h1, h2, h3, h4] at h
section
variable {k a : KE}
theorem sk1 (h : ¬ k.id = a.id) : true = !sameK k a := by simp [sameK, h]
theorem sk2 (h : ¬ k.ht = a.ht) : true = !sameK k a := by simp [sameK, h]
theorem sk3 (h : ¬ k.ak = a.ak) : true = !sameK k a := by simp [sameK, h]
theorem sk4 (h1 : k.id = a.id) (h2 : k.ht = a.ht) (h3 : k.ak = a.ak) : (!(k.dr == a.dr)) = !sameK k a := by
  simp only [sameK, h1, h2, h3, decide_true, Bool.true_and]
  cases k.dr <;> cases a.dr <;> rfl
theorem sk4n (h1 : k.id = a.id) (h2 : k.ht = a.ht) (h3 : k.ak = a.ak) : (k.dr != a.dr) = !sameK k a := sk4 h1 h2 h3
end

set_option maxRecDepth 100000 in
theorem refCheck18 (s : St) (dv pv kv : Value) (w : World) (hs : StS w.cell? s dv pv kv)  :
    Calls Try.prog 30 [.agg (s.c dv pv kv).toArray].toArray w (Pur w (.int .i64 (chkF s))) := by
  have sdv := hs.d.sv
  have spv := hs.p.sv
  have skv := hs.k.sv
  have l1hs := hs.ld
  have l2hs := hs.lp
  have l3hs := hs.lk
  refine enter (m := 157) (R := Mem w [] [] []) Try.func30 rfl rfl (Nat.le_of_ble_eq_true rfl) (Mem.start w) ?_
  refine wpc_seq ?_
  refine wpc_region ?_
  refine wpl_t (t_box rfl (s.c dv pv kv) rfl) rfl (fun b1 => ?_)
  refine wpl_q (q_pure rfl) rfl ?_
  refine wpl_nil ?_
  refine ex_then ?_
  refine wpc_seq ?_
  refine wpc_seq ?_
  refine wpc_region ?_
  refine wpl_q (q_field Try.underlying27 rfl Try.ti3 rfl rfl _ rfl) rfl ?_
  refine wpl_q (q_ld Try.underlying3 rfl rfl (by first | exact St.c_b hs.len | exact St.c_u hs.len | exact St.c_d hs.len | exact St.c_p hs.len | exact St.c_k hs.len)) rfl ?_
  refine wpl_q (q_pure rfl) rfl ?_
  refine wpl_q (q_pure rfl) rfl ?_
  refine wpl_bool2 13 12 rfl rfl (fun hb13 => ?_) (fun hb13 => ?_)
  ·
   try simp only [decide_eq_true_eq] at hb13
   refine wpl_off rfl rfl rfl rfl ?_
   refine wpl_off rfl rfl rfl rfl ?_
   refine wpl_off rfl rfl rfl rfl ?_
   refine wpl_q (q_pure rfl) rfl ?_
   refine wpl_q (q_pure rfl) rfl ?_
   refine wpl_off rfl rfl rfl rfl ?_
   refine wpl_off rfl rfl rfl rfl ?_
   refine wpl_off rfl rfl rfl rfl ?_
   refine wpl_off rfl rfl rfl rfl ?_
   refine wpl_off rfl rfl rfl rfl ?_
   refine wpl_off rfl rfl rfl rfl ?_
   refine wpl_off rfl rfl rfl rfl ?_
   refine wpl_off rfl rfl rfl rfl ?_
   refine wpl_q (q_pure rfl) rfl ?_
   refine wpl_nil ?_
   refine ex_then ?_
   refine wpc_cond_t rfl ?_
   refine wpc_seq ?_
   refine wpc_region ?_
   refine wpl_q (q_pure rfl) rfl ?_
   refine wpl_nil ?_
   refine ex_then ?_
   refine wpc_ret ?_
   refine ex_then_ret ?_
   refine ret1 (.inl rfl) rfl rfl ?_
   exact fun w h => ⟨by rw [chk8 (fun hh => by have := hh.1; have := hh.2.1; have := hh.2.2.1; omega)], h.below⟩
  ·
   try simp only [decide_eq_false_iff_not] at hb13
   refine wpl_on rfl rfl ?_
   refine wpl_q (q_field Try.underlying27 rfl Try.ti3 rfl rfl _ rfl) rfl ?_
   refine wpl_on rfl rfl ?_
   refine wpl_q (q_ld Try.underlying3 rfl rfl (by first | exact St.c_b hs.len | exact St.c_u hs.len | exact St.c_d hs.len | exact St.c_p hs.len | exact St.c_k hs.len)) rfl ?_
   refine wpl_on rfl rfl ?_
   refine wpl_q (q_pure rfl) rfl ?_
   refine wpl_q (q_pure rfl) rfl ?_
   refine wpl_q (q_pure rfl) rfl ?_
   refine wpl_bool2 18 16 rfl rfl (fun hb18 => ?_) (fun hb18 => ?_)
   ·
    try simp only [decide_eq_true_eq] at hb18
    refine wpl_off rfl rfl rfl rfl ?_
    refine wpl_off rfl rfl rfl rfl ?_
    refine wpl_off rfl rfl rfl rfl ?_
    refine wpl_off rfl rfl rfl rfl ?_
    refine wpl_off rfl rfl rfl rfl ?_
    refine wpl_off rfl rfl rfl rfl ?_
    refine wpl_off rfl rfl rfl rfl ?_
    refine wpl_off rfl rfl rfl rfl ?_
    refine wpl_q (q_pure rfl) rfl ?_
    refine wpl_nil ?_
    refine ex_then ?_
    refine wpc_cond_t rfl ?_
    refine wpc_seq ?_
    refine wpc_region ?_
    refine wpl_q (q_pure rfl) rfl ?_
    refine wpl_nil ?_
    refine ex_then ?_
    refine wpc_ret ?_
    refine ex_then_ret ?_
    refine ret1 (.inl rfl) rfl rfl ?_
    exact fun w h => ⟨by rw [chk8 (fun hh => by have := hh.1; have := hh.2.1; have := hh.2.2.1; omega)], h.below⟩
   ·
    try simp only [decide_eq_false_iff_not] at hb18
    refine wpl_on rfl rfl ?_
    refine wpl_q (q_field Try.underlying27 rfl Try.ti24 rfl rfl _ rfl) rfl ?_
    refine wpl_on rfl rfl ?_
    refine wpl_q (q_ld Try.underlying24 rfl rfl (by first | exact St.c_b hs.len | exact St.c_u hs.len | exact St.c_d hs.len | exact St.c_p hs.len | exact St.c_k hs.len)) rfl ?_
    refine wpl_on rfl rfl ?_
    refine wpl_q (q_lenW Try.underlying24 rfl (by first | assumption | exact SV.nil | exact SV.slv (by assumption) (by omega) (by omega) | exact arv_sv (by first | decide | (simp only [maxLen]; omega)))) rfl ?_
    refine wpl_on rfl rfl ?_
    refine wpl_q (q_field Try.underlying27 rfl Try.ti24 rfl rfl _ rfl) rfl ?_
    refine wpl_on rfl rfl ?_
    refine wpl_q (q_ld Try.underlying24 rfl rfl (by first | exact St.c_b hs.len | exact St.c_u hs.len | exact St.c_d hs.len | exact St.c_p hs.len | exact St.c_k hs.len)) rfl ?_
    refine wpl_on rfl rfl ?_
    refine wpl_q (q_lenW Try.underlying24 rfl (by first | assumption | exact SV.nil | exact SV.slv (by assumption) (by omega) (by omega) | exact arv_sv (by first | decide | (simp only [maxLen]; omega)))) rfl ?_
    refine wpl_on rfl rfl ?_
    refine wpl_q (q_addN rfl rfl (by first | omega | (simp only [maxLen]; omega) | (simp only [List.length_append, List.length_cons, List.length_nil, List.length_take, maxLen]; omega) | (simp only [List.length_append, List.length_cons, List.length_nil, List.length_take]; omega))) rfl ?_
    refine wpl_on rfl rfl ?_
    refine wpl_q (q_pure rfl) rfl ?_
    refine wpl_q (q_pure rfl) rfl ?_
    refine wpl_nil ?_
    refine ex_then ?_
    refine wpc_cond rfl (fun hc27 => ?_) (fun hc27 => ?_)
    ·
     simp only [decide_eq_true_eq] at hc27
     refine wpc_seq ?_
     refine wpc_region ?_
     refine wpl_q (q_pure rfl) rfl ?_
     refine wpl_nil ?_
     refine ex_then ?_
     refine wpc_ret ?_
     refine ex_then_ret ?_
     refine ret1 (.inl rfl) rfl rfl ?_
     exact fun w h => ⟨by rw [chk8 (fun hh => by have := hh.1; have := hh.2.1; have := hh.2.2.1; omega)], h.below⟩
    ·
     simp only [decide_eq_false_iff_not] at hc27
     refine wpc_skip ?_
     refine ex_then ?_
     refine wpc_seq ?_
     refine wpc_seq ?_
     refine wpc_region ?_
     refine wpl_q (q_field Try.underlying27 rfl Try.ti4 rfl rfl _ rfl) rfl ?_
     refine wpl_q (q_ld Try.underlying4 rfl rfl (by first | exact St.c_b hs.len | exact St.c_u hs.len | exact St.c_d hs.len | exact St.c_p hs.len | exact St.c_k hs.len)) rfl ?_
     refine wpl_q (q_pure rfl) rfl ?_
     refine wpl_nil ?_
     refine ex_then ?_
     refine wpc_cond rfl (fun hc30 => ?_) (fun hc30 => ?_)
     ·
      simp only [Bool.not_eq_true'] at hc30
      refine wpc_seq ?_
      refine wpc_seq ?_
      refine wpc_region ?_
      refine wpl_q (q_field Try.underlying27 rfl Try.ti24 rfl rfl _ rfl) rfl ?_
      refine wpl_q (q_ld Try.underlying24 rfl rfl (by first | exact St.c_b hs.len | exact St.c_u hs.len | exact St.c_d hs.len | exact St.c_p hs.len | exact St.c_k hs.len)) rfl ?_
      refine wpl_q (q_lenW Try.underlying24 rfl (by first | assumption | exact SV.nil | exact SV.slv (by assumption) (by omega) (by omega) | exact arv_sv (by first | decide | (simp only [maxLen]; omega)))) rfl ?_
      refine wpl_q (q_pure rfl) rfl ?_
      refine wpl_q (q_pure rfl) rfl ?_
      refine wpl_bool2 35 34 rfl rfl (fun hb35 => ?_) (fun hb35 => ?_)
      ·
       simp only [bne_iff_ne, ne_eq] at hb35
       refine wpl_off rfl rfl rfl rfl ?_
       refine wpl_off rfl rfl rfl rfl ?_
       refine wpl_off rfl rfl rfl rfl ?_
       refine wpl_off rfl rfl rfl rfl ?_
       refine wpl_q (q_pure rfl) rfl ?_
       refine wpl_nil ?_
       refine ex_then ?_
       refine wpc_cond_t rfl ?_
       refine wpc_seq ?_
       refine wpc_region ?_
       refine wpl_q (q_pure rfl) rfl ?_
       refine wpl_nil ?_
       refine ex_then ?_
       refine wpc_ret ?_
       refine ex_then_ret ?_
       refine ex_then_ret ?_
       refine ret1 (.inl rfl) rfl rfl ?_
       exact fun w h => ⟨by rw [chk8 (fun hh => by have := hh.2.2.2.1 hc30; omega)], h.below⟩
      ·
       simp only [bne_eq_false_iff_eq] at hb35
       refine wpl_on rfl rfl ?_
       refine wpl_q (q_field Try.underlying27 rfl Try.ti25 rfl rfl _ rfl) rfl ?_
       refine wpl_on rfl rfl ?_
       refine wpl_q (q_ld Try.underlying25 rfl rfl (by first | exact St.c_b hs.len | exact St.c_u hs.len | exact St.c_d hs.len | exact St.c_p hs.len | exact St.c_k hs.len)) rfl ?_
       refine wpl_on rfl rfl ?_
       refine wpl_q (q_lenW Try.underlying25 rfl (by first | assumption | exact SV.nil | exact SV.slv (by assumption) (by omega) (by omega) | exact arv_sv (by first | decide | (simp only [maxLen]; omega)))) rfl ?_
       refine wpl_on rfl rfl ?_
       refine wpl_q (q_pure rfl) rfl ?_
       refine wpl_q (q_pure rfl) rfl ?_
       refine wpl_nil ?_
       refine ex_then ?_
       refine wpc_cond rfl (fun hc40 => ?_) (fun hc40 => ?_)
       ·
        simp only [bne_iff_ne, ne_eq] at hc40
        refine wpc_seq ?_
        refine wpc_region ?_
        refine wpl_q (q_pure rfl) rfl ?_
        refine wpl_nil ?_
        refine ex_then ?_
        refine wpc_ret ?_
        refine ex_then_ret ?_
        refine ex_then_ret ?_
        refine ret1 (.inl rfl) rfl rfl ?_
        exact fun w h => ⟨by rw [chk8 (fun hh => by have := hh.2.2.2.1 hc30; omega)], h.below⟩
       ·
        simp only [bne_eq_false_iff_eq] at hc40
        refine wpc_skip ?_
        refine ex_then ?_
        refine wpc_seq ?_
        refine wpc_region ?_
        refine wpl_q (q_pure rfl) rfl ?_
        refine wpl_nil ?_
        refine ex_then ?_
        refine wpc_ret ?_
        refine ex_then_ret ?_
        refine ret1 (.inl rfl) rfl rfl ?_
        exact fun w h => ⟨by rw [chk0 (show ChkP s from ⟨by omega, by omega, by omega, fun _ => ⟨by omega, by omega⟩, (fun hh => by rw [hc30] at hh; cases hh)⟩)], h.below⟩
     ·
      simp only [Bool.not_eq_false'] at hc30
      refine wpc_skip ?_
      refine ex_then ?_
      refine wpc_seq ?_
      refine wpc_region ?_
      refine wpl_q (q_field Try.underlying27 rfl Try.ti24 rfl rfl _ rfl) rfl ?_
      refine wpl_q (q_ld Try.underlying24 rfl rfl (by first | exact St.c_b hs.len | exact St.c_u hs.len | exact St.c_d hs.len | exact St.c_p hs.len | exact St.c_k hs.len)) rfl ?_
      refine wpl_tp (t_callP1 Try.hb44 rfl fun w h => refScan _ _ w (by first | exact Seen.re8 h.seenV | exact h.seenV | exact h.seenA (by first | decide | (simp only [maxLen]; omega)) (by first | with_reducible rfl | (simp only [v8s_length, v32s_length, vis_length, vns_length, v64s_length, List.length_replicate]; first | done | with_reducible assumption | omega) | (rw [v8s_length]; (first | with_reducible assumption | with_reducible exact shortF_length _ | with_reducible exact stepF_length _ _ _ | with_reducible exact sumF_length _ | with_reducible exact climbF_length _ (by first | with_reducible assumption | with_reducible exact shortF_length _ | with_reducible exact beginF_length _ _ | with_reducible exact getD_mem_len (by assumption) (by omega)) _ _ _ | with_reducible exact beginF_length _ _ | with_reducible exact chainF_length _ _ _ | with_reducible exact recF_length _ _ | with_reducible exact publicF_length _ | with_reducible exact getD_mem_len (by assumption) (by omega) | (with_reducible exact List.length_replicate))) | rfl) | exact h.seen_old (by assumption) | exact h.seen_oldL (by assumption) (by assumption) | exact h.seen_old hs.d | exact h.seen_old hs.p | exact h.seen_old hs.k | exact Seen.re8 (h.seen_fact (by repeat (first | exact List.mem_cons_self .. | apply List.mem_cons_of_mem))) | exact h.seen_fact (by repeat (first | exact List.mem_cons_self .. | apply List.mem_cons_of_mem))) (by omega)) rfl (fun b44 p44 => ?_)
      refine wpl_q (q_pure rfl) rfl ?_
      refine wpl_q (q_pure rfl) rfl ?_
      refine wpl_q (q_pure rfl) rfl ?_
      refine wpl_q (q_pure rfl) rfl ?_
      refine wpl_q (q_pure rfl) rfl ?_
      refine wpl_nil ?_
      refine ex_then ?_
      refine wpc_seq ?_
      refine wpc_region ?_
      refine wpl_q (q_field Try.underlying27 rfl Try.ti24 rfl rfl _ rfl) rfl ?_
      refine wpl_q (q_ld Try.underlying24 rfl rfl (by first | exact St.c_b hs.len | exact St.c_u hs.len | exact St.c_d hs.len | exact St.c_p hs.len | exact St.c_k hs.len)) rfl ?_
      refine wpl_q (q_field Try.underlying27 rfl Try.ti24 rfl rfl _ rfl) rfl ?_
      refine wpl_q (q_ld Try.underlying24 rfl rfl (by first | exact St.c_b hs.len | exact St.c_u hs.len | exact St.c_d hs.len | exact St.c_p hs.len | exact St.c_k hs.len)) rfl ?_
      refine wpl_tp (t_callP1 Try.hb40 rfl fun w h => join_ dv s.dk pv s.pd w (h.seen_old hs.d) (h.seen_old hs.p) (by omega) (by omega)) rfl (fun b52 p52 => ?_)
      refine wpl_tp (t_callP1 Try.hb44 rfl fun w h => refScan b52 (s.dk ++ s.pd) w h.seenV (by rw [List.length_append]; omega)) rfl (fun b53 p53 => ?_)
      refine wpl_q (q_pure rfl) rfl ?_
      refine wpl_q (q_pure rfl) rfl ?_
      refine wpl_q (q_pure rfl) rfl ?_
      refine wpl_q (q_pure rfl) rfl ?_
      refine wpl_q (q_pure rfl) rfl ?_
      refine wpl_nil ?_
      refine ex_then ?_
      refine wpc_seq ?_
      refine wpc_seq ?_
      refine wpc_region ?_
      refine wpl_q (q_pure rfl) rfl ?_
      refine wpl_q (q_field Try.underlying27 rfl Try.ti24 rfl rfl _ rfl) rfl ?_
      refine wpl_q (q_ld Try.underlying24 rfl rfl (by first | exact St.c_b hs.len | exact St.c_u hs.len | exact St.c_d hs.len | exact St.c_p hs.len | exact St.c_k hs.len)) rfl ?_
      refine wpl_q (q_lenW Try.underlying24 rfl (by first | assumption | exact SV.nil | exact SV.slv (by assumption) (by omega) (by omega) | exact arv_sv (by first | decide | (simp only [maxLen]; omega)))) rfl ?_
      refine wpl_q (q_pure rfl) rfl ?_
      refine wpl_q (q_pure rfl) rfl ?_
      refine wpl_bool2 61 60 rfl rfl (fun hb61 => ?_) (fun hb61 => ?_)
      ·
       simp only [bne_iff_ne, ne_eq] at hb61
       refine wpl_off rfl rfl rfl rfl ?_
       refine wpl_off rfl rfl rfl rfl ?_
       refine wpl_off rfl rfl rfl rfl ?_
       refine wpl_off rfl rfl rfl rfl ?_
       refine wpl_off rfl rfl rfl rfl ?_
       refine wpl_off rfl rfl rfl rfl ?_
       refine wpl_off rfl rfl rfl rfl ?_
       refine wpl_off rfl rfl rfl rfl ?_
       refine wpl_off rfl rfl rfl rfl ?_
       refine wpl_q (q_pure rfl) rfl ?_
       refine wpl_q (q_pure rfl) rfl ?_
       refine wpl_off rfl rfl rfl rfl ?_
       refine wpl_off rfl rfl rfl rfl ?_
       refine wpl_off rfl rfl rfl rfl ?_
       refine wpl_off rfl rfl rfl rfl ?_
       refine wpl_off rfl rfl rfl rfl ?_
       refine wpl_off rfl rfl rfl rfl ?_
       refine wpl_q (q_pure rfl) rfl ?_
       refine wpl_nil ?_
       refine ex_then ?_
       refine wpc_cond_t rfl ?_
       refine wpc_seq ?_
       refine wpc_region ?_
       refine wpl_q (q_pure rfl) rfl ?_
       refine wpl_nil ?_
       refine ex_then ?_
       refine wpc_ret ?_
       refine ex_then_ret ?_
       refine ret1 (.inl rfl) rfl rfl ?_
       exact fun w h => ⟨by rw [chk8 (fun hh => by have hu := ku hh hc30; have := hu.1; have := hu.2.1; have := hu.2.2.1; omega)], h.below⟩
      ·
       simp only [bne_eq_false_iff_eq] at hb61
       refine wpl_on rfl rfl ?_
       refine wpl_q (q_pure rfl) rfl ?_
       refine wpl_on rfl rfl ?_
       refine wpl_q (q_field Try.underlying27 rfl Try.ti24 rfl rfl _ rfl) rfl ?_
       refine wpl_on rfl rfl ?_
       refine wpl_q (q_ld Try.underlying24 rfl rfl (by first | exact St.c_b hs.len | exact St.c_u hs.len | exact St.c_d hs.len | exact St.c_p hs.len | exact St.c_k hs.len)) rfl ?_
       refine wpl_on rfl rfl ?_
       refine wpl_q (q_lenW Try.underlying24 rfl (by first | assumption | exact SV.nil | exact SV.slv (by assumption) (by omega) (by omega) | exact arv_sv (by first | decide | (simp only [maxLen]; omega)))) rfl ?_
       refine wpl_on rfl rfl ?_
       refine wpl_q (q_field Try.underlying27 rfl Try.ti24 rfl rfl _ rfl) rfl ?_
       refine wpl_on rfl rfl ?_
       refine wpl_q (q_ld Try.underlying24 rfl rfl (by first | exact St.c_b hs.len | exact St.c_u hs.len | exact St.c_d hs.len | exact St.c_p hs.len | exact St.c_k hs.len)) rfl ?_
       refine wpl_on rfl rfl ?_
       refine wpl_q (q_lenW Try.underlying24 rfl (by first | assumption | exact SV.nil | exact SV.slv (by assumption) (by omega) (by omega) | exact arv_sv (by first | decide | (simp only [maxLen]; omega)))) rfl ?_
       refine wpl_on rfl rfl ?_
       refine wpl_q (q_addN rfl rfl (by first | omega | (simp only [maxLen]; omega) | (simp only [List.length_append, List.length_cons, List.length_nil, List.length_take, maxLen]; omega) | (simp only [List.length_append, List.length_cons, List.length_nil, List.length_take]; omega))) rfl ?_
       refine wpl_on rfl rfl ?_
       refine wpl_q (q_pure rfl) rfl ?_
       refine wpl_q (q_pure rfl) rfl ?_
       refine wpl_q (q_pure rfl) rfl ?_
       refine wpl_bool2 72 70 rfl rfl (fun hb72 => ?_) (fun hb72 => ?_)
       ·
        simp only [bne_iff_ne, ne_eq] at hb72
        refine wpl_off rfl rfl rfl rfl ?_
        refine wpl_off rfl rfl rfl rfl ?_
        refine wpl_off rfl rfl rfl rfl ?_
        refine wpl_off rfl rfl rfl rfl ?_
        refine wpl_off rfl rfl rfl rfl ?_
        refine wpl_off rfl rfl rfl rfl ?_
        refine wpl_q (q_pure rfl) rfl ?_
        refine wpl_nil ?_
        refine ex_then ?_
        refine wpc_cond_t rfl ?_
        refine wpc_seq ?_
        refine wpc_region ?_
        refine wpl_q (q_pure rfl) rfl ?_
        refine wpl_nil ?_
        refine ex_then ?_
        refine wpc_ret ?_
        refine ex_then_ret ?_
        refine ret1 (.inl rfl) rfl rfl ?_
        exact fun w h => ⟨by rw [chk8 (fun hh => by have hu := ku hh hc30; have := hu.1; have := hu.2.1; have := hu.2.2.1; omega)], h.below⟩
       ·
        simp only [bne_eq_false_iff_eq] at hb72
        refine wpl_on rfl rfl ?_
        refine wpl_q (q_pure rfl) rfl ?_
        refine wpl_on rfl rfl ?_
        refine wpl_q (q_lenW Try.underlying25 rfl (by first | assumption | exact SV.nil | exact SV.slv (by assumption) (by omega) (by omega) | exact arv_sv (by first | decide | (simp only [maxLen]; omega)))) rfl ?_
        refine wpl_on rfl rfl ?_
        refine wpl_q (q_field Try.underlying27 rfl Try.ti25 rfl rfl _ rfl) rfl ?_
        refine wpl_on rfl rfl ?_
        refine wpl_q (q_ld Try.underlying25 rfl rfl (by first | exact St.c_b hs.len | exact St.c_u hs.len | exact St.c_d hs.len | exact St.c_p hs.len | exact St.c_k hs.len)) rfl ?_
        refine wpl_on rfl rfl ?_
        refine wpl_q (q_lenW Try.underlying25 rfl (by first | assumption | exact SV.nil | exact SV.slv (by assumption) (by omega) (by omega) | exact arv_sv (by first | decide | (simp only [maxLen]; omega)))) rfl ?_
        refine wpl_on rfl rfl ?_
        refine wpl_q (q_pure rfl) rfl ?_
        refine wpl_q (q_pure rfl) rfl ?_
        refine wpl_nil ?_
        refine ex_then ?_
        refine wpc_cond rfl (fun hc79 => ?_) (fun hc79 => ?_)
        ·
         simp only [bne_iff_ne, ne_eq] at hc79
         refine wpc_seq ?_
         refine wpc_region ?_
         refine wpl_q (q_pure rfl) rfl ?_
         refine wpl_nil ?_
         refine ex_then ?_
         refine wpc_ret ?_
         refine ex_then_ret ?_
         refine ret1 (.inl rfl) rfl rfl ?_
         exact fun w h => ⟨by rw [chk8 (fun hh => by have hu := ku hh hc30; have := hu.1; have := hu.2.1; have := hu.2.2.1; omega)], h.below⟩
        ·
         simp only [bne_eq_false_iff_eq] at hc79
         have hn1 : (scanR s.dk).2 = s.dk.length := by omega
         have hn2 : (scanR (s.dk ++ s.pd)).2 = s.dk.length + s.pd.length := by omega
         have hn3 : (scanR (s.dk ++ s.pd)).1.length = s.ks.length := by omega
         refine wpc_skip ?_
         refine ex_then ?_
         refine wpc_seq ?_
         refine wpc_seq ?_
         refine wpc_region ?_
         refine wpl_q (q_pure rfl) rfl ?_
         refine wpl_nil ?_
         refine ex_then ?_
         refine wpc_block ?_
         refine wpc_loopc (ι := { x : Nat // (x ≤ s.ks.length) ∧ (∀ j, j < x → okK (s.ks.getD j KE.z) ((scanR (s.dk ++ s.pd)).1.getD j KE.z) (durF (scanR s.dk).1 j) = true) }) [(1, _), (3, _), (5, _)] (fun x Lc => (7, .int .i64 ((x.1 : Nat) : Int)) :: Lc) (fun x => Mem w [] [kRow b53 (scanR (s.dk ++ s.pd)).1, kRow b44 (scanR s.dk).1, .blk b1 27 (s.c dv pv kv)] []) (fun x => s.ks.length - x.1) ⟨0, ⟨Nat.zero_le _, fun j hj => absurd hj (Nat.not_lt_zero _)⟩⟩ (by repeat (first | exact trivial | refine ⟨rfl, ?_⟩)) ?_ ?_
         ·
          exact fun w h => h.sub SubC.h SubC.h
         ·
          rintro ⟨i, ⟨hi0, hi1⟩⟩; try dsimp only
          have hi0 : i ≤ s.ks.length := hi0; have hi1 : ∀ j, j < i → okK (s.ks.getD j KE.z) ((scanR (s.dk ++ s.pd)).1.getD j KE.z) (durF (scanR s.dk).1 j) = true := hi1
          refine wpc_seq ?_
          refine wpc_seq ?_
          refine wpc_region ?_
          refine wpl_q (q_pure rfl) rfl ?_
          refine wpl_q (q_pure rfl) rfl ?_
          refine wpl_q (q_lenW Try.underlying25 rfl (by first | assumption | exact SV.nil | exact SV.slv (by assumption) (by omega) (by omega) | exact arv_sv (by first | decide | (simp only [maxLen]; omega)))) rfl ?_
          refine wpl_q (q_pure rfl) rfl ?_
          refine wpl_nil ?_
          refine ex_then ?_
          refine wpc_cond rfl (fun hc83 => ?_) (fun hc83 => ?_)
          ·
           simp only [decide_eq_true_eq] at hc83
           have hia : i < (scanR (s.dk ++ s.pd)).1.length := by omega
           have hik : i < s.ks.length := by omega
           refine wpc_skip ?_
           refine ex_then ?_
           refine wpc_seq ?_
           refine wpc_block ?_
           refine wpc_seq ?_
           refine wpc_region ?_
           refine wpl_q (q_field Try.underlying27 rfl Try.ti25 rfl rfl _ rfl) rfl ?_
           refine wpl_q (q_ld Try.underlying25 rfl rfl (by first | exact St.c_b hs.len | exact St.c_u hs.len | exact St.c_d hs.len | exact St.c_p hs.len | exact St.c_k hs.len)) rfl ?_
           refine wpl_q (q_pure rfl) rfl ?_
           refine wpl_q (q_idxW Try.underlying25 Try.ti66 rfl rfl (by first | assumption | exact SV.nil | exact SV.slv (by assumption) (by omega) (by omega) | exact arv_sv (by first | decide | (simp only [maxLen]; omega))) (by first | omega | (simp only [maxLen]; omega) | (simp only [List.length_append, List.length_cons, List.length_nil, List.length_take, maxLen]; omega) | (simp only [List.length_append, List.length_cons, List.length_nil, List.length_take]; omega))) rfl ?_
           refine wpl_q (q_ldWN Try.underlying66 rfl Try.ti66 rfl (fun w h => h.seen_old hs.k) (s.ks.getD i KE.z).c (kcs_part hik) rfl) rfl ?_
           refine wpl_t (t_alloc Try.ti66 _ rfl) rfl (fun b8 => ?_)
           refine wpl_t0 (t_stA Try.ti66 rfl rfl (by first | with_reducible rfl | (simp only [v8s_length, v32s_length, vis_length, vns_length, v64s_length, List.length_replicate]; first | done | with_reducible assumption | omega) | (rw [v8s_length]; (first | with_reducible assumption | with_reducible exact shortF_length _ | with_reducible exact stepF_length _ _ _ | with_reducible exact sumF_length _ | with_reducible exact climbF_length _ (by first | with_reducible assumption | with_reducible exact shortF_length _ | with_reducible exact beginF_length _ _ | with_reducible exact getD_mem_len (by assumption) (by omega)) _ _ _ | with_reducible exact beginF_length _ _ | with_reducible exact chainF_length _ _ _ | with_reducible exact recF_length _ _ | with_reducible exact publicF_length _ | with_reducible exact getD_mem_len (by assumption) (by omega) | (with_reducible exact List.length_replicate))) | rfl) (ke_one _) (by first | with_reducible rfl | (simp only [v8s_length, v32s_length, vis_length, vns_length, v64s_length, List.length_replicate]; first | done | with_reducible assumption | omega) | (rw [v8s_length]; (first | with_reducible assumption | with_reducible exact shortF_length _ | with_reducible exact stepF_length _ _ _ | with_reducible exact sumF_length _ | with_reducible exact climbF_length _ (by first | with_reducible assumption | with_reducible exact shortF_length _ | with_reducible exact beginF_length _ _ | with_reducible exact getD_mem_len (by assumption) (by omega)) _ _ _ | with_reducible exact beginF_length _ _ | with_reducible exact chainF_length _ _ _ | with_reducible exact recF_length _ _ | with_reducible exact publicF_length _ | with_reducible exact getD_mem_len (by assumption) (by omega) | (with_reducible exact List.length_replicate))) | rfl)) (fun _ => ?_)
           refine wpl_nil ?_
           refine ex_then ?_
           refine wpc_seq ?_
           refine wpc_region ?_
           refine wpl_q (q_pure rfl) rfl ?_
           first | refine wpl_re 9 rfl (congrArg (Value.int .i64) hdu) ?_ | skip
           refine wpl_nil ?_
           refine ex_then ?_
           refine wpc_cutc ({ x : Unit // True }) [(1, .pointer (some ⟨b1, 0, none⟩)), (3, b44), (5, b53), (7, .int .i64 ((i : Nat) : Int)), (8, .pointer (some ⟨b8, 0, none⟩))] (fun x Lc => (9, .int .i64 (durQ (scanR s.dk).1 (s.ks.getD i KE.z).id)) :: Lc) (fun x => Mem w [] [.blk b8 66 (s.ks.getD i KE.z).c, kRow b53 (scanR (s.dk ++ s.pd)).1, kRow b44 (scanR s.dk).1, .blk b1 27 (s.c dv pv kv)] []) ?_ ?_
           ·
            refine wpc_seq ?_
            refine wpc_region ?_
            refine wpl_q (q_pure rfl) rfl ?_
            refine wpl_q (q_field Try.underlying66 rfl Try.ti28 rfl rfl _ rfl) rfl ?_
            refine wpl_q (q_ld Try.underlying28 rfl rfl (by first | exact v32s_get (by first | decide | omega | exact Nat.zero_lt_one | (simp; omega) | (simp; done) | (simp only [v8s_length, v32s_length, vis_length, vns_length, v64s_length]; omega)) | rfl)) rfl ?_
            refine wpl_t (t_pur Try.hb52 rfl fun w h => refPlace b44 (scanR s.dk).1 _ w h.seenV) rfl (fun b94 => ?_)
            refine wpl_q (q_pure rfl) rfl ?_
            refine wpl_nil ?_
            refine ex_then ?_
            refine wpc_cond rfl (fun hc95 => ?_) (fun hc95 => ?_)
            ·
             simp only [decide_eq_true_eq, ge_iff_le] at hc95
             obtain ⟨hjl, hej⟩ := place_nat hc95
             have hdu : ((scanR s.dk).1.getD (placeF (scanR s.dk).1 (s.ks.getD i KE.z).id).toNat KE.z).ak = (durQ (scanR s.dk).1 (s.ks.getD i KE.z).id) := by rw [durQ, if_pos hc95]
             refine wpc_region ?_
             refine wpl_q (q_pure rfl) rfl ?_
             refine wpl_q (q_pure rfl) rfl ?_
             refine wpl_q (q_field Try.underlying66 rfl Try.ti28 rfl rfl _ rfl) rfl ?_
             refine wpl_q (q_ld Try.underlying28 rfl rfl (by first | exact v32s_get (by first | decide | omega | exact Nat.zero_lt_one | (simp; omega) | (simp; done) | (simp only [v8s_length, v32s_length, vis_length, vns_length, v64s_length]; omega)) | rfl)) rfl ?_
             refine wpl_t (t_pur (v := .int .i64 (((placeF (scanR s.dk).1 (s.ks.getD i KE.z).id).toNat : Nat) : Int)) Try.hb52 rfl fun w h => (refPlace b44 (scanR s.dk).1 _ w h.seenV).mono fun e w2 h2 => (congrArg (Value.int .i64) hej) ▸ h2) rfl (fun b100 => ?_)
             refine wpl_q (q_idxW Try.underlying25 Try.ti66 rfl rfl (by first | assumption | exact SV.nil | exact SV.slv (by assumption) (by omega) (by omega) | exact arv_sv (by first | decide | (simp only [maxLen]; omega))) (by first | omega | (simp only [maxLen]; omega) | (simp only [List.length_append, List.length_cons, List.length_nil, List.length_take, maxLen]; omega) | (simp only [List.length_append, List.length_cons, List.length_nil, List.length_take]; omega))) rfl ?_
             refine wpl_q (q_fieldPo 4 Try.underlying66 rfl Try.ti3 rfl rfl rfl) rfl ?_
             refine wpl_q (q_ldWF Try.underlying3 rfl rfl (fun w h => (show Seen w.cell? b44 (scanR s.dk).1.length 6 (kcs (scanR s.dk).1) from h.seenV)) (kcs_get hjl rfl)) rfl ?_
             refine wpl_q (q_pure rfl) rfl ?_
             first | refine wpl_re 9 rfl (congrArg (Value.int .i64) hdu) ?_ | skip
             refine wpl_nil ?_
             refine ex_mid ⟨(), trivial⟩ ?_ ?_
             ·
              exact (by repeat (first | exact trivial | refine ⟨rfl, ?_⟩))
             ·
              exact fun w h => by first | exact h | exact h.sub SubC.h SubC.h | exact h.sub (by repeat (first | exact Sub.nil | exact Sub.refl _ | with_reducible refine Sub.keep ?_ | refine Sub.drop ?_)) (by repeat (first | exact Sub.nil | exact Sub.refl _ | with_reducible refine Sub.keep ?_ | refine Sub.drop ?_))
            ·
             simp only [decide_eq_false_iff_not, ge_iff_le] at hc95
             have hdu : (0 : Int) = (durQ (scanR s.dk).1 (s.ks.getD i KE.z).id) := by rw [durQ, if_neg hc95]
             refine wpc_re 9 rfl (congrArg (Value.int .i64) hdu) ?_
             refine wpc_skip ?_
             refine ex_mid ⟨(), trivial⟩ ?_ ?_
             ·
              exact (by repeat (first | exact trivial | refine ⟨rfl, ?_⟩))
             ·
              exact fun w h => by first | exact h | exact h.sub SubC.h SubC.h | exact h.sub (by repeat (first | exact Sub.nil | exact Sub.refl _ | with_reducible refine Sub.keep ?_ | refine Sub.drop ?_)) (by repeat (first | exact Sub.nil | exact Sub.refl _ | with_reducible refine Sub.keep ?_ | refine Sub.drop ?_))
           ·
            rintro ⟨_, _⟩; try dsimp only
            refine wpc_seq ?_
            refine wpc_cutc ({ x : Unit // True }) [(1, .pointer (some ⟨b1, 0, none⟩)), (3, b44), (5, b53), (7, .int .i64 ((i : Nat) : Int)), (8, .pointer (some ⟨b8, 0, none⟩)), (9, .int .i64 (durQ (scanR s.dk).1 (s.ks.getD i KE.z).id))] (fun x Lc => (141, .bool (!sameK (s.ks.getD i KE.z) ((scanR (s.dk ++ s.pd)).1.getD i KE.z))) :: Lc) (fun x => Mem w [] [.blk b8 66 (s.ks.getD i KE.z).c, kRow b53 (scanR (s.dk ++ s.pd)).1, kRow b44 (scanR s.dk).1, .blk b1 27 (s.c dv pv kv)] []) ?_ ?_
            ·
             refine wpc_draw 38 (by kernel_rfl) (fun _ h => h.drew) ?_
             refine wpd_p 0 rfl (by kernel_rfl) trivial (q_field Try.underlying66 rfl Try.ti28 rfl rfl _ rfl) rfl sk0 ?_
             refine wpd_q 1 rfl (by kernel_rfl) trivial (q_ld Try.underlying28 rfl rfl (by first | exact v32s_get (by first | decide | omega | exact Nat.zero_lt_one | (simp; omega) | (simp; done) | (simp only [v8s_length, v32s_length, vis_length, vns_length, v64s_length]; omega)) | rfl)) rfl (fun _ h => h) ?_
             refine wpd_p 2 rfl (by kernel_rfl) trivial (q_pure rfl) rfl sk0 ?_
             refine wpd_p 3 rfl (by kernel_rfl) trivial (q_pure rfl) rfl sk0 ?_
             refine wpd_p 4 rfl (by kernel_rfl) trivial (q_idxW Try.underlying25 Try.ti66 rfl rfl (by first | assumption | exact SV.nil | exact SV.slv (by assumption) (by omega) (by omega) | exact arv_sv (by first | decide | (simp only [maxLen]; omega))) (by first | omega | (simp only [maxLen]; omega) | (simp only [List.length_append, List.length_cons, List.length_nil, List.length_take, maxLen]; omega) | (simp only [List.length_append, List.length_cons, List.length_nil, List.length_take]; omega))) rfl sk0 ?_
             refine wpd_p 5 rfl (by kernel_rfl) trivial (q_fieldPo 0 Try.underlying66 rfl Try.ti28 rfl rfl rfl) rfl sk0 ?_
             refine wpd_q 6 rfl (by kernel_rfl) trivial (q_ldWF Try.underlying28 rfl rfl (fun w h => (show Seen w.cell? b53 (scanR (s.dk ++ s.pd)).1.length 6 (kcs (scanR (s.dk ++ s.pd)).1) from h.seenV)) (kcs_get hia rfl)) rfl (fun _ h => h) ?_
             refine wpd_p 7 rfl (by kernel_rfl) trivial (q32_neq rfl rfl) rfl sk0 ?_
             refine wpd_p 8 rfl (by kernel_rfl) trivial (q_pure rfl) rfl sk0 ?_
             refine wpd_bool2 112 111 rfl rfl (fun hb112 => ?_) (fun hb112 => ?_)
             ·
              try simp only [decide_eq_true_eq, decide_eq_false_iff_not, Bool.and_eq_true, Bool.or_eq_true, beq_iff_eq, bne_iff_ne, ne_eq, Bool.not_eq_true', Bool.not_eq_false', Decidable.not_not] at hb112
              refine wpd_off 9 rfl (by kernel_rfl) ⟨_, _, rfl, rfl, rfl⟩ rfl sk0 ?_
              refine wpd_off 10 rfl (by kernel_rfl) ⟨_, _, rfl, rfl, rfl⟩ rfl sk0 ?_
              refine wpd_off 11 rfl (by kernel_rfl) ⟨_, _, rfl, rfl, rfl⟩ rfl sk0 ?_
              refine wpd_off 12 rfl (by kernel_rfl) ⟨_, _, rfl, rfl, rfl⟩ rfl sk0 ?_
              refine wpd_off 13 rfl (by kernel_rfl) ⟨_, _, rfl, rfl, rfl⟩ rfl sk0 ?_
              refine wpd_off 14 rfl (by kernel_rfl) ⟨_, _, rfl, rfl, rfl⟩ rfl sk0 ?_
              refine wpd_off 15 rfl (by kernel_rfl) ⟨_, _, rfl, rfl, rfl⟩ rfl sk0 ?_
              refine wpd_off 16 rfl (by kernel_rfl) ⟨_, _, rfl, rfl, rfl⟩ rfl sk0 ?_
              refine wpd_p 17 rfl (by kernel_rfl) trivial (q_pure rfl) rfl sk0 ?_
              refine wpd_p 18 rfl (by kernel_rfl) trivial (q_pure rfl) rfl sk0 ?_
              refine wpd_off 19 rfl (by kernel_rfl) ⟨_, _, rfl, rfl, rfl⟩ rfl sk0 ?_
              refine wpd_off 20 rfl (by kernel_rfl) ⟨_, _, rfl, rfl, rfl⟩ rfl sk0 ?_
              refine wpd_off 21 rfl (by kernel_rfl) ⟨_, _, rfl, rfl, rfl⟩ rfl sk0 ?_
              refine wpd_off 22 rfl (by kernel_rfl) ⟨_, _, rfl, rfl, rfl⟩ rfl sk0 ?_
              refine wpd_off 23 rfl (by kernel_rfl) ⟨_, _, rfl, rfl, rfl⟩ rfl sk0 ?_
              refine wpd_off 24 rfl (by kernel_rfl) ⟨_, _, rfl, rfl, rfl⟩ rfl sk0 ?_
              refine wpd_off 25 rfl (by kernel_rfl) ⟨_, _, rfl, rfl, rfl⟩ rfl sk0 ?_
              refine wpd_off 26 rfl (by kernel_rfl) ⟨_, _, rfl, rfl, rfl⟩ rfl sk0 ?_
              refine wpd_p 27 rfl (by kernel_rfl) trivial (q_pure rfl) rfl sk0 ?_
              refine wpd_p 28 rfl (by kernel_rfl) trivial (q_pure rfl) rfl sk0 ?_
              refine wpd_off 29 rfl (by kernel_rfl) ⟨_, _, rfl, rfl, rfl⟩ rfl sk0 ?_
              refine wpd_off 30 rfl (by kernel_rfl) ⟨_, _, rfl, rfl, rfl⟩ rfl sk0 ?_
              refine wpd_off 31 rfl (by kernel_rfl) ⟨_, _, rfl, rfl, rfl⟩ rfl sk0 ?_
              refine wpd_off 32 rfl (by kernel_rfl) ⟨_, _, rfl, rfl, rfl⟩ rfl sk0 ?_
              refine wpd_off 33 rfl (by kernel_rfl) ⟨_, _, rfl, rfl, rfl⟩ rfl sk0 ?_
              refine wpd_off 34 rfl (by kernel_rfl) ⟨_, _, rfl, rfl, rfl⟩ rfl sk0 ?_
              refine wpd_off 35 rfl (by kernel_rfl) ⟨_, _, rfl, rfl, rfl⟩ rfl sk0 ?_
              refine wpd_off 36 rfl (by kernel_rfl) ⟨_, _, rfl, rfl, rfl⟩ rfl sk0 ?_
              refine wpd_p 37 rfl (by kernel_rfl) trivial (q_pure rfl) rfl sk0 ?_
              refine wpd_re 141 rfl (congrArg Value.bool (show _ = !(sameK (s.ks.getD i KE.z) ((scanR (s.dk ++ s.pd)).1.getD i KE.z)) by first | exact sk1 (by first | exact hb112 | exact bne_iff_ne.1 hb112) | exact sk2 (by first | exact hb122 | exact bne_iff_ne.1 hb122) | exact sk3 (by first | exact hb132 | exact bne_iff_ne.1 hb132) | exact sk4 (by first | exact hb112 | exact bne_eq_false_iff_eq.1 hb112) (by first | exact hb122 | exact bne_eq_false_iff_eq.1 hb122) (by first | exact hb132 | exact bne_eq_false_iff_eq.1 hb132) | exact sk4n (by first | exact hb112 | exact bne_eq_false_iff_eq.1 hb112) (by first | exact hb122 | exact bne_eq_false_iff_eq.1 hb122) (by first | exact hb132 | exact bne_eq_false_iff_eq.1 hb132))) ?_
              refine wpd_done (by kernel_rfl) ?_
              refine ex_mid ⟨(), trivial⟩ ?_ ?_
              ·
               exact (by repeat (first | exact trivial | refine ⟨rfl, ?_⟩))
              ·
               exact fun w h => by first | exact h | exact h.sub SubC.h SubC.h | exact h.sub (by repeat (first | exact Sub.nil | exact Sub.refl _ | with_reducible refine Sub.keep ?_ | refine Sub.drop ?_)) (by repeat (first | exact Sub.nil | exact Sub.refl _ | with_reducible refine Sub.keep ?_ | refine Sub.drop ?_))
             ·
              try simp only [decide_eq_true_eq, decide_eq_false_iff_not, Bool.and_eq_true, Bool.or_eq_true, beq_iff_eq, bne_iff_ne, ne_eq, Bool.not_eq_true', Bool.not_eq_false', Decidable.not_not] at hb112
              refine wpd_p 9 rfl (by kernel_rfl) ⟨_, rfl, rfl⟩ (q_field Try.underlying66 rfl Try.ti3 rfl rfl _ rfl) rfl sk0 ?_
              refine wpd_q 10 rfl (by kernel_rfl) ⟨_, rfl, rfl⟩ (q_ld Try.underlying3 rfl rfl (by first | exact vns_get (by first | decide | omega | exact Nat.zero_lt_one | (simp; omega) | (simp; done) | (simp only [v8s_length, v32s_length, vis_length, vns_length, v64s_length]; omega)) | rfl)) rfl (fun _ h => h) ?_
              refine wpd_p 11 rfl (by kernel_rfl) ⟨_, rfl, rfl⟩ (q_pure rfl) rfl sk0 ?_
              refine wpd_p 12 rfl (by kernel_rfl) ⟨_, rfl, rfl⟩ (q_pure rfl) rfl sk0 ?_
              refine wpd_p 13 rfl (by kernel_rfl) ⟨_, rfl, rfl⟩ (q_idxW Try.underlying25 Try.ti66 rfl rfl (by first | assumption | exact SV.nil | exact SV.slv (by assumption) (by omega) (by omega) | exact arv_sv (by first | decide | (simp only [maxLen]; omega))) (by first | omega | (simp only [maxLen]; omega) | (simp only [List.length_append, List.length_cons, List.length_nil, List.length_take, maxLen]; omega) | (simp only [List.length_append, List.length_cons, List.length_nil, List.length_take]; omega))) rfl sk0 ?_
              refine wpd_p 14 rfl (by kernel_rfl) ⟨_, rfl, rfl⟩ (q_fieldPo 1 Try.underlying66 rfl Try.ti3 rfl rfl rfl) rfl sk0 ?_
              refine wpd_q 15 rfl (by kernel_rfl) ⟨_, rfl, rfl⟩ (q_ldWF Try.underlying3 rfl rfl (fun w h => (show Seen w.cell? b53 (scanR (s.dk ++ s.pd)).1.length 6 (kcs (scanR (s.dk ++ s.pd)).1) from h.seenV)) (kcs_get hia rfl)) rfl (fun _ h => h) ?_
              refine wpd_p 16 rfl (by kernel_rfl) ⟨_, rfl, rfl⟩ (q_pure rfl) rfl sk0 ?_
              refine wpd_p 17 rfl (by kernel_rfl) trivial (q_pure rfl) rfl sk0 ?_
              refine wpd_p 18 rfl (by kernel_rfl) trivial (q_pure rfl) rfl sk0 ?_
              refine wpd_bool2 122 120 rfl rfl (fun hb122 => ?_) (fun hb122 => ?_)
              ·
               try simp only [decide_eq_true_eq, decide_eq_false_iff_not, Bool.and_eq_true, Bool.or_eq_true, beq_iff_eq, bne_iff_ne, ne_eq, Bool.not_eq_true', Bool.not_eq_false', Decidable.not_not] at hb122
               refine wpd_off 19 rfl (by kernel_rfl) ⟨_, _, rfl, rfl, rfl⟩ rfl sk0 ?_
               refine wpd_off 20 rfl (by kernel_rfl) ⟨_, _, rfl, rfl, rfl⟩ rfl sk0 ?_
               refine wpd_off 21 rfl (by kernel_rfl) ⟨_, _, rfl, rfl, rfl⟩ rfl sk0 ?_
               refine wpd_off 22 rfl (by kernel_rfl) ⟨_, _, rfl, rfl, rfl⟩ rfl sk0 ?_
               refine wpd_off 23 rfl (by kernel_rfl) ⟨_, _, rfl, rfl, rfl⟩ rfl sk0 ?_
               refine wpd_off 24 rfl (by kernel_rfl) ⟨_, _, rfl, rfl, rfl⟩ rfl sk0 ?_
               refine wpd_off 25 rfl (by kernel_rfl) ⟨_, _, rfl, rfl, rfl⟩ rfl sk0 ?_
               refine wpd_off 26 rfl (by kernel_rfl) ⟨_, _, rfl, rfl, rfl⟩ rfl sk0 ?_
               refine wpd_p 27 rfl (by kernel_rfl) trivial (q_pure rfl) rfl sk0 ?_
               refine wpd_p 28 rfl (by kernel_rfl) trivial (q_pure rfl) rfl sk0 ?_
               refine wpd_off 29 rfl (by kernel_rfl) ⟨_, _, rfl, rfl, rfl⟩ rfl sk0 ?_
               refine wpd_off 30 rfl (by kernel_rfl) ⟨_, _, rfl, rfl, rfl⟩ rfl sk0 ?_
               refine wpd_off 31 rfl (by kernel_rfl) ⟨_, _, rfl, rfl, rfl⟩ rfl sk0 ?_
               refine wpd_off 32 rfl (by kernel_rfl) ⟨_, _, rfl, rfl, rfl⟩ rfl sk0 ?_
               refine wpd_off 33 rfl (by kernel_rfl) ⟨_, _, rfl, rfl, rfl⟩ rfl sk0 ?_
               refine wpd_off 34 rfl (by kernel_rfl) ⟨_, _, rfl, rfl, rfl⟩ rfl sk0 ?_
               refine wpd_off 35 rfl (by kernel_rfl) ⟨_, _, rfl, rfl, rfl⟩ rfl sk0 ?_
               refine wpd_off 36 rfl (by kernel_rfl) ⟨_, _, rfl, rfl, rfl⟩ rfl sk0 ?_
               refine wpd_p 37 rfl (by kernel_rfl) trivial (q_pure rfl) rfl sk0 ?_
               refine wpd_re 141 rfl (congrArg Value.bool (show _ = !(sameK (s.ks.getD i KE.z) ((scanR (s.dk ++ s.pd)).1.getD i KE.z)) by first | exact sk1 (by first | exact hb112 | exact bne_iff_ne.1 hb112) | exact sk2 (by first | exact hb122 | exact bne_iff_ne.1 hb122) | exact sk3 (by first | exact hb132 | exact bne_iff_ne.1 hb132) | exact sk4 (by first | exact hb112 | exact bne_eq_false_iff_eq.1 hb112) (by first | exact hb122 | exact bne_eq_false_iff_eq.1 hb122) (by first | exact hb132 | exact bne_eq_false_iff_eq.1 hb132) | exact sk4n (by first | exact hb112 | exact bne_eq_false_iff_eq.1 hb112) (by first | exact hb122 | exact bne_eq_false_iff_eq.1 hb122) (by first | exact hb132 | exact bne_eq_false_iff_eq.1 hb132))) ?_
               refine wpd_done (by kernel_rfl) ?_
               refine ex_mid ⟨(), trivial⟩ ?_ ?_
               ·
                exact (by repeat (first | exact trivial | refine ⟨rfl, ?_⟩))
               ·
                exact fun w h => by first | exact h | exact h.sub SubC.h SubC.h | exact h.sub (by repeat (first | exact Sub.nil | exact Sub.refl _ | with_reducible refine Sub.keep ?_ | refine Sub.drop ?_)) (by repeat (first | exact Sub.nil | exact Sub.refl _ | with_reducible refine Sub.keep ?_ | refine Sub.drop ?_))
              ·
               try simp only [decide_eq_true_eq, decide_eq_false_iff_not, Bool.and_eq_true, Bool.or_eq_true, beq_iff_eq, bne_iff_ne, ne_eq, Bool.not_eq_true', Bool.not_eq_false', Decidable.not_not] at hb122
               refine wpd_p 19 rfl (by kernel_rfl) ⟨_, rfl, rfl⟩ (q_field Try.underlying66 rfl Try.ti3 rfl rfl _ rfl) rfl sk0 ?_
               refine wpd_q 20 rfl (by kernel_rfl) ⟨_, rfl, rfl⟩ (q_ld Try.underlying3 rfl rfl (by first | exact vns_get (by first | decide | omega | exact Nat.zero_lt_one | (simp; omega) | (simp; done) | (simp only [v8s_length, v32s_length, vis_length, vns_length, v64s_length]; omega)) | rfl)) rfl (fun _ h => h) ?_
               refine wpd_p 21 rfl (by kernel_rfl) ⟨_, rfl, rfl⟩ (q_pure rfl) rfl sk0 ?_
               refine wpd_p 22 rfl (by kernel_rfl) ⟨_, rfl, rfl⟩ (q_pure rfl) rfl sk0 ?_
               refine wpd_p 23 rfl (by kernel_rfl) ⟨_, rfl, rfl⟩ (q_idxW Try.underlying25 Try.ti66 rfl rfl (by first | assumption | exact SV.nil | exact SV.slv (by assumption) (by omega) (by omega) | exact arv_sv (by first | decide | (simp only [maxLen]; omega))) (by first | omega | (simp only [maxLen]; omega) | (simp only [List.length_append, List.length_cons, List.length_nil, List.length_take, maxLen]; omega) | (simp only [List.length_append, List.length_cons, List.length_nil, List.length_take]; omega))) rfl sk0 ?_
               refine wpd_p 24 rfl (by kernel_rfl) ⟨_, rfl, rfl⟩ (q_fieldPo 4 Try.underlying66 rfl Try.ti3 rfl rfl rfl) rfl sk0 ?_
               refine wpd_q 25 rfl (by kernel_rfl) ⟨_, rfl, rfl⟩ (q_ldWF Try.underlying3 rfl rfl (fun w h => (show Seen w.cell? b53 (scanR (s.dk ++ s.pd)).1.length 6 (kcs (scanR (s.dk ++ s.pd)).1) from h.seenV)) (kcs_get hia rfl)) rfl (fun _ h => h) ?_
               refine wpd_p 26 rfl (by kernel_rfl) ⟨_, rfl, rfl⟩ (q_pure rfl) rfl sk0 ?_
               refine wpd_p 27 rfl (by kernel_rfl) trivial (q_pure rfl) rfl sk0 ?_
               refine wpd_p 28 rfl (by kernel_rfl) trivial (q_pure rfl) rfl sk0 ?_
               refine wpd_bool2 132 130 rfl rfl (fun hb132 => ?_) (fun hb132 => ?_)
               ·
                try simp only [decide_eq_true_eq, decide_eq_false_iff_not, Bool.and_eq_true, Bool.or_eq_true, beq_iff_eq, bne_iff_ne, ne_eq, Bool.not_eq_true', Bool.not_eq_false', Decidable.not_not] at hb132
                refine wpd_off 29 rfl (by kernel_rfl) ⟨_, _, rfl, rfl, rfl⟩ rfl sk0 ?_
                refine wpd_off 30 rfl (by kernel_rfl) ⟨_, _, rfl, rfl, rfl⟩ rfl sk0 ?_
                refine wpd_off 31 rfl (by kernel_rfl) ⟨_, _, rfl, rfl, rfl⟩ rfl sk0 ?_
                refine wpd_off 32 rfl (by kernel_rfl) ⟨_, _, rfl, rfl, rfl⟩ rfl sk0 ?_
                refine wpd_off 33 rfl (by kernel_rfl) ⟨_, _, rfl, rfl, rfl⟩ rfl sk0 ?_
                refine wpd_off 34 rfl (by kernel_rfl) ⟨_, _, rfl, rfl, rfl⟩ rfl sk0 ?_
                refine wpd_off 35 rfl (by kernel_rfl) ⟨_, _, rfl, rfl, rfl⟩ rfl sk0 ?_
                refine wpd_off 36 rfl (by kernel_rfl) ⟨_, _, rfl, rfl, rfl⟩ rfl sk0 ?_
                refine wpd_p 37 rfl (by kernel_rfl) trivial (q_pure rfl) rfl sk0 ?_
                refine wpd_re 141 rfl (congrArg Value.bool (show _ = !(sameK (s.ks.getD i KE.z) ((scanR (s.dk ++ s.pd)).1.getD i KE.z)) by first | exact sk1 (by first | exact hb112 | exact bne_iff_ne.1 hb112) | exact sk2 (by first | exact hb122 | exact bne_iff_ne.1 hb122) | exact sk3 (by first | exact hb132 | exact bne_iff_ne.1 hb132) | exact sk4 (by first | exact hb112 | exact bne_eq_false_iff_eq.1 hb112) (by first | exact hb122 | exact bne_eq_false_iff_eq.1 hb122) (by first | exact hb132 | exact bne_eq_false_iff_eq.1 hb132) | exact sk4n (by first | exact hb112 | exact bne_eq_false_iff_eq.1 hb112) (by first | exact hb122 | exact bne_eq_false_iff_eq.1 hb122) (by first | exact hb132 | exact bne_eq_false_iff_eq.1 hb132))) ?_
                refine wpd_done (by kernel_rfl) ?_
                refine ex_mid ⟨(), trivial⟩ ?_ ?_
                ·
                 exact (by repeat (first | exact trivial | refine ⟨rfl, ?_⟩))
                ·
                 exact fun w h => by first | exact h | exact h.sub SubC.h SubC.h | exact h.sub (by repeat (first | exact Sub.nil | exact Sub.refl _ | with_reducible refine Sub.keep ?_ | refine Sub.drop ?_)) (by repeat (first | exact Sub.nil | exact Sub.refl _ | with_reducible refine Sub.keep ?_ | refine Sub.drop ?_))
               ·
                try simp only [decide_eq_true_eq, decide_eq_false_iff_not, Bool.and_eq_true, Bool.or_eq_true, beq_iff_eq, bne_iff_ne, ne_eq, Bool.not_eq_true', Bool.not_eq_false', Decidable.not_not] at hb132
                refine wpd_p 29 rfl (by kernel_rfl) ⟨_, rfl, rfl⟩ (q_field Try.underlying66 rfl Try.ti4 rfl rfl _ rfl) rfl sk0 ?_
                refine wpd_q 30 rfl (by kernel_rfl) ⟨_, rfl, rfl⟩ (q_ld Try.underlying4 rfl rfl (by first | exact vbs_get (by first | decide | omega | exact Nat.zero_lt_one | (simp; omega) | (simp; done) | (simp only [v8s_length, v32s_length, vis_length, vns_length, v64s_length]; omega)) | rfl)) rfl (fun _ h => h) ?_
                refine wpd_p 31 rfl (by kernel_rfl) ⟨_, rfl, rfl⟩ (q_pure rfl) rfl sk0 ?_
                refine wpd_p 32 rfl (by kernel_rfl) ⟨_, rfl, rfl⟩ (q_pure rfl) rfl sk0 ?_
                refine wpd_p 33 rfl (by kernel_rfl) ⟨_, rfl, rfl⟩ (q_idxW Try.underlying25 Try.ti66 rfl rfl (by first | assumption | exact SV.nil | exact SV.slv (by assumption) (by omega) (by omega) | exact arv_sv (by first | decide | (simp only [maxLen]; omega))) (by first | omega | (simp only [maxLen]; omega) | (simp only [List.length_append, List.length_cons, List.length_nil, List.length_take, maxLen]; omega) | (simp only [List.length_append, List.length_cons, List.length_nil, List.length_take]; omega))) rfl sk0 ?_
                refine wpd_p 34 rfl (by kernel_rfl) ⟨_, rfl, rfl⟩ (q_fieldPo 5 Try.underlying66 rfl Try.ti4 rfl rfl rfl) rfl sk0 ?_
                refine wpd_q 35 rfl (by kernel_rfl) ⟨_, rfl, rfl⟩ (q_ldWF Try.underlying4 rfl rfl (fun w h => (show Seen w.cell? b53 (scanR (s.dk ++ s.pd)).1.length 6 (kcs (scanR (s.dk ++ s.pd)).1) from h.seenV)) (kcs_get hia rfl)) rfl (fun _ h => h) ?_
                refine wpd_p 36 rfl (by kernel_rfl) ⟨_, rfl, rfl⟩ (q_bne Try.underlying4 rfl rfl) rfl sk0 ?_
                refine wpd_p 37 rfl (by kernel_rfl) trivial (q_pure rfl) rfl sk0 ?_
                refine wpd_re 141 rfl (congrArg Value.bool (show _ = !(sameK (s.ks.getD i KE.z) ((scanR (s.dk ++ s.pd)).1.getD i KE.z)) by first | exact sk1 (by first | exact hb112 | exact bne_iff_ne.1 hb112) | exact sk2 (by first | exact hb122 | exact bne_iff_ne.1 hb122) | exact sk3 (by first | exact hb132 | exact bne_iff_ne.1 hb132) | exact sk4 (by first | exact hb112 | exact bne_eq_false_iff_eq.1 hb112) (by first | exact hb122 | exact bne_eq_false_iff_eq.1 hb122) (by first | exact hb132 | exact bne_eq_false_iff_eq.1 hb132) | exact sk4n (by first | exact hb112 | exact bne_eq_false_iff_eq.1 hb112) (by first | exact hb122 | exact bne_eq_false_iff_eq.1 hb122) (by first | exact hb132 | exact bne_eq_false_iff_eq.1 hb132))) ?_
                refine wpd_done (by kernel_rfl) ?_
                refine ex_mid ⟨(), trivial⟩ ?_ ?_
                ·
                 exact (by repeat (first | exact trivial | refine ⟨rfl, ?_⟩))
                ·
                 exact fun w h => by first | exact h | exact h.sub SubC.h SubC.h | exact h.sub (by repeat (first | exact Sub.nil | exact Sub.refl _ | with_reducible refine Sub.keep ?_ | refine Sub.drop ?_)) (by repeat (first | exact Sub.nil | exact Sub.refl _ | with_reducible refine Sub.keep ?_ | refine Sub.drop ?_))
            ·
             rintro ⟨_, _⟩; try dsimp only
             refine wpc_cond rfl (fun hc141 => ?_) (fun hc141 => ?_)
             ·
              simp only [Bool.not_eq_true'] at hc141
              refine wpc_seq ?_
              refine wpc_region ?_
              refine wpl_q (q_pure rfl) rfl ?_
              refine wpl_nil ?_
              refine ex_then ?_
              refine wpc_ret ?_
              refine ex_then_ret ?_
              refine ex_block_ret ?_
              refine ex_then_ret ?_
              refine ex_then_ret ?_
              refine ex_block_ret ?_
              refine ex_then_ret ?_
              refine ret1 (.inl rfl) rfl rfl ?_
              exact fun w h => ⟨by rw [chk8 (fun hh => by have h4 := (ku hh hc30).2.2.2 i hik; rw [sameK_f hc141] at h4; cases h4)], h.below⟩
             ·
              simp only [Bool.not_eq_false'] at hc141
              have hsk := sameK_t hc141
              have hdq : (durQ (scanR s.dk).1 (s.ks.getD i KE.z).id) = (durF (scanR s.dk).1 i) := by rw [hsk.1]; exact dur_eq hn1 hia
              refine wpc_skip ?_
              refine ex_then ?_
              refine wpc_seq ?_
              refine wpc_region ?_
              refine wpl_q (q_field Try.underlying66 rfl Try.ti3 rfl rfl _ rfl) rfl ?_
              refine wpl_q (q_ld Try.underlying3 rfl rfl (by first | exact vns_get (by first | decide | omega | exact Nat.zero_lt_one | (simp; omega) | (simp; done) | (simp only [v8s_length, v32s_length, vis_length, vns_length, v64s_length]; omega)) | rfl)) rfl ?_
              refine wpl_q (q_pure rfl) rfl ?_
              refine wpl_q (q_pure rfl) rfl ?_
              refine wpl_q (q_pure rfl) rfl ?_
              refine wpl_bool2 146 145 rfl rfl (fun hb146 => ?_) (fun hb146 => ?_)
              ·
               try simp only [decide_eq_true_eq, decide_eq_false_iff_not, Bool.and_eq_true, Bool.or_eq_true, beq_iff_eq, bne_iff_ne, ne_eq, Bool.not_eq_true', Bool.not_eq_false', Decidable.not_not] at hb146
               refine wpl_off rfl rfl rfl rfl ?_
               refine wpl_off rfl rfl rfl rfl ?_
               refine wpl_off rfl rfl rfl rfl ?_
               refine wpl_q (q_pure rfl) rfl ?_
               refine wpl_q (q_pure rfl) rfl ?_
               refine wpl_off rfl rfl rfl rfl ?_
               refine wpl_off rfl rfl rfl rfl ?_
               refine wpl_off rfl rfl rfl rfl ?_
               refine wpl_off rfl rfl rfl rfl ?_
               refine wpl_q (q_pure rfl) rfl ?_
               refine wpl_nil ?_
               refine ex_then ?_
               refine wpc_cond_t rfl ?_
               refine wpc_seq ?_
               refine wpc_region ?_
               refine wpl_q (q_pure rfl) rfl ?_
               refine wpl_nil ?_
               refine ex_then ?_
               refine wpc_ret ?_
               refine ex_block_ret ?_
               refine ex_then_ret ?_
               refine ex_then_ret ?_
               refine ex_block_ret ?_
               refine ex_then_ret ?_
               refine ret1 (.inl rfl) rfl rfl ?_
               exact fun w h => ⟨by rw [chk8 (fun hh => by have h4 := (ku hh hc30).2.2.2 i hik; rw [okq5 (hdq ▸ (by first | exact hb146 | exact bne_iff_ne.1 hb146))] at h4; cases h4)], h.below⟩
              ·
               try simp only [decide_eq_true_eq, decide_eq_false_iff_not, Bool.and_eq_true, Bool.or_eq_true, beq_iff_eq, bne_iff_ne, ne_eq, Bool.not_eq_true', Bool.not_eq_false', Decidable.not_not] at hb146
               refine wpl_on rfl rfl ?_
               refine wpl_q (q_field Try.underlying66 rfl Try.ti3 rfl rfl _ rfl) rfl ?_
               refine wpl_on rfl rfl ?_
               refine wpl_q (q_ld Try.underlying3 rfl rfl (by first | exact vns_get (by first | decide | omega | exact Nat.zero_lt_one | (simp; omega) | (simp; done) | (simp only [v8s_length, v32s_length, vis_length, vns_length, v64s_length]; omega)) | rfl)) rfl ?_
               refine wpl_on rfl rfl ?_
               refine wpl_q (q_pure rfl) rfl ?_
               refine wpl_q (q_pure rfl) rfl ?_
               refine wpl_q (q_pure rfl) rfl ?_
               refine wpl_bool2 151 149 rfl rfl (fun hb151 => ?_) (fun hb151 => ?_)
               ·
                try simp only [decide_eq_true_eq, decide_eq_false_iff_not, Bool.and_eq_true, Bool.or_eq_true, beq_iff_eq, bne_iff_ne, ne_eq, Bool.not_eq_true', Bool.not_eq_false', Decidable.not_not] at hb151
                refine wpl_off rfl rfl rfl rfl ?_
                refine wpl_off rfl rfl rfl rfl ?_
                refine wpl_off rfl rfl rfl rfl ?_
                refine wpl_off rfl rfl rfl rfl ?_
                refine wpl_q (q_pure rfl) rfl ?_
                refine wpl_nil ?_
                refine ex_then ?_
                refine wpc_cond_t rfl ?_
                refine wpc_seq ?_
                refine wpc_region ?_
                refine wpl_q (q_pure rfl) rfl ?_
                refine wpl_nil ?_
                refine ex_then ?_
                refine wpc_ret ?_
                refine ex_block_ret ?_
                refine ex_then_ret ?_
                refine ex_then_ret ?_
                refine ex_block_ret ?_
                refine ex_then_ret ?_
                refine ret1 (.inl rfl) rfl rfl ?_
                exact fun w h => ⟨by rw [chk8 (fun hh => by have h4 := (ku hh hc30).2.2.2 i hik; rw [okq6 (by first | exact hb151 | exact bne_iff_ne.1 hb151)] at h4; cases h4)], h.below⟩
               ·
                try simp only [decide_eq_true_eq, decide_eq_false_iff_not, Bool.and_eq_true, Bool.or_eq_true, beq_iff_eq, bne_iff_ne, ne_eq, Bool.not_eq_true', Bool.not_eq_false', Decidable.not_not] at hb151
                refine wpl_on rfl rfl ?_
                refine wpl_q (q_field Try.underlying66 rfl Try.ti3 rfl rfl _ rfl) rfl ?_
                refine wpl_on rfl rfl ?_
                refine wpl_q (q_ld Try.underlying3 rfl rfl (by first | exact vns_get (by first | decide | omega | exact Nat.zero_lt_one | (simp; omega) | (simp; done) | (simp only [v8s_length, v32s_length, vis_length, vns_length, v64s_length]; omega)) | rfl)) rfl ?_
                refine wpl_on rfl rfl ?_
                refine wpl_q (q_pure rfl) rfl ?_
                refine wpl_on rfl rfl ?_
                refine wpl_q (q_pure rfl) rfl ?_
                refine wpl_q (q_pure rfl) rfl ?_
                refine wpl_nil ?_
                refine ex_then ?_
                refine wpc_cond rfl (fun hc156 => ?_) (fun hc156 => ?_)
                ·
                 simp only [decide_eq_true_eq, gt_iff_lt] at hc156
                 refine wpc_seq ?_
                 refine wpc_region ?_
                 refine wpl_q (q_pure rfl) rfl ?_
                 refine wpl_nil ?_
                 refine ex_then ?_
                 refine wpc_ret ?_
                 refine ex_block_ret ?_
                 refine ex_then_ret ?_
                 refine ex_then_ret ?_
                 refine ex_block_ret ?_
                 refine ex_then_ret ?_
                 refine ret1 (.inl rfl) rfl rfl ?_
                 exact fun w h => ⟨by rw [chk8 (fun hh => by have h4 := (ku hh hc30).2.2.2 i hik; rw [okq7 (hdq ▸ hc156)] at h4; cases h4)], h.below⟩
                ·
                 simp only [decide_eq_false_iff_not, gt_iff_lt] at hc156
                 refine wpc_skip ?_
                 refine ex_block ?_
                 refine ex_then ?_
                 refine wpc_region ?_
                 refine wpl_q (q_pure rfl) rfl ?_
                 refine wpl_q (q_addN (b := 1) rfl rfl (by first | omega | (simp only [maxLen]; omega) | (simp only [List.length_append, List.length_cons, List.length_nil, List.length_take, maxLen]; omega) | (simp only [List.length_append, List.length_cons, List.length_nil, List.length_take]; omega))) rfl ?_
                 refine wpl_q (q_pure rfl) rfl ?_
                 refine wpl_nil ?_
                 refine ex_again ⟨i + 1, ⟨by omega, fun j hj => by rcases Nat.lt_succ_iff_lt_or_eq.1 hj with h | rfl; exact hi1 j h; exact okq8 hsk.1 hsk.2.1 hsk.2.2.1 hsk.2.2.2 (hdq ▸ (by first | exact hb146 | exact bne_eq_false_iff_eq.1 hb146)) (by first | exact hb151 | exact bne_iff_ne.1 hb151) (hdq ▸ hc156)⟩⟩ ?_ ?_ ?_
                 ·
                  exact (by repeat (first | exact trivial | refine ⟨rfl, ?_⟩))
                 ·
                  exact fun w h => by first | exact h | exact h.sub SubC.h SubC.h | exact h.sub (by repeat (first | exact Sub.nil | exact Sub.refl _ | with_reducible refine Sub.keep ?_ | refine Sub.drop ?_)) (by repeat (first | exact Sub.nil | exact Sub.refl _ | with_reducible refine Sub.keep ?_ | refine Sub.drop ?_))
                 ·
                  (show s.ks.length - (i + 1) < s.ks.length - i); omega
          ·
           simp only [decide_eq_false_iff_not] at hc83
           obtain rfl : i = s.ks.length := by omega
           refine wpc_exit ?_
           refine ex_then_exit ?_
           refine ex_then_exit ?_
           refine ex_block_hit ?_
           refine ex_then ?_
           refine wpc_seq ?_
           refine wpc_region ?_
           refine wpl_q (q_pure rfl) rfl ?_
           refine wpl_nil ?_
           refine ex_then ?_
           refine wpc_ret ?_
           refine ret1 (.inl rfl) rfl rfl ?_
           exact fun w h => ⟨by rw [chk0 (show ChkP s from ⟨by omega, by omega, by omega, (fun hh => by rw [hc30] at hh; cases hh), fun _ => ⟨hn1, hn2, hn3, hi1⟩⟩)], h.below⟩

end Go.Proofs.Ytoaeklbenmlooaa
