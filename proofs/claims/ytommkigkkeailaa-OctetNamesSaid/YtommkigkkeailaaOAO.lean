/- No encoding is a beginning of another. -/
import Derived.Test.YtommkigkkeailaaOAN
namespace Go.Proofs.Ytommkigkkeailaa
set_option linter.unusedSimpArgs false
set_option linter.unusedVariables false
open Go Go.PL Go.RowKit

theorem dec_cut {t : Tr} (hs : Sm t) (hc : checkF t = 0) {k : Nat} (hk : k < (enc t).length) : (decF ((enc t).take k)).2 = 12 := by
  have hl : ((enc t).take k).length ≤ 65536 := by
    have h1 := (checkF_ok hc).2.2.2
    rw [← enc_len t hs] at h1
    rw [List.length_take]; omega
  rcases Decidable.em ((decF ((enc t).take k)).2 = 0) with h | h
  · obtain ⟨h1, h2⟩ := dec_inv h
    have h3 := decF_sm ((enc t).take k)
    generalize (decF ((enc t).take k)).1 = u at h1 h2 h3
    obtain ⟨_, d1, p1, _⟩ := checkF_ok h1
    obtain ⟨_, d2, p2, _⟩ := checkF_ok hc
    have q1 := take_enc u h3.1 p1 12 ((enc t).drop k) d1
    have q2 := take_enc t hs p2 12 [] d2
    rw [h2, List.take_append_drop] at q1
    rw [List.append_nil, q1] at q2
    have q3 := congrArg Prod.snd (Option.some.inj q2)
    dsimp only at q3
    rw [List.length_take] at q3
    omega
  · rcases (dec_bad h).2 with h1 | h1
    · exact h1.1
    · omega
theorem dec_more {t : Tr} (hs : Sm t) (hc : checkF t = 0) (ys : List UInt8) : (decF (enc t ++ ys)).2 = 0 ↔ ys.length = 0 := by
  constructor
  · intro h
    obtain ⟨h1, h2⟩ := dec_inv h
    have h3 := decF_sm (enc t ++ ys)
    generalize (decF (enc t ++ ys)).1 = u at h1 h2 h3
    obtain ⟨_, d1, p1, _⟩ := checkF_ok h1
    obtain ⟨_, d2, p2, _⟩ := checkF_ok hc
    have q1 := take_enc u h3.1 p1 12 [] d1
    have q2 := take_enc t hs p2 12 ys d2
    rw [List.append_nil, h2, q2] at q1
    have q3 := congrArg Prod.snd (Option.some.inj q1)
    dsimp only at q3
    rw [List.length_append] at q3
    omega
  · intro h
    rw [List.eq_nil_of_length_eq_zero h, List.append_nil, dec_enc hs hc]
theorem eq_bools {a b : Bool} (h : a = true ↔ b = true) : (a == b) = true := by cases a <;> cases b <;> simp_all

set_option maxRecDepth 100000 in
theorem octetCuts (t : HT) (n : Int) (av : Value) (xs : List UInt8) (w : World) (ht : HSeen w.cell? t) (hav : Seen w.cell? av xs.length 1 (v8s xs)) (hlt : Lens t) :
    Calls Try.prog 8 [.agg t.c.toArray, .int .i64 n, av].toArray w (Pur w (.bool true)) := by
  haveI := ht.sv.one
  have sav := hav.sv
  have lav := sav.le
  simp only [maxLen] at lav
  refine enter (m := 72) (R := Mem w [] [] []) Try.func8 rfl rfl (Nat.le_of_ble_eq_true rfl) (Mem.start w) ?_
  refine wpc_seq ?_
  refine wpc_region ?_
  refine wpl_t (t_box rfl t.c rfl) rfl (fun b3 => ?_)
  refine wpl_q (q_pure rfl) rfl ?_
  refine wpl_nil ?_
  refine ex_then ?_
  refine wpc_seq ?_
  refine wpc_region ?_
  refine wpl_t (t_pur (v := .bool true) Try.hb38 rfl fun w h => alive w) rfl (fun b15 => ?_)
  refine wpl_q (q_pure rfl) rfl ?_
  refine wpl_nil ?_
  refine ex_then ?_
  refine wpc_seq ?_
  refine wpc_seq ?_
  refine wpc_region ?_
  refine wpl_q (q_ldN Try.underlying25 rfl Try.ti25 rfl LenC.h) rfl ?_
  refine wpl_t (t_pur Try.hb12 rfl fun w h => great t w (ht.old h) hlt) rfl (fun b17 => ?_)
  refine wpl_q (q_pure rfl) rfl ?_
  refine wpl_bool2 18 17 rfl rfl (fun hb18 => ?_) (fun hb18 => ?_)
  ·
   refine wpl_off rfl rfl rfl rfl ?_
   refine wpl_off rfl rfl rfl rfl ?_
   refine wpl_off rfl rfl rfl rfl ?_
   refine wpl_q (q_pure rfl) rfl ?_
   refine wpl_q (q_pure rfl) rfl ?_
   refine wpl_off rfl rfl rfl rfl ?_
   refine wpl_off rfl rfl rfl rfl ?_
   refine wpl_q (q_pure rfl) rfl ?_
   refine wpl_nil ?_
   refine ex_then ?_
   refine wpc_cond_t rfl ?_
   refine wpc_seq ?_
   refine wpc_region ?_
   refine wpl_q (q_pure rfl) rfl ?_
   refine wpl_q (q_pure rfl) rfl ?_
   refine wpl_nil ?_
   refine ex_then ?_
   refine wpc_ret ?_
   refine ex_then_ret ?_
   refine ret1 (.inl rfl) rfl rfl ?_
   exact fun w h => ⟨rfl, h.below⟩
  ·
   have g1 : ¬ GreatT t.tr := by simpa using hb18
   have s1 := great_sm g1
   have n1 := great_no g1
   have hEl := encF_le t.tr s1
   refine wpl_on rfl rfl ?_
   refine wpl_q (q_pure rfl) rfl ?_
   refine wpl_on rfl rfl ?_
   refine wpl_q (q_lenW Try.underlying22 rfl (by first | assumption | exact SV.nil | exact SV.slv (by assumption) (by omega) (by omega) | exact arv_sv (by first | decide | (simp only [maxLen]; omega)))) rfl ?_
   refine wpl_on rfl rfl ?_
   refine wpl_q (q_pure rfl) rfl ?_
   refine wpl_q (q_pure rfl) rfl ?_
   refine wpl_q (q_pure rfl) rfl ?_
   refine wpl_bool2 23 21 rfl rfl (fun hb23 => ?_) (fun hb23 => ?_)
   ·
    refine wpl_off rfl rfl rfl rfl ?_
    refine wpl_off rfl rfl rfl rfl ?_
    refine wpl_q (q_pure rfl) rfl ?_
    refine wpl_nil ?_
    refine ex_then ?_
    refine wpc_cond_t rfl ?_
    refine wpc_seq ?_
    refine wpc_region ?_
    refine wpl_q (q_pure rfl) rfl ?_
    refine wpl_q (q_pure rfl) rfl ?_
    refine wpl_nil ?_
    refine ex_then ?_
    refine wpc_ret ?_
    refine ex_then_ret ?_
    refine ret1 (.inl rfl) rfl rfl ?_
    exact fun w h => ⟨rfl, h.below⟩
   ·
    try simp only [decide_eq_false_iff_not] at hb23
    refine wpl_on rfl rfl ?_
    refine wpl_q (q_pure rfl) rfl ?_
    refine wpl_on rfl rfl ?_
    refine wpl_q (q_pure rfl) rfl ?_
    refine wpl_q (q_pure rfl) rfl ?_
    refine wpl_nil ?_
    refine ex_then ?_
    refine wpc_cond_f rfl ?_
    refine wpc_skip ?_
    refine ex_then ?_
    refine wpc_seq ?_
    refine wpc_region ?_
    refine wpl_q (q_ldN Try.underlying25 rfl Try.ti25 rfl LenC.h) rfl ?_
    refine wpl_tp (t_callP1 Try.hb33 rfl fun w h => octEncode t w (ht.old h) (s1) (by omega)) rfl (fun b30 p30 => ?_)
    refine wpl_q (q_pure rfl) rfl ?_
    refine wpl_q (q_pure rfl) rfl ?_
    refine wpl_q (q_pure rfl) rfl ?_
    refine wpl_q (q_pure rfl) rfl ?_
    refine wpl_q (q_pure rfl) rfl ?_
    refine wpl_nil ?_
    refine ex_then ?_
    refine wpc_seq ?_
    refine wpc_seq ?_
    refine wpc_region ?_
    refine wpl_q (q_pure rfl) rfl ?_
    refine wpl_q (q_pure rfl) rfl ?_
    refine wpl_nil ?_
    refine ex_then ?_
    refine wpc_cond rfl (fun hc34 => ?_) (fun hc34 => ?_)
    ·
     refine wpc_seq ?_
     refine wpc_region ?_
     refine wpl_q (q_pure rfl) rfl ?_
     refine wpl_q (q_pure rfl) rfl ?_
     refine wpl_nil ?_
     refine ex_then ?_
     refine wpc_ret ?_
     refine ex_then_ret ?_
     refine ret1 (.inl rfl) rfl rfl ?_
     exact fun w h => ⟨rfl, h.below⟩
    ·
     have hZ : checkF t.tr = 0 := encF_iff.1 (by simpa using hc34)
     have hE : (encF t.tr).1 = enc t.tr := by rw [encF_ok hZ]
     refine wpc_skip ?_
     refine ex_then ?_
     refine wpc_seq ?_
     refine wpc_seq ?_
     refine wpc_region ?_
     refine wpl_q (q_pure rfl) rfl ?_
     refine wpl_q (q_pure rfl) rfl ?_
     refine wpl_q (q_pure rfl) rfl ?_
     refine wpl_bool2 38 37 rfl rfl (fun hb38 => ?_) (fun hb38 => ?_)
     ·
      try simp only [decide_eq_true_eq] at hb38
      refine wpl_on rfl rfl ?_
      refine wpl_q (q_pure rfl) rfl ?_
      refine wpl_on rfl rfl ?_
      refine wpl_q (q_pure rfl) rfl ?_
      refine wpl_on rfl rfl ?_
      refine wpl_q (q_lenW Try.underlying22 rfl (by first | assumption | exact SV.nil | exact SV.slv (by assumption) (by omega) (by omega) | exact arv_sv (by first | decide | (simp only [maxLen]; omega)))) rfl ?_
      refine wpl_on rfl rfl ?_
      refine wpl_q (q_pure rfl) rfl ?_
      refine wpl_q (q_pure rfl) rfl ?_
      refine wpl_nil ?_
      refine ex_then ?_
      refine wpc_cond rfl (fun hc43 => ?_) (fun hc43 => ?_)
      ·
       simp only [decide_eq_true_eq] at hc43
       obtain ⟨k, rfl⟩ : ∃ k : Nat, n = (k : Int) := ⟨n.toNat, by omega⟩
       have hk : k ≤ (encF t.tr).1.length := by omega
       have hk2 : k < (enc t.tr).length := by rw [← hE]; omega
       refine wpc_seq ?_
       refine wpc_region ?_
       refine wpl_q (q_pure rfl) rfl ?_
       refine wpl_q (q_pure rfl) rfl ?_
       refine wpl_q (q_slWh Try.underlying22 Try.ti5 rfl rfl (by first | assumption | exact SV.nil | exact SV.slv (by assumption) (by omega) (by omega) | exact arv_sv (by first | decide | (simp only [maxLen]; omega))) (by omega)) rfl ?_
       refine wpl_tp (t_callPT Try.hb35 rfl fun w h => frz (decode (slv b30 0 k 1) ((encF t.tr).1.take k) w (cutB (h.seenV) hk))) rfl (fun b48 p48 => ?_)
       haveI := p48.2.one
       refine wpl_q (q_pure rfl) rfl ?_
       refine wpl_q (q_pure rfl) rfl ?_
       refine wpl_q (q_pure rfl) rfl ?_
       refine wpl_t (t_alloc Try.ti25 HT.z.c rfl) rfl (fun b10 => ?_)
       refine wpl_t0 (t_stA Try.ti25 rfl rfl LenC.h OneC.h LenC.h) (fun _ => ?_)
       refine wpl_q (q_pure rfl) rfl ?_
       refine wpl_nil ?_
       refine ex_then ?_
       refine wpc_seq ?_
       refine wpc_region ?_
       refine wpl_q (q_pure rfl) rfl ?_
       refine wpl_q (q_bt (c := false) (q_neI rfl rfl) (by rw [hE, dec_cut s1 hZ hk2]; rfl)) rfl ?_
       refine wpl_nil ?_
       refine ex_then ?_
       refine wpc_cond_f rfl ?_
       refine wpc_skip ?_
       refine ex_then ?_
       refine wpc_seq ?_
       refine wpc_region ?_
       refine wpl_tp (t_bs0W Try.underlying22 Try.ti5) rfl (fun b53 p53 => ?_)
       refine wpl_q (q_pure rfl) rfl ?_
       refine wpl_tp (t_ap0 Try.underlying22 Try.ti5 rfl (by decide) rfl rfl (fun w h => h.seenV (v := b30)) OneC.h (by first | omega | (simp only [maxLen]; omega) | (simp only [List.length_append, List.length_cons, List.length_nil, List.length_take, maxLen]; omega) | (simp only [List.length_append, List.length_cons, List.length_nil, List.length_take]; omega)) (by first | omega | (simp only [maxLen]; omega) | (simp only [List.length_append, List.length_cons, List.length_nil, List.length_take, maxLen]; omega) | (simp only [List.length_append, List.length_cons, List.length_nil, List.length_take]; omega))) rfl (fun b55 p55 => ?_)
       refine wpl_q (q_pure rfl) rfl ?_
       refine wpl_tp (t_apW Try.underlying22 Try.ti5 rfl (by decide) rfl rfl (fun w h => h.seen_old hav) (v8s_one _) (by first | omega | (simp only [maxLen]; omega) | (simp only [List.length_append, List.length_cons, List.length_nil, List.length_take, maxLen]; omega) | (simp only [List.length_append, List.length_cons, List.length_nil, List.length_take]; omega)) (by first | omega | (simp only [maxLen]; omega) | (simp only [List.length_append, List.length_cons, List.length_nil, List.length_take, maxLen]; omega) | (simp only [List.length_append, List.length_cons, List.length_nil, List.length_take]; omega)) (v8s ((encF t.tr).1 ++ xs)) (v8s_append _ _).symm) rfl (fun b57 p57 => ?_)
       refine wpl_q (q_pure rfl) rfl ?_
       refine wpl_nil ?_
       refine ex_then ?_
       refine wpc_seq ?_
       refine wpc_region ?_
       refine wpl_q (q_pure rfl) rfl ?_
       refine wpl_tp (t_callPT Try.hb35 rfl fun w h => frz (decode b57 ((encF t.tr).1 ++ xs) w (by have q := h.seenV (v := b57); rw [← List.length_append] at q; exact q))) rfl (fun b60 p60 => ?_)
       haveI := p60.2.one
       refine wpl_q (q_pure rfl) rfl ?_
       refine wpl_q (q_pure rfl) rfl ?_
       refine wpl_q (q_pure rfl) rfl ?_
       refine wpl_t (t_alloc Try.ti25 HT.z.c rfl) rfl (fun b13 => ?_)
       refine wpl_t0 (t_stA Try.ti25 rfl rfl LenC.h OneC.h LenC.h) (fun _ => ?_)
       refine wpl_q (q_pure rfl) rfl ?_
       refine wpl_nil ?_
       refine ex_then ?_
       refine wpc_seq ?_
       refine wpc_region ?_
       refine wpl_q (q_pure rfl) rfl ?_
       refine wpl_q (q_pure rfl) rfl ?_
       refine wpl_on rfl rfl ?_
       refine wpl_q (q_pure rfl) rfl ?_
       refine wpl_on rfl rfl ?_
       refine wpl_q (q_pure rfl) rfl ?_
       refine wpl_on rfl rfl ?_
       refine wpl_q (q_pure rfl) rfl ?_
       refine wpl_on rfl rfl ?_
       refine wpl_q (q_lenW Try.underlying22 rfl (by first | assumption | exact SV.nil | exact SV.slv (by assumption) (by omega) (by omega) | exact arv_sv (by first | decide | (simp only [maxLen]; omega)))) rfl ?_
       refine wpl_on rfl rfl ?_
       refine wpl_q (q_pure rfl) rfl ?_
       refine wpl_on rfl rfl ?_
       refine wpl_q (q_tru (q_beq Try.underlying4 rfl rfl) (by apply Bool.eq_iff_iff.2; simp only [beq_iff_eq, decide_eq_true_eq]; rw [hE, dec_more s1 hZ]; omega)) rfl ?_
       refine wpl_q (q_pure rfl) rfl ?_
       refine wpl_q (q_pure rfl) rfl ?_
       refine wpl_nil ?_
       refine ex_then ?_
       refine wpc_ret ?_
       refine ret1 (.inl rfl) rfl rfl ?_
       exact fun w h => ⟨rfl, h.below⟩
      ·
       refine wpc_skip ?_
       refine ex_then ?_
       refine wpc_seq ?_
       refine wpc_region ?_
       refine wpl_tp (t_bs0W Try.underlying22 Try.ti5) rfl (fun b53 p53 => ?_)
       refine wpl_q (q_pure rfl) rfl ?_
       refine wpl_tp (t_ap0 Try.underlying22 Try.ti5 rfl (by decide) rfl rfl (fun w h => h.seenV (v := b30)) OneC.h (by first | omega | (simp only [maxLen]; omega) | (simp only [List.length_append, List.length_cons, List.length_nil, List.length_take, maxLen]; omega) | (simp only [List.length_append, List.length_cons, List.length_nil, List.length_take]; omega)) (by first | omega | (simp only [maxLen]; omega) | (simp only [List.length_append, List.length_cons, List.length_nil, List.length_take, maxLen]; omega) | (simp only [List.length_append, List.length_cons, List.length_nil, List.length_take]; omega))) rfl (fun b55 p55 => ?_)
       refine wpl_q (q_pure rfl) rfl ?_
       refine wpl_tp (t_apW Try.underlying22 Try.ti5 rfl (by decide) rfl rfl (fun w h => h.seen_old hav) (v8s_one _) (by first | omega | (simp only [maxLen]; omega) | (simp only [List.length_append, List.length_cons, List.length_nil, List.length_take, maxLen]; omega) | (simp only [List.length_append, List.length_cons, List.length_nil, List.length_take]; omega)) (by first | omega | (simp only [maxLen]; omega) | (simp only [List.length_append, List.length_cons, List.length_nil, List.length_take, maxLen]; omega) | (simp only [List.length_append, List.length_cons, List.length_nil, List.length_take]; omega)) (v8s ((encF t.tr).1 ++ xs)) (v8s_append _ _).symm) rfl (fun b57 p57 => ?_)
       refine wpl_q (q_pure rfl) rfl ?_
       refine wpl_nil ?_
       refine ex_then ?_
       refine wpc_seq ?_
       refine wpc_region ?_
       refine wpl_q (q_pure rfl) rfl ?_
       refine wpl_tp (t_callPT Try.hb35 rfl fun w h => frz (decode b57 ((encF t.tr).1 ++ xs) w (by have q := h.seenV (v := b57); rw [← List.length_append] at q; exact q))) rfl (fun b60 p60 => ?_)
       haveI := p60.2.one
       refine wpl_q (q_pure rfl) rfl ?_
       refine wpl_q (q_pure rfl) rfl ?_
       refine wpl_q (q_pure rfl) rfl ?_
       refine wpl_t (t_alloc Try.ti25 HT.z.c rfl) rfl (fun b13 => ?_)
       refine wpl_t0 (t_stA Try.ti25 rfl rfl LenC.h OneC.h LenC.h) (fun _ => ?_)
       refine wpl_q (q_pure rfl) rfl ?_
       refine wpl_nil ?_
       refine ex_then ?_
       refine wpc_seq ?_
       refine wpc_region ?_
       refine wpl_q (q_pure rfl) rfl ?_
       refine wpl_q (q_pure rfl) rfl ?_
       refine wpl_on rfl rfl ?_
       refine wpl_q (q_pure rfl) rfl ?_
       refine wpl_on rfl rfl ?_
       refine wpl_q (q_pure rfl) rfl ?_
       refine wpl_on rfl rfl ?_
       refine wpl_q (q_pure rfl) rfl ?_
       refine wpl_on rfl rfl ?_
       refine wpl_q (q_lenW Try.underlying22 rfl (by first | assumption | exact SV.nil | exact SV.slv (by assumption) (by omega) (by omega) | exact arv_sv (by first | decide | (simp only [maxLen]; omega)))) rfl ?_
       refine wpl_on rfl rfl ?_
       refine wpl_q (q_pure rfl) rfl ?_
       refine wpl_on rfl rfl ?_
       refine wpl_q (q_tru (q_beq Try.underlying4 rfl rfl) (by apply Bool.eq_iff_iff.2; simp only [beq_iff_eq, decide_eq_true_eq]; rw [hE, dec_more s1 hZ]; omega)) rfl ?_
       refine wpl_q (q_pure rfl) rfl ?_
       refine wpl_q (q_pure rfl) rfl ?_
       refine wpl_nil ?_
       refine ex_then ?_
       refine wpc_ret ?_
       refine ret1 (.inl rfl) rfl rfl ?_
       exact fun w h => ⟨rfl, h.below⟩
     ·
      refine wpl_off rfl rfl rfl rfl ?_
      refine wpl_off rfl rfl rfl rfl ?_
      refine wpl_off rfl rfl rfl rfl ?_
      refine wpl_off rfl rfl rfl rfl ?_
      refine wpl_q (q_pure rfl) rfl ?_
      refine wpl_nil ?_
      refine ex_then ?_
      refine wpc_cond_f rfl ?_
      refine wpc_skip ?_
      refine ex_then ?_
      refine wpc_seq ?_
      refine wpc_region ?_
      refine wpl_tp (t_bs0W Try.underlying22 Try.ti5) rfl (fun b53 p53 => ?_)
      refine wpl_q (q_pure rfl) rfl ?_
      refine wpl_tp (t_ap0 Try.underlying22 Try.ti5 rfl (by decide) rfl rfl (fun w h => h.seenV (v := b30)) OneC.h (by first | omega | (simp only [maxLen]; omega) | (simp only [List.length_append, List.length_cons, List.length_nil, List.length_take, maxLen]; omega) | (simp only [List.length_append, List.length_cons, List.length_nil, List.length_take]; omega)) (by first | omega | (simp only [maxLen]; omega) | (simp only [List.length_append, List.length_cons, List.length_nil, List.length_take, maxLen]; omega) | (simp only [List.length_append, List.length_cons, List.length_nil, List.length_take]; omega))) rfl (fun b55 p55 => ?_)
      refine wpl_q (q_pure rfl) rfl ?_
      refine wpl_tp (t_apW Try.underlying22 Try.ti5 rfl (by decide) rfl rfl (fun w h => h.seen_old hav) (v8s_one _) (by first | omega | (simp only [maxLen]; omega) | (simp only [List.length_append, List.length_cons, List.length_nil, List.length_take, maxLen]; omega) | (simp only [List.length_append, List.length_cons, List.length_nil, List.length_take]; omega)) (by first | omega | (simp only [maxLen]; omega) | (simp only [List.length_append, List.length_cons, List.length_nil, List.length_take, maxLen]; omega) | (simp only [List.length_append, List.length_cons, List.length_nil, List.length_take]; omega)) (v8s ((encF t.tr).1 ++ xs)) (v8s_append _ _).symm) rfl (fun b57 p57 => ?_)
      refine wpl_q (q_pure rfl) rfl ?_
      refine wpl_nil ?_
      refine ex_then ?_
      refine wpc_seq ?_
      refine wpc_region ?_
      refine wpl_q (q_pure rfl) rfl ?_
      refine wpl_tp (t_callPT Try.hb35 rfl fun w h => frz (decode b57 ((encF t.tr).1 ++ xs) w (by have q := h.seenV (v := b57); rw [← List.length_append] at q; exact q))) rfl (fun b60 p60 => ?_)
      haveI := p60.2.one
      refine wpl_q (q_pure rfl) rfl ?_
      refine wpl_q (q_pure rfl) rfl ?_
      refine wpl_q (q_pure rfl) rfl ?_
      refine wpl_t (t_alloc Try.ti25 HT.z.c rfl) rfl (fun b13 => ?_)
      refine wpl_t0 (t_stA Try.ti25 rfl rfl LenC.h OneC.h LenC.h) (fun _ => ?_)
      refine wpl_q (q_pure rfl) rfl ?_
      refine wpl_nil ?_
      refine ex_then ?_
      refine wpc_seq ?_
      refine wpc_region ?_
      refine wpl_q (q_pure rfl) rfl ?_
      refine wpl_q (q_pure rfl) rfl ?_
      refine wpl_on rfl rfl ?_
      refine wpl_q (q_pure rfl) rfl ?_
      refine wpl_on rfl rfl ?_
      refine wpl_q (q_pure rfl) rfl ?_
      refine wpl_on rfl rfl ?_
      refine wpl_q (q_pure rfl) rfl ?_
      refine wpl_on rfl rfl ?_
      refine wpl_q (q_lenW Try.underlying22 rfl (by first | assumption | exact SV.nil | exact SV.slv (by assumption) (by omega) (by omega) | exact arv_sv (by first | decide | (simp only [maxLen]; omega)))) rfl ?_
      refine wpl_on rfl rfl ?_
      refine wpl_q (q_pure rfl) rfl ?_
      refine wpl_on rfl rfl ?_
      refine wpl_q (q_tru (q_beq Try.underlying4 rfl rfl) (by apply Bool.eq_iff_iff.2; simp only [beq_iff_eq, decide_eq_true_eq]; rw [hE, dec_more s1 hZ]; omega)) rfl ?_
      refine wpl_q (q_pure rfl) rfl ?_
      refine wpl_q (q_pure rfl) rfl ?_
      refine wpl_nil ?_
      refine ex_then ?_
      refine wpc_ret ?_
      refine ret1 (.inl rfl) rfl rfl ?_
      exact fun w h => ⟨rfl, h.below⟩

end Go.Proofs.Ytommkigkkeailaa
