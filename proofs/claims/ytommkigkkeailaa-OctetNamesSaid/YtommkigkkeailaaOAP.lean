/- Encodings of lists. -/
import Derived.Test.YtommkigkkeailaaOAO
namespace Go.Proofs.Ytommkigkkeailaa
set_option linter.unusedSimpArgs false
set_option linter.unusedVariables false
open Go Go.PL Go.RowKit

theorem checkF_mk {t : Tr} (h1 : t.cnt ≤ 4000) (h2 : t.dep ≤ 12) (h3 : t.shp = true) (h4 : t.siz ≤ 65536) : checkF t = 0 := by
  unfold checkF
  rw [if_neg (by omega), if_neg (by rw [h3]; simp), if_neg (by omega)]
theorem check_two {g : UInt8} {x y : Tr} (h : checkF (.nd g [] [x, y]) = 0) : checkF x = 0 ∧ checkF y = 0 ∧ 128 ≤ g.toNat := by
  obtain ⟨a, b, c, d⟩ := checkF_ok h
  have a : 1 + (x.cnt + (y.cnt + 0)) ≤ 4000 := a
  have b : max x.dep (max y.dep 0) + 1 ≤ 12 := b
  have d : 1 + wideF (0 + (x.siz + (y.siz + 0))) + (0 + (x.siz + (y.siz + 0))) ≤ 65536 := d
  have c : (!badT g 0 2 && (x.shp && (y.shp && true))) = true := c
  simp only [Bool.and_eq_true, Bool.not_eq_true', badT, Bool.or_eq_false_iff, Bool.and_eq_false_iff, decide_eq_false_iff_not] at c
  refine ⟨checkF_mk (by omega) (by omega) c.2.1 (by omega), checkF_mk (by omega) (by omega) c.2.2.1 (by omega), ?_⟩
  rcases c.1.1.2 with h | h
  · have h : ¬ g.toNat < 128 := h
    omega
  · omega
theorem enc_two (g : UInt8) (x y : Tr) : enc (.nd g [] [x, y]) = (g :: lenB (0 + (x.siz + (y.siz + 0)))) ++ (enc x ++ enc y) := by
  rw [enc, encL, encL, encL]
  show g :: (lenB (0 + (x.siz + (y.siz + 0))) ++ ([] ++ (enc x ++ (enc y ++ [])))) = _
  rw [List.append_nil, List.nil_append]; rfl

set_option maxRecDepth 100000 in
theorem octetJoins (g : UInt8) (t : HT) (u : HT) (w : World) (ht : HSeen w.cell? t) (hu : HSeen w.cell? u) (hlt : Lens t) (hlu : Lens u) :
    Calls Try.prog 9 [.int .u8 g.toNat, .agg t.c.toArray, .agg u.c.toArray].toArray w (Pur w (.bool true)) := by
  haveI := ht.sv.one
  haveI := hu.sv.one
  refine enter (m := 105) (R := Mem w [] [] []) Try.func9 rfl rfl (Nat.le_of_ble_eq_true rfl) (Mem.start w) ?_
  refine wpc_seq ?_
  refine wpc_region ?_
  refine wpl_t (t_box rfl t.c rfl) rfl (fun b4 => ?_)
  refine wpl_t (t_box rfl u.c rfl) rfl (fun b5 => ?_)
  refine wpl_q (q_pure rfl) rfl ?_
  refine wpl_nil ?_
  refine ex_then ?_
  refine wpc_seq ?_
  refine wpc_region ?_
  refine wpl_t (t_pur (v := .bool true) Try.hb38 rfl fun w h => alive w) rfl (fun b15 => ?_)
  refine wpl_q (q_pure rfl) rfl ?_
  refine wpl_nil ?_
  refine ex_then ?_
  refine wpc_seq ?_
  refine wpc_seq ?_
  refine wpc_region ?_
  refine wpl_q (q_ldN Try.underlying25 rfl Try.ti25 rfl LenC.h) rfl ?_
  refine wpl_t (t_pur Try.hb12 rfl fun w h => great t w (ht.old h) hlt) rfl (fun b17 => ?_)
  refine wpl_q (q_pure rfl) rfl ?_
  refine wpl_bool2 18 17 rfl rfl (fun hb18 => ?_) (fun hb18 => ?_)
  ·
   refine wpl_off rfl rfl rfl rfl ?_
   refine wpl_off rfl rfl rfl rfl ?_
   refine wpl_q (q_pure rfl) rfl ?_
   refine wpl_q (q_pure rfl) rfl ?_
   refine wpl_off rfl rfl rfl rfl ?_
   refine wpl_off rfl rfl rfl rfl ?_
   refine wpl_q (q_pure rfl) rfl ?_
   refine wpl_nil ?_
   refine ex_then ?_
   refine wpc_cond_t rfl ?_
   refine wpc_seq ?_
   refine wpc_region ?_
   refine wpl_q (q_pure rfl) rfl ?_
   refine wpl_q (q_pure rfl) rfl ?_
   refine wpl_nil ?_
   refine ex_then ?_
   refine wpc_ret ?_
   refine ex_then_ret ?_
   refine ret1 (.inl rfl) rfl rfl ?_
   exact fun w h => ⟨rfl, h.below⟩
  ·
   have g1 : ¬ GreatT t.tr := by simpa using hb18
   have s1 := great_sm g1
   have n1 := great_no g1
   have l1 := encF_le t.tr s1
   refine wpl_on rfl rfl ?_
   refine wpl_q (q_ldN Try.underlying25 rfl Try.ti25 rfl LenC.h) rfl ?_
   refine wpl_on rfl rfl ?_
   refine wpl_t (t_pur Try.hb12 rfl fun w h => great u w (hu.old h) hlu) rfl (fun b20 => ?_)
   refine wpl_q (q_pure rfl) rfl ?_
   refine wpl_q (q_pure rfl) rfl ?_
   refine wpl_bool2 22 20 rfl rfl (fun hb22 => ?_) (fun hb22 => ?_)
   ·
    refine wpl_off rfl rfl rfl rfl ?_
    refine wpl_off rfl rfl rfl rfl ?_
    refine wpl_q (q_pure rfl) rfl ?_
    refine wpl_nil ?_
    refine ex_then ?_
    refine wpc_cond_t rfl ?_
    refine wpc_seq ?_
    refine wpc_region ?_
    refine wpl_q (q_pure rfl) rfl ?_
    refine wpl_q (q_pure rfl) rfl ?_
    refine wpl_nil ?_
    refine ex_then ?_
    refine wpc_ret ?_
    refine ex_then_ret ?_
    refine ret1 (.inl rfl) rfl rfl ?_
    exact fun w h => ⟨rfl, h.below⟩
   ·
    have g2 : ¬ GreatT u.tr := by simpa using hb22
    have s2 := great_sm g2
    have n2 := great_no g2
    have l2 := encF_le u.tr s2
    refine wpl_on rfl rfl ?_
    refine wpl_q (q_pure rfl) rfl ?_
    refine wpl_on rfl rfl ?_
    refine wpl_q (q_pure rfl) rfl ?_
    refine wpl_q (q_pure rfl) rfl ?_
    refine wpl_nil ?_
    refine ex_then ?_
    refine wpc_cond_f rfl ?_
    refine wpc_skip ?_
    refine ex_then ?_
    refine wpc_seq ?_
    refine wpc_region ?_
    refine wpl_q (q_ldN Try.underlying25 rfl Try.ti25 rfl LenC.h) rfl ?_
    refine wpl_tp (t_callP1 Try.hb33 rfl fun w h => octEncode t w (ht.old h) (s1) (by omega)) rfl (fun b29 p29 => ?_)
    refine wpl_q (q_pure rfl) rfl ?_
    refine wpl_q (q_pure rfl) rfl ?_
    refine wpl_q (q_pure rfl) rfl ?_
    refine wpl_q (q_pure rfl) rfl ?_
    refine wpl_q (q_pure rfl) rfl ?_
    refine wpl_nil ?_
    refine ex_then ?_
    refine wpc_seq ?_
    refine wpc_region ?_
    refine wpl_q (q_ldN Try.underlying25 rfl Try.ti25 rfl LenC.h) rfl ?_
    refine wpl_tp (t_callP1 Try.hb33 rfl fun w h => octEncode u w (hu.old h) (s2) (by omega)) rfl (fun b34 p34 => ?_)
    refine wpl_q (q_pure rfl) rfl ?_
    refine wpl_q (q_pure rfl) rfl ?_
    refine wpl_q (q_pure rfl) rfl ?_
    refine wpl_q (q_pure rfl) rfl ?_
    refine wpl_q (q_pure rfl) rfl ?_
    refine wpl_nil ?_
    refine ex_then ?_
    refine wpc_seq ?_
    refine wpc_region ?_
    refine wpl_q (q_pure rfl) rfl ?_
    refine wpl_q (q_ldN Try.underlying25 rfl Try.ti25 rfl LenC.h) rfl ?_
    refine wpl_q (q_ldN Try.underlying25 rfl Try.ti25 rfl LenC.h) rfl ?_
    refine wpl_tp (t_bsG [.agg t.c.toArray, .agg u.c.toArray] (hcs [t, u]) Try.underlying23 Try.ti25 rfl (by decide) rfl (by decide) (by decide) rfl (by intro v hv; simp only [List.mem_cons, List.not_mem_nil, or_false] at hv; rcases hv with rfl | rfl <;> exact HT.c_length _) rfl) rfl (fun b41 p41 => ?_)
    refine wpl_tp (t_callPT Try.hb20 rfl fun w h => frz (octSeq g b41 [t, u] w h.seenV ⟨ht.old h, hu.old h, trivial⟩ (sm_two g1 g2))) rfl (fun b42 p42 => ?_)
    have hs3 : Sm b42.tr := by rw [p42.1]; exact sm_two g1 g2
    have hd3 : b42.tr.dep ≤ 900000 := by rw [p42.1]; show max t.tr.dep (max u.tr.dep 0) + 1 ≤ 900000; omega
    have l3 := encF_le b42.tr hs3
    refine wpl_tp (t_callP1 Try.hb33 rfl fun w h => octEncode b42 w (Mem.hseenF h (by simp)) (hs3) (hd3)) rfl (fun b43 p43 => ?_)
    refine wpl_q (q_pure rfl) rfl ?_
    refine wpl_q (q_pure rfl) rfl ?_
    refine wpl_q (q_pure rfl) rfl ?_
    refine wpl_q (q_pure rfl) rfl ?_
    refine wpl_q (q_pure rfl) rfl ?_
    refine wpl_nil ?_
    refine ex_then ?_
    refine wpc_seq ?_
    refine wpc_seq ?_
    refine wpc_region ?_
    refine wpl_q (q_pure rfl) rfl ?_
    refine wpl_q (q_pure rfl) rfl ?_
    refine wpl_nil ?_
    refine ex_then ?_
    refine wpc_cond rfl (fun hc47 => ?_) (fun hc47 => ?_)
    ·
     have hN : ¬ checkF b42.tr = 0 := fun h => by rw [encF_ok h] at hc47; simp at hc47
     refine wpc_seq ?_
     refine wpc_region ?_
     refine wpl_q (q_pure rfl) rfl ?_
     refine wpl_q (q_pure rfl) rfl ?_
     refine wpl_on rfl rfl ?_
     refine wpl_q (q_pure rfl) rfl ?_
     refine wpl_on rfl rfl ?_
     refine wpl_q (q_lenW Try.underlying22 rfl (by first | assumption | exact SV.nil | exact SV.slv (by assumption) (by omega) (by omega) | exact arv_sv (by first | decide | (simp only [maxLen]; omega)))) rfl ?_
     refine wpl_on rfl rfl ?_
     refine wpl_q (q_tru (q_eqI rfl rfl) (by rw [encF_bad hN]; rfl)) rfl ?_
     refine wpl_q (q_pure rfl) rfl ?_
     refine wpl_q (q_pure rfl) rfl ?_
     refine wpl_nil ?_
     refine ex_then ?_
     refine wpc_ret ?_
     refine ex_then_ret ?_
     refine ret1 (.inl rfl) rfl rfl ?_
     exact fun w h => ⟨rfl, h.below⟩
    ·
     have hZ : checkF b42.tr = 0 := encF_iff.1 (by simpa using hc47)
     have hZ2 := hZ
     rw [p42.1] at hZ2
     obtain ⟨z1, z2, hg⟩ := check_two hZ2
     have e1 : (encF t.tr).1 = enc t.tr := by rw [encF_ok z1]
     have e2 : (encF u.tr).1 = enc u.tr := by rw [encF_ok z2]
     have e3 : (encF b42.tr).1 = (g :: lenB (0 + (t.tr.siz + (u.tr.siz + 0)))) ++ ((encF t.tr).1 ++ (encF u.tr).1) := by rw [encF_ok hZ, e1, e2]; show enc b42.tr = _; rw [p42.1]; exact enc_two g t.tr u.tr
     have L1 : (encF t.tr).1.length = t.tr.siz := by rw [e1, enc_len _ s1]
     have L2 : (encF u.tr).1.length = u.tr.siz := by rw [e2, enc_len _ s2]
     have hlb := lenB_length (n := (0 + (t.tr.siz + (u.tr.siz + 0)))) (by omega)
     have hw := wideF_le (0 + (t.tr.siz + (u.tr.siz + 0))) (by omega)
     have hw1 : 1 ≤ wideF (0 + (t.tr.siz + (u.tr.siz + 0))) := by unfold wideF; split <;> omega
     have L3 : (encF b42.tr).1.length = 1 + wideF (0 + (t.tr.siz + (u.tr.siz + 0))) + ((encF t.tr).1.length + (encF u.tr).1.length) := by rw [e3, List.length_append, List.length_cons, List.length_append, hlb]; omega
     refine wpc_skip ?_
     refine ex_then ?_
     refine wpc_seq ?_
     refine wpc_region ?_
     refine wpl_q (q_pure rfl) rfl ?_
     refine wpl_q (q_lenW Try.underlying22 rfl (by first | assumption | exact SV.nil | exact SV.slv (by assumption) (by omega) (by omega) | exact arv_sv (by first | decide | (simp only [maxLen]; omega)))) rfl ?_
     refine wpl_q (q_pure rfl) rfl ?_
     refine wpl_q (q_lenW Try.underlying22 rfl (by first | assumption | exact SV.nil | exact SV.slv (by assumption) (by omega) (by omega) | exact arv_sv (by first | decide | (simp only [maxLen]; omega)))) rfl ?_
     refine wpl_q (q_addN rfl rfl (by first | omega | (simp only [maxLen]; omega) | (simp only [List.length_append, List.length_cons, List.length_nil, List.length_take, maxLen]; omega) | (simp only [List.length_append, List.length_cons, List.length_nil, List.length_take]; omega))) rfl ?_
     refine wpl_q (q_pure rfl) rfl ?_
     refine wpl_nil ?_
     refine ex_then ?_
     refine wpc_seq ?_
     refine wpc_seq ?_
     refine wpc_region ?_
     refine wpl_q (q_pure rfl) rfl ?_
     refine wpl_q (q_bt (c := false) (q_neI rfl rfl) (by rw [encF_ok z1]; rfl)) rfl ?_
     refine wpl_q (q_pure rfl) rfl ?_
     refine wpl_on rfl rfl ?_
     refine wpl_q (q_pure rfl) rfl ?_
     refine wpl_on rfl rfl ?_
     refine wpl_q (q_bt (c := false) (q_neI rfl rfl) (by rw [encF_ok z2]; rfl)) rfl ?_
     refine wpl_q (q_pure rfl) rfl ?_
     refine wpl_q (q_pure rfl) rfl ?_
     refine wpl_on rfl rfl ?_
     refine wpl_q (q_pure rfl) rfl ?_
     refine wpl_on rfl rfl ?_
     refine wpl_q (q_bt (c := false) (q_pure rfl) (decide_eq_false (by omega))) rfl ?_
     refine wpl_q (q_pure rfl) rfl ?_
     refine wpl_q (q_pure rfl) rfl ?_
     refine wpl_on rfl rfl ?_
     refine wpl_q (q_pure rfl) rfl ?_
     refine wpl_on rfl rfl ?_
     refine wpl_q (q_lenW Try.underlying22 rfl (by first | assumption | exact SV.nil | exact SV.slv (by assumption) (by omega) (by omega) | exact arv_sv (by first | decide | (simp only [maxLen]; omega)))) rfl ?_
     refine wpl_on rfl rfl ?_
     refine wpl_q (q_pure rfl) rfl ?_
     refine wpl_on rfl rfl ?_
     refine wpl_q (q_addN (b := 2) rfl rfl (by first | omega | (simp only [maxLen]; omega) | (simp only [List.length_append, List.length_cons, List.length_nil, List.length_take, maxLen]; omega) | (simp only [List.length_append, List.length_cons, List.length_nil, List.length_take]; omega))) rfl ?_
     refine wpl_on rfl rfl ?_
     refine wpl_q (q_bt (c := false) (q_pure rfl) (decide_eq_false (by omega))) rfl ?_
     refine wpl_q (q_pure rfl) rfl ?_
     refine wpl_q (q_pure rfl) rfl ?_
     refine wpl_on rfl rfl ?_
     refine wpl_q (q_pure rfl) rfl ?_
     refine wpl_on rfl rfl ?_
     refine wpl_q (q_lenW Try.underlying22 rfl (by first | assumption | exact SV.nil | exact SV.slv (by assumption) (by omega) (by omega) | exact arv_sv (by first | decide | (simp only [maxLen]; omega)))) rfl ?_
     refine wpl_on rfl rfl ?_
     refine wpl_q (q_pure rfl) rfl ?_
     refine wpl_on rfl rfl ?_
     refine wpl_q (q_addN (b := 5) rfl rfl (by first | omega | (simp only [maxLen]; omega) | (simp only [List.length_append, List.length_cons, List.length_nil, List.length_take, maxLen]; omega) | (simp only [List.length_append, List.length_cons, List.length_nil, List.length_take]; omega))) rfl ?_
     refine wpl_on rfl rfl ?_
     refine wpl_q (q_bt (c := false) (q_pure rfl) (decide_eq_false (by omega))) rfl ?_
     refine wpl_q (q_pure rfl) rfl ?_
     refine wpl_q (q_pure rfl) rfl ?_
     refine wpl_on rfl rfl ?_
     refine wpl_q (q_pure rfl) rfl ?_
     refine wpl_on rfl rfl ?_
     refine wpl_q (q_idxW1 (j := 0) Try.underlying22 Try.ti5 rfl rfl (by first | assumption | exact SV.nil | exact SV.slv (by assumption) (by omega) (by omega) | exact arv_sv (by first | decide | (simp only [maxLen]; omega))) (by first | omega | (simp only [maxLen]; omega) | (simp only [List.length_append, List.length_cons, List.length_nil, List.length_take, maxLen]; omega) | (simp only [List.length_append, List.length_cons, List.length_nil, List.length_take]; omega))) rfl ?_
     refine wpl_on rfl rfl ?_
     refine wpl_q (q_ldW Try.underlying5 rfl rfl (fun w h => h.seenV (v := b43)) (v8s_get (by omega))) rfl ?_
     refine wpl_on rfl rfl ?_
     refine wpl_q (q_pure rfl) rfl ?_
     refine wpl_on rfl rfl ?_
     refine wpl_q (q_bt (c := false) (q8_neq rfl rfl) (by rw [e3]; simp)) rfl ?_
     refine wpl_q (q_pure rfl) rfl ?_
     refine wpl_nil ?_
     refine ex_then ?_
     refine wpc_cond_f rfl ?_
     refine wpc_skip ?_
     refine ex_then ?_
     refine wpc_seq ?_
     refine wpc_draw 10 (by kernel_rfl) (fun _ h => h.drew) ?_
     refine wpd_p 0 rfl (by kernel_rfl) trivial (q_pure rfl) rfl sk0 ?_
     refine wpd_p 1 rfl (by kernel_rfl) trivial (q_pure rfl) rfl sk0 ?_
     refine wpd_p 2 rfl (by kernel_rfl) ⟨_, rfl, rfl⟩ (q_pure rfl) rfl sk0 ?_
     refine wpd_p 3 rfl (by kernel_rfl) ⟨_, rfl, rfl⟩ (q_pure rfl) rfl sk0 ?_
     refine wpd_p 4 rfl (by kernel_rfl) ⟨_, rfl, rfl⟩ (q_lenW Try.underlying22 rfl (by first | assumption | exact SV.nil | exact SV.slv (by assumption) (by omega) (by omega) | exact arv_sv (by first | decide | (simp only [maxLen]; omega)))) rfl sk0 ?_
     refine wpd_p 5 rfl (by kernel_rfl) ⟨_, rfl, rfl⟩ (q_pure rfl) rfl sk0 ?_
     refine wpd_p 6 rfl (by kernel_rfl) ⟨_, rfl, rfl⟩ (q_subN rfl rfl (by omega) (by first | omega | (simp only [maxLen]; omega) | (simp only [List.length_append, List.length_cons, List.length_nil, List.length_take, maxLen]; omega) | (simp only [List.length_append, List.length_cons, List.length_nil, List.length_take]; omega))) rfl sk0 ?_
     refine wpd_p 7 rfl (by kernel_rfl) ⟨_, rfl, rfl⟩ (q_slWl Try.underlying22 Try.ti5 rfl rfl (by first | assumption | exact SV.nil | exact SV.slv (by assumption) (by omega) (by omega) | exact arv_sv (by first | decide | (simp only [maxLen]; omega))) (by omega)) rfl sk0 ?_
     refine wpd_p 9 rfl (by kernel_rfl) ⟨_, rfl, rfl⟩ (q_pure rfl) rfl sk0 ?_
     refine wpd_p 11 rfl (by kernel_rfl) ⟨_, rfl, rfl⟩ (q_pure rfl) rfl sk0 ?_
     refine wpd_tp 8 rfl (by kernel_rfl) ⟨_, rfl, rfl⟩ (t_bs0W Try.underlying22 Try.ti5) rfl (fun _ => (fun w h => .inr (h.sub SubC.h SubC.h))) (fun b98 p98 => ?_)
     refine wpd_tp 10 rfl (by kernel_rfl) ⟨_, rfl, rfl⟩ (t_ap0 Try.underlying22 Try.ti5 rfl (by decide) rfl rfl (fun w h => h.seenV (v := b29)) OneC.h (by first | omega | (simp only [maxLen]; omega) | (simp only [List.length_append, List.length_cons, List.length_nil, List.length_take, maxLen]; omega) | (simp only [List.length_append, List.length_cons, List.length_nil, List.length_take]; omega)) (by first | omega | (simp only [maxLen]; omega) | (simp only [List.length_append, List.length_cons, List.length_nil, List.length_take, maxLen]; omega) | (simp only [List.length_append, List.length_cons, List.length_nil, List.length_take]; omega))) rfl (fun _ => skk rfl) (fun b100 p100 => ?_)
     refine wpd_tp 12 rfl (by kernel_rfl) ⟨_, rfl, rfl⟩ (t_apW Try.underlying22 Try.ti5 rfl (by decide) rfl rfl (fun w h => h.seenV (v := b34)) (v8s_one _) (by first | omega | (simp only [maxLen]; omega) | (simp only [List.length_append, List.length_cons, List.length_nil, List.length_take, maxLen]; omega) | (simp only [List.length_append, List.length_cons, List.length_nil, List.length_take]; omega)) (by first | omega | (simp only [maxLen]; omega) | (simp only [List.length_append, List.length_cons, List.length_nil, List.length_take, maxLen]; omega) | (simp only [List.length_append, List.length_cons, List.length_nil, List.length_take]; omega)) (v8s ((encF t.tr).1 ++ (encF u.tr).1)) (v8s_append _ _).symm) rfl (fun _ => skk rfl) (fun b102 p102 => ?_)
     refine wpd_t 13 rfl (by kernel_rfl) ⟨_, rfl, rfl⟩ (t_pur (v := .bool true) Try.hb37 rfl fun w h => by have q := sameB (slv b43 ((encF b42.tr).1.length - ((encF t.tr).1.length + (encF u.tr).1.length)) (encF b42.tr).1.length 1) ((encF b42.tr).1.drop ((encF b42.tr).1.length - ((encF t.tr).1.length + (encF u.tr).1.length))) b102 ((encF t.tr).1 ++ (encF u.tr).1) w (cutA (h.seenV (v := b43)) (by omega)) (by have q := h.seenV (v := b102); rw [← List.length_append] at q; exact q); rwa [decide_eq_true (show (encF b42.tr).1.drop ((encF b42.tr).1.length - ((encF t.tr).1.length + (encF u.tr).1.length)) = (encF t.tr).1 ++ (encF u.tr).1 by rw [show ((encF b42.tr).1.length - ((encF t.tr).1.length + (encF u.tr).1.length)) = (g :: lenB (0 + (t.tr.siz + (u.tr.siz + 0)))).length by rw [L3, List.length_cons, hlb]; omega, e3]; exact List.drop_left)] at q) rfl (fun _ => skk rfl) (fun b103 => ?_)
     refine wpd_p 14 rfl (by kernel_rfl) trivial (q_pure rfl) rfl (skk rfl) ?_
     refine wpd_p 15 rfl (by kernel_rfl) trivial (q_pure rfl) rfl (skk rfl) ?_
     refine wpd_done (by kernel_rfl) ?_
     refine ex_then ?_
     refine wpc_ret ?_
     refine ret1 (.inl rfl) rfl rfl ?_
     exact fun w h => ⟨rfl, h.below⟩

end Go.Proofs.Ytommkigkkeailaa
