/- The examples; what is encoded is decoded; what is decoded was encoded. -/
import Derived.Test.YtommkigkkeailaaOAM
namespace Go.Proofs.Ytommkigkkeailaa
set_option linter.unusedSimpArgs false
set_option linter.unusedVariables false
open Go Go.PL Go.RowKit
set_option maxRecDepth 100000 in
theorem alive  (w : World)   :
    Calls Try.prog 38 [].toArray w (Pur w (.bool true)) := by
  refine enter (m := 20) (R := Mem w [] [] []) Try.func38 rfl rfl (Nat.le_of_ble_eq_true rfl) (Mem.start w) ?_
  refine wpc_seq ?_
  refine wpc_region ?_
  refine wpl_q (q_pure rfl) rfl ?_
  refine wpl_nil ?_
  refine ex_then ?_
  refine wpc_seq ?_
  refine wpc_region ?_
  refine wpl_tp (t_callPT Try.hb22 rfl fun w h => frz (octNum 2 300 w)) rfl (fun b1 p1 => ?_)
  have e1 : b1.tr = Tr.nd 2 (numB 300) [] := p1.1
  refine wpl_tp (t_bsV (v8s [(2 : UInt8), (2 : UInt8), (1 : UInt8), (44 : UInt8)]) Try.underlying22 Try.ti5 rfl rfl (by decide) (by decide) rfl (v8s_one _)) rfl (fun b2 p2 => ?_)
  refine wpl_t (t_pur (v := .bool true) Try.hb60 rfl fun w h => encodes b1 b2 [2, 2, 1, 44] w (Mem.hseenF h (by simp)) h.seenV (by rw [e1]; unfold Sm; decide) (by rw [e1]; kernel_rfl) (by rw [e1]; kernel_rfl)) rfl (fun b3 => ?_)
  refine wpl_q (q_pure rfl) rfl ?_
  refine wpl_on rfl rfl ?_
  refine wpl_tp (t_callPT Try.hb22 rfl fun w h => frz (octNum 2 0 w)) rfl (fun b5 p5 => ?_)
  haveI := p5.2.one
  refine wpl_on rfl rfl ?_
  refine wpl_tp (t_callPT Try.hb24 rfl fun w h => octStr 3 [97] w (by decide)) rfl (fun b6 p6 => ?_)
  haveI := p6.2.one
  refine wpl_on rfl rfl ?_
  refine wpl_tp (t_bsG [.agg b5.c.toArray, .agg b6.c.toArray] (hcs [b5, b6]) Try.underlying23 Try.ti25 rfl (by decide) rfl (by decide) (by decide) rfl (by intro v hv; simp only [List.mem_cons, List.not_mem_nil, or_false] at hv; rcases hv with rfl | rfl <;> exact HT.c_length _) rfl) rfl (fun b7 p7 => ?_)
  refine wpl_on rfl rfl ?_
  refine wpl_tp (t_callPT Try.hb20 rfl fun w h => frz (octSeq 130 b7 [b5, b6] w h.seenV ⟨(Mem.hseenF h (by simp)), (Mem.hseenF h (by simp)), trivial⟩ (by show Sm (Tr.nd 130 [] [b5.tr, b6.tr]); rw [p5.1, p6.1]; unfold Sm; decide))) rfl (fun b8 p8 => ?_)
  have e8 : b8.tr = Tr.nd 130 [] [Tr.nd 2 (numB 0) [], Tr.nd 3 [97] []] := by rw [p8.1]; show Tr.nd 130 [] [b5.tr, b6.tr] = _; rw [p5.1, p6.1]; rfl
  refine wpl_on rfl rfl ?_
  refine wpl_tp (t_bsV (v8s [(130 : UInt8), (5 : UInt8), (2 : UInt8), (0 : UInt8), (3 : UInt8), (1 : UInt8), (97 : UInt8)]) Try.underlying22 Try.ti5 rfl rfl (by decide) (by decide) rfl (v8s_one _)) rfl (fun b9 p9 => ?_)
  refine wpl_on rfl rfl ?_
  refine wpl_t (t_pur (v := .bool true) Try.hb60 rfl fun w h => encodes b8 b9 [130, 5, 2, 0, 3, 1, 97] w (Mem.hseenF h (by simp)) h.seenV (by rw [e8]; unfold Sm; decide) (by rw [e8]; kernel_rfl) (by rw [e8]; kernel_rfl)) rfl (fun b10 => ?_)
  refine wpl_q (q_pure rfl) rfl ?_
  refine wpl_q (q_pure rfl) rfl ?_
  refine wpl_on rfl rfl ?_
  refine wpl_tp (t_bsV (v8s [(2 : UInt8), (129 : UInt8), (5 : UInt8), (0 : UInt8), (0 : UInt8), (0 : UInt8), (0 : UInt8), (0 : UInt8)]) Try.underlying22 Try.ti5 rfl rfl (by decide) (by decide) rfl (v8s_one _)) rfl (fun b13 p13 => ?_)
  refine wpl_on rfl rfl ?_
  refine wpl_t (t_pur (v := .bool true) Try.hb40 rfl fun w h => refused b13 [2, 129, 5, 0, 0, 0, 0, 0] w h.seenV (by kernel_rfl)) rfl (fun b14 => ?_)
  refine wpl_q (q_pure rfl) rfl ?_
  refine wpl_q (q_pure rfl) rfl ?_
  refine wpl_on rfl rfl ?_
  refine wpl_tp (t_bsV (v8s [(2 : UInt8), (2 : UInt8), (1 : UInt8)]) Try.underlying22 Try.ti5 rfl rfl (by decide) (by decide) rfl (v8s_one _)) rfl (fun b17 p17 => ?_)
  refine wpl_on rfl rfl ?_
  refine wpl_t (t_pur (v := .bool true) Try.hb40 rfl fun w h => refused b17 [2, 2, 1] w h.seenV (by kernel_rfl)) rfl (fun b18 => ?_)
  refine wpl_q (q_pure rfl) rfl ?_
  refine wpl_q (q_pure rfl) rfl ?_
  refine wpl_nil ?_
  refine ex_then ?_
  refine wpc_ret ?_
  refine ret1 (.inl rfl) rfl rfl ?_
  exact fun w h => ⟨rfl, h.below⟩

set_option maxRecDepth 100000 in
theorem octetBack (t : HT) (w : World) (ht : HSeen w.cell? t) (hlt : Lens t) :
    Calls Try.prog 6 [.agg t.c.toArray].toArray w (Pur w (.bool true)) := by
  haveI := ht.sv.one
  refine enter (m := 55) (R := Mem w [] [] []) Try.func6 rfl rfl (Nat.le_of_ble_eq_true rfl) (Mem.start w) ?_
  refine wpc_seq ?_
  refine wpc_region ?_
  refine wpl_t (t_box rfl t.c rfl) rfl (fun b1 => ?_)
  refine wpl_q (q_pure rfl) rfl ?_
  refine wpl_nil ?_
  refine ex_then ?_
  refine wpc_seq ?_
  refine wpc_region ?_
  refine wpl_t (t_pur (v := .bool true) Try.hb38 rfl fun w h => alive w) rfl (fun b8 => ?_)
  refine wpl_q (q_pure rfl) rfl ?_
  refine wpl_nil ?_
  refine ex_then ?_
  refine wpc_seq ?_
  refine wpc_seq ?_
  refine wpc_region ?_
  refine wpl_q (q_ldN Try.underlying25 rfl Try.ti25 rfl LenC.h) rfl ?_
  refine wpl_t (t_pur Try.hb12 rfl fun w h => great t w (ht.old h) hlt) rfl (fun b10 => ?_)
  refine wpl_q (q_pure rfl) rfl ?_
  refine wpl_bool2 11 10 rfl rfl (fun hb11 => ?_) (fun hb11 => ?_)
  ·
   refine wpl_off rfl rfl rfl rfl ?_
   refine wpl_off rfl rfl rfl rfl ?_
   refine wpl_q (q_pure rfl) rfl ?_
   refine wpl_nil ?_
   refine ex_then ?_
   refine wpc_cond_t rfl ?_
   refine wpc_seq ?_
   refine wpc_region ?_
   refine wpl_q (q_pure rfl) rfl ?_
   refine wpl_q (q_pure rfl) rfl ?_
   refine wpl_nil ?_
   refine ex_then ?_
   refine wpc_ret ?_
   refine ex_then_ret ?_
   refine ret1 (.inl rfl) rfl rfl ?_
   exact fun w h => ⟨rfl, h.below⟩
  ·
   have g1 : ¬ GreatT t.tr := by simpa using hb11
   have s1 := great_sm g1
   have n1 := great_no g1
   refine wpl_on rfl rfl ?_
   refine wpl_q (q_pure rfl) rfl ?_
   refine wpl_on rfl rfl ?_
   refine wpl_q (q_pure rfl) rfl ?_
   refine wpl_q (q_pure rfl) rfl ?_
   refine wpl_nil ?_
   refine ex_then ?_
   refine wpc_cond_f rfl ?_
   refine wpc_skip ?_
   refine ex_then ?_
   refine wpc_seq ?_
   refine wpc_region ?_
   refine wpl_q (q_ldN Try.underlying25 rfl Try.ti25 rfl LenC.h) rfl ?_
   refine wpl_tp (t_callP1 Try.hb33 rfl fun w h => octEncode t w (ht.old h) (s1) (by omega)) rfl (fun b18 p18 => ?_)
   refine wpl_q (q_pure rfl) rfl ?_
   refine wpl_q (q_pure rfl) rfl ?_
   refine wpl_q (q_pure rfl) rfl ?_
   refine wpl_q (q_pure rfl) rfl ?_
   refine wpl_q (q_pure rfl) rfl ?_
   refine wpl_nil ?_
   refine ex_then ?_
   refine wpc_seq ?_
   refine wpc_seq ?_
   refine wpc_region ?_
   refine wpl_q (q_pure rfl) rfl ?_
   refine wpl_q (q_pure rfl) rfl ?_
   refine wpl_nil ?_
   refine ex_then ?_
   refine wpc_cond rfl (fun hc22 => ?_) (fun hc22 => ?_)
   ·
    have hN : ¬ checkF t.tr = 0 := fun h => by rw [encF_ok h] at hc22; simp at hc22
    refine wpc_seq ?_
    refine wpc_region ?_
    refine wpl_q (q_pure rfl) rfl ?_
    refine wpl_q (q_pure rfl) rfl ?_
    refine wpl_on rfl rfl ?_
    refine wpl_q (q_pure rfl) rfl ?_
    refine wpl_on rfl rfl ?_
    refine wpl_q (q_lenW Try.underlying22 rfl (by first | assumption | exact SV.nil | exact SV.slv (by assumption) (by omega) (by omega) | exact arv_sv (by first | decide | (simp only [maxLen]; omega)))) rfl ?_
    refine wpl_on rfl rfl ?_
    refine wpl_q (q_tru (q_eqI rfl rfl) (by rw [encF_bad hN]; rfl)) rfl ?_
    refine wpl_q (q_pure rfl) rfl ?_
    refine wpl_q (q_pure rfl) rfl ?_
    refine wpl_on rfl rfl ?_
    refine wpl_q (q_ldN Try.underlying25 rfl Try.ti25 rfl LenC.h) rfl ?_
    refine wpl_on rfl rfl ?_
    refine wpl_t (t_pur Try.hb30 rfl fun w h => check t w (ht.old h) s1 (by omega)) rfl (fun b31 => ?_)
    refine wpl_on rfl rfl ?_
    refine wpl_q (q_pure rfl) rfl ?_
    refine wpl_on rfl rfl ?_
    refine wpl_q (q_tru (q_eqI rfl rfl) (by rw [encF_bad hN])) rfl ?_
    refine wpl_q (q_pure rfl) rfl ?_
    refine wpl_q (q_pure rfl) rfl ?_
    refine wpl_nil ?_
    refine ex_then ?_
    refine wpc_ret ?_
    refine ex_then_ret ?_
    refine ret1 (.inl rfl) rfl rfl ?_
    exact fun w h => ⟨rfl, h.below⟩
   ·
    have hZ : checkF t.tr = 0 := encF_iff.1 (by simpa using hc22)
    refine wpc_skip ?_
    refine ex_then ?_
    refine wpc_seq ?_
    refine wpc_region ?_
    refine wpl_q (q_pure rfl) rfl ?_
    refine wpl_tp (t_callPT Try.hb35 rfl fun w h => frz (decode b18 (encF t.tr).1 w h.seenV)) rfl (fun b37 p37 => ?_)
    haveI := p37.2.one
    refine wpl_q (q_pure rfl) rfl ?_
    refine wpl_q (q_pure rfl) rfl ?_
    refine wpl_q (q_pure rfl) rfl ?_
    refine wpl_t (t_alloc Try.ti25 HT.z.c rfl) rfl (fun b6 => ?_)
    refine wpl_t0 (t_stA Try.ti25 rfl rfl LenC.h OneC.h LenC.h) (fun _ => ?_)
    refine wpl_q (q_pure rfl) rfl ?_
    refine wpl_nil ?_
    refine ex_then ?_
    refine wpc_seq ?_
    refine wpc_region ?_
    refine wpl_q (q_pure rfl) rfl ?_
    refine wpl_q (q_pure rfl) rfl ?_
    refine wpl_on rfl rfl ?_
    refine wpl_q (q_pure rfl) rfl ?_
    refine wpl_on rfl rfl ?_
    refine wpl_q (q_tru (q_eqI rfl rfl) (by rw [encF_ok hZ, dec_enc s1 hZ])) rfl ?_
    refine wpl_q (q_pure rfl) rfl ?_
    refine wpl_q (q_pure rfl) rfl ?_
    refine wpl_on rfl rfl ?_
    refine wpl_q (q_ldN Try.underlying25 rfl Try.ti25 rfl LenC.h) rfl ?_
    refine wpl_on rfl rfl ?_
    refine wpl_q (q_ldN Try.underlying25 rfl Try.ti25 rfl LenC.h) rfl ?_
    refine wpl_on rfl rfl ?_
    refine wpl_t (t_pur (v := .bool true) Try.hb21 rfl fun w h => by have q := refSame t b37 w (ht.old h) (Mem.hseenF h (by simp)); rwa [decide_eq_true (show t.tr = b37.tr from (show t.tr = (decF (encF t.tr).1).1 by rw [encF_ok hZ, dec_enc s1 hZ]).trans p37.1.symm)] at q) rfl (fun b48 => ?_)
    refine wpl_q (q_pure rfl) rfl ?_
    refine wpl_q (q_pure rfl) rfl ?_
    refine wpl_on rfl rfl ?_
    refine wpl_q (q_ldN Try.underlying25 rfl Try.ti25 rfl LenC.h) rfl ?_
    refine wpl_on rfl rfl ?_
    refine wpl_t (t_pur Try.hb30 rfl fun w h => check t w (ht.old h) s1 (by omega)) rfl (fun b52 => ?_)
    refine wpl_on rfl rfl ?_
    refine wpl_q (q_tru (q_eqI rfl rfl) (by rw [hZ])) rfl ?_
    refine wpl_q (q_pure rfl) rfl ?_
    refine wpl_q (q_pure rfl) rfl ?_
    refine wpl_nil ?_
    refine ex_then ?_
    refine wpc_ret ?_
    refine ret1 (.inl rfl) rfl rfl ?_
    exact fun w h => ⟨rfl, h.below⟩

set_option maxRecDepth 100000 in
theorem octetOnce (av : Value) (xs : List UInt8) (w : World) (hav : Seen w.cell? av xs.length 1 (v8s xs))  :
    Calls Try.prog 7 [av].toArray w (Pur w (.bool true)) := by
  have sav := hav.sv
  have lav := sav.le
  simp only [maxLen] at lav
  refine enter (m := 54) (R := Mem w [] [] []) Try.func7 rfl rfl (Nat.le_of_ble_eq_true rfl) (Mem.start w) ?_
  refine wpc_seq ?_
  refine wpc_region ?_
  refine wpl_q (q_pure rfl) rfl ?_
  refine wpl_nil ?_
  refine ex_then ?_
  refine wpc_seq ?_
  refine wpc_region ?_
  refine wpl_t (t_pur (v := .bool true) Try.hb38 rfl fun w h => alive w) rfl (fun b8 => ?_)
  refine wpl_q (q_pure rfl) rfl ?_
  refine wpl_nil ?_
  refine ex_then ?_
  refine wpc_seq ?_
  refine wpc_seq ?_
  refine wpc_region ?_
  refine wpl_q (q_pure rfl) rfl ?_
  refine wpl_q (q_lenW Try.underlying22 rfl (by first | assumption | exact SV.nil | exact SV.slv (by assumption) (by omega) (by omega) | exact arv_sv (by first | decide | (simp only [maxLen]; omega)))) rfl ?_
  refine wpl_q (q_pure rfl) rfl ?_
  refine wpl_q (q_pure rfl) rfl ?_
  refine wpl_bool2 12 11 rfl rfl (fun hb12 => ?_) (fun hb12 => ?_)
  ·
   refine wpl_off rfl rfl rfl rfl ?_
   refine wpl_off rfl rfl rfl rfl ?_
   refine wpl_q (q_pure rfl) rfl ?_
   refine wpl_nil ?_
   refine ex_then ?_
   refine wpc_cond_t rfl ?_
   refine wpc_seq ?_
   refine wpc_region ?_
   refine wpl_q (q_pure rfl) rfl ?_
   refine wpl_q (q_pure rfl) rfl ?_
   refine wpl_nil ?_
   refine ex_then ?_
   refine wpc_ret ?_
   refine ex_then_ret ?_
   refine ret1 (.inl rfl) rfl rfl ?_
   exact fun w h => ⟨rfl, h.below⟩
  ·
   try simp only [decide_eq_false_iff_not] at hb12
   have hs := decF_sm xs
   refine wpl_on rfl rfl ?_
   refine wpl_q (q_pure rfl) rfl ?_
   refine wpl_on rfl rfl ?_
   refine wpl_q (q_pure rfl) rfl ?_
   refine wpl_q (q_pure rfl) rfl ?_
   refine wpl_nil ?_
   refine ex_then ?_
   refine wpc_cond_f rfl ?_
   refine wpc_skip ?_
   refine ex_then ?_
   refine wpc_seq ?_
   refine wpc_region ?_
   refine wpl_q (q_pure rfl) rfl ?_
   refine wpl_tp (t_callPT Try.hb35 rfl fun w h => frz (decode av xs w (h.seen_old hav))) rfl (fun b19 p19 => ?_)
   haveI := p19.2.one
   refine wpl_q (q_pure rfl) rfl ?_
   refine wpl_q (q_pure rfl) rfl ?_
   refine wpl_q (q_pure rfl) rfl ?_
   refine wpl_t (t_alloc Try.ti25 HT.z.c rfl) rfl (fun b4 => ?_)
   refine wpl_t0 (t_stA Try.ti25 rfl rfl LenC.h OneC.h LenC.h) (fun _ => ?_)
   refine wpl_q (q_pure rfl) rfl ?_
   refine wpl_nil ?_
   refine ex_then ?_
   refine wpc_seq ?_
   refine wpc_seq ?_
   refine wpc_region ?_
   refine wpl_q (q_pure rfl) rfl ?_
   refine wpl_q (q_pure rfl) rfl ?_
   refine wpl_nil ?_
   refine ex_then ?_
   refine wpc_cond rfl (fun hc23 => ?_) (fun hc23 => ?_)
   ·
    have hN : ¬ (decF xs).2 = 0 := fun h => by rw [h] at hc23; simp at hc23
    obtain ⟨hz, hq⟩ := dec_bad hN
    refine wpc_seq ?_
    refine wpc_region ?_
    refine wpl_q (q_pure rfl) rfl ?_
    refine wpl_q (q_pure rfl) rfl ?_
    refine wpl_on rfl rfl ?_
    refine wpl_q (q_ldN Try.underlying25 rfl Try.ti25 rfl LenC.h) rfl ?_
    refine wpl_on rfl rfl ?_
    refine wpl_q (q_build (cs := HT.z.c) rfl built_oz) rfl ?_
    refine wpl_on rfl rfl ?_
    refine wpl_t (t_pur (v := .bool true) Try.hb21 rfl fun w h => by have q := refSame b19 HT.z w (Mem.hseenF h (by simp)) ⟨seen_nil _ 0 _, seen_nil _ 0 _, trivial⟩; rwa [decide_eq_true (show b19.tr = HT.z.tr from p19.1.trans hz)] at q) rfl (fun b28 => ?_)
    refine wpl_q (q_pure rfl) rfl ?_
    refine wpl_q (q_pure rfl) rfl ?_
    refine wpl_on rfl rfl ?_
    refine wpl_q (q_pure rfl) rfl ?_
    refine wpl_on rfl rfl ?_
    refine wpl_q (q_pure rfl) rfl ?_
    refine wpl_on rfl rfl ?_
    refine wpl_q (q_pure rfl) rfl ?_
    refine wpl_bool2 33 32 rfl rfl (fun hb33 => ?_) (fun hb33 => ?_)
    ·
     refine wpl_off rfl rfl rfl rfl ?_
     refine wpl_off rfl rfl rfl rfl ?_
     refine wpl_off rfl rfl rfl rfl ?_
     refine wpl_on rfl rfl ?_
     refine wpl_q (q_pure rfl) rfl ?_
     refine wpl_q (q_pure rfl) rfl ?_
     refine wpl_q (q_pure rfl) rfl ?_
     refine wpl_nil ?_
     refine ex_then ?_
     refine wpc_ret ?_
     refine ex_then_ret ?_
     refine ret1 (.inl rfl) rfl rfl ?_
     exact fun w h => ⟨rfl, h.below⟩
    ·
     have h36 : 65536 < xs.length := by
       rcases hq with h | h
       · rw [h.1] at hb33; simp at hb33
       · exact h.2
     refine wpl_on rfl rfl ?_
     refine wpl_q (q_pure rfl) rfl ?_
     refine wpl_on rfl rfl ?_
     refine wpl_q (q_lenW Try.underlying22 rfl (by first | assumption | exact SV.nil | exact SV.slv (by assumption) (by omega) (by omega) | exact arv_sv (by first | decide | (simp only [maxLen]; omega)))) rfl ?_
     refine wpl_on rfl rfl ?_
     refine wpl_q (q_tru (q_pure rfl) (by omega)) rfl ?_
     refine wpl_on rfl rfl ?_
     refine wpl_q (q_pure rfl) rfl ?_
     refine wpl_q (q_pure rfl) rfl ?_
     refine wpl_q (q_pure rfl) rfl ?_
     refine wpl_nil ?_
     refine ex_then ?_
     refine wpc_ret ?_
     refine ex_then_ret ?_
     refine ret1 (.inl rfl) rfl rfl ?_
     exact fun w h => ⟨rfl, h.below⟩
   ·
    have h0 : (decF xs).2 = 0 := by simpa using hc23
    obtain ⟨i1, i2⟩ := dec_inv h0
    rw [← p19.1] at i1 i2
    refine wpc_skip ?_
    refine ex_then ?_
    refine wpc_seq ?_
    refine wpc_region ?_
    refine wpl_q (q_ldN Try.underlying25 rfl Try.ti25 rfl LenC.h) rfl ?_
    refine wpl_tp (t_callP1 Try.hb33 rfl fun w h => octEncode b19 w (Mem.hseenF h (by simp)) (by rw [p19.1]; exact hs.1) (by rw [p19.1]; omega)) rfl (fun b41 p41 => ?_)
    refine wpl_q (q_pure rfl) rfl ?_
    refine wpl_q (q_pure rfl) rfl ?_
    refine wpl_q (q_pure rfl) rfl ?_
    refine wpl_q (q_pure rfl) rfl ?_
    refine wpl_q (q_pure rfl) rfl ?_
    refine wpl_nil ?_
    refine ex_then ?_
    refine wpc_seq ?_
    refine wpc_region ?_
    refine wpl_q (q_pure rfl) rfl ?_
    refine wpl_q (q_pure rfl) rfl ?_
    refine wpl_on rfl rfl ?_
    refine wpl_q (q_pure rfl) rfl ?_
    refine wpl_on rfl rfl ?_
    refine wpl_q (q_tru (q_eqI rfl rfl) (by rw [encF_ok i1])) rfl ?_
    refine wpl_q (q_pure rfl) rfl ?_
    refine wpl_q (q_pure rfl) rfl ?_
    refine wpl_on rfl rfl ?_
    refine wpl_q (q_pure rfl) rfl ?_
    refine wpl_on rfl rfl ?_
    refine wpl_q (q_pure rfl) rfl ?_
    refine wpl_on rfl rfl ?_
    refine wpl_t (t_pur (v := .bool true) Try.hb37 rfl fun w h => by have q := sameB b41 (encF b19.tr).1 av xs w h.seenV (h.seen_old hav); rwa [decide_eq_true (show (encF b19.tr).1 = xs by rw [encF_ok i1]; exact i2)] at q) rfl (fun b52 => ?_)
    refine wpl_q (q_pure rfl) rfl ?_
    refine wpl_q (q_pure rfl) rfl ?_
    refine wpl_nil ?_
    refine ex_then ?_
    refine wpc_ret ?_
    refine ret1 (.inl rfl) rfl rfl ?_
    exact fun w h => ⟨rfl, h.below⟩

end Go.Proofs.Ytommkigkkeailaa
