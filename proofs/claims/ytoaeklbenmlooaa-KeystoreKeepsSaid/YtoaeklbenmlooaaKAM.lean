/- The law KeystoreKeeps returns true. -/
import Derived.Test.YtoaeklbenmlooaaKAI
import Derived.Test.YtoaeklbenmlooaaKAE
namespace Go.Proofs.Ytoaeklbenmlooaa
set_option linter.unusedSimpArgs false
set_option linter.unusedVariables false
open Go Go.PL Go.RowKit

instance lenC_ke {k : KE} : LenC k.c 6 := ⟨rfl⟩
instance oneC_ke {k : KE} : OneC k.c := ⟨ke_one k⟩
theorem sameZ2 (s : St) (e : s = St.z) (a : V3) (w : World) (h1 : Seen w.cell? a.1 s.dk.length 1 (v8s s.dk)) (h2 : Seen w.cell? a.2.1 s.pd.length 1 (v8s s.pd)) (h3 : Seen w.cell? a.2.2 s.ks.length 6 (kcs s.ks)) : Calls Try.prog 19 [.agg (s.c a.1 a.2.1 a.2.2).toArray, .agg (St.z.c nl nl nl).toArray].toArray w (Pur w (.bool true)) := by
  subst e
  exact refSame_ St.z a.1 a.2.1 a.2.2 nl nl nl w rfl h1 h2 h3 (seen_nil _ _) (seen_nil _ _) (seen_nil _ _)
theorem crashF_err {s : St} {k : Int} (h : ¬ (crashF s k).2 = 0) : (crashF s k).1 = St.z := by
  by_cases hu : upF s true = 0
  · by_cases h2 : k < 0 ∨ (s.pd.length : Int) < k
    · rw [ch2 hu h2]
    · obtain ⟨m, rfl⟩ := Int.eq_ofNat_of_zero_le (show 0 ≤ k by omega)
      rw [ch3 hu (by omega)] at h; exact absurd rfl h
  · rw [ch1 hu]
abbrev dF (s : St) (m : Nat) : St := (crashF s ((m : Nat) : Int)).1
abbrev tF (s : St) (m : Nat) : St := (openF (dF s m)).1
/-- What a crash leaves. -/
theorem keeps {s : St} {m : Nat} (h : (crashF s ((m : Nat) : Int)).2 = 0) : (openF (dF s m)).2 = 0 ∧ ChkP (tF s m) ∧ (s.dk.length ≤ (tF s m).dk.length ∧ (tF s m).dk.length ≤ s.dk.length + m ∧ s.dk.length + m < (tF s m).dk.length + 10 ∧ m ≤ s.pd.length) ∧ (tF s m).dk = (s.dk ++ s.pd).take (tF s m).dk.length ∧ (tF s m).ks.length ≤ s.ks.length ∧
    (∀ i, i < s.ks.length → (tF s m).ks.length ≤ i → (s.ks.getD i KE.z).du ≤ 0 ∧ (s.ks.getD i KE.z).nx ≤ 0) ∧
    (∀ i, i < (tF s m).ks.length → ((tF s m).ks.getD i KE.z).id = (s.ks.getD i KE.z).id ∧ ((tF s m).ks.getD i KE.z).ht = (s.ks.getD i KE.z).ht ∧ (s.ks.getD i KE.z).nx ≤ ((tF s m).ks.getD i KE.z).nx ∧ (s.ks.getD i KE.z).du ≤ ((tF s m).ks.getD i KE.z).nx ∧ ((tF s m).ks.getD i KE.z).nx ≤ (s.ks.getD i KE.z).ak ∧ (((tF s m).ks.getD i KE.z).dr = true → (s.ks.getD i KE.z).dr = true)) := by
  obtain ⟨hu, _, h2, e⟩ := crashF_ok h
  obtain ⟨hc, hup⟩ := upF_ok hu
  have hU := hc.2.2.2.2 hup
  rw [Int.toNat_natCast] at e
  have hdC : ChkP (dF s m) := crashF_chk h
  have hdu : (dF s m).up = false := by rw [dF, e]
  have hO : (openF (dF s m)).2 = 0 := by
    have : upF (dF s m) false = 0 := upF_0 (chk0 hdC) hdu
    rw [op2 this]
  obtain ⟨_, eT⟩ := openF_ok hO
  have hm : m ≤ s.pd.length := by omega
  have hW : (scanR (s.dk ++ s.pd)).2 = (s.dk ++ s.pd).length := by rw [hU.2.1, List.length_append]
  have edk : (dF s m).dk = (s.dk ++ s.pd).take (s.dk.length + m) := by rw [dF, e]; show s.dk ++ s.pd.take m = _; rw [List.take_length_add_append]
  have hle : s.dk.length + m ≤ (s.dk ++ s.pd).length := by rw [List.length_append]; omega
  obtain ⟨t1, t2⟩ := scanR_take hW hle
  rw [← edk] at t1 t2
  obtain ⟨_, c2⟩ := scanR_cut (dF s m).dk
  have eTd : (tF s m).dk = (dF s m).dk.take (scanR (dF s m).dk).2 := by rw [tF, eT]
  have eTk : (tF s m).ks = (scanR (dF s m).dk).1 := by rw [tF, eT]
  have hl : (tF s m).dk.length = 10 * ((s.dk.length + m) / 10) := by rw [eTd, c2, t1]
  have h10 := (recs_full hU.1).1
  have hx : (dF s m).dk = s.dk ++ s.pd.take m := by rw [dF, e]
  have hDB := scanR_ext (s.pd.take m) hU.1
  rw [← hx, ← eTk] at hDB
  rw [← eTk] at t2
  have hal := hU.2.2.1
  refine ⟨hO, openF_chk hO, ⟨by omega, by omega, by omega, hm⟩, ?_, by rw [← hal]; exact t2.1, ?_, ?_⟩
  · rw [hl, eTd, t1, edk, List.take_take, Nat.min_eq_left (by omega)]
  · intro i hi hb
    obtain ⟨_, _, _, _, o5, _, o7⟩ := okK_iff.1 (hU.2.2.2 i hi)
    have hd : durF (scanR s.dk).1 i = 0 := if_neg (by have := hDB.1; omega)
    rw [hd] at o5 o7
    omega
  · intro i hi
    have hi2 : i < s.ks.length := by rw [← hal]; exact Nat.lt_of_lt_of_le hi t2.1
    obtain ⟨o1, o2, o3, o4, o5, o6, o7⟩ := okK_iff.1 (hU.2.2.2 i hi2)
    obtain ⟨p1, p2, p3, p4⟩ := t2.2 i hi
    have hg : KGood ((tF s m).ks.getD i KE.z) := by rw [eTk] at hi ⊢; exact (scanR_good _).get hi
    have hdur : durF (scanR s.dk).1 i ≤ ((tF s m).ks.getD i KE.z).ak := by
      unfold durF
      split
      · rename_i hd; exact (hDB.2 i hd).2.2.1
      · exact hg.2.2.2.2.1
    refine ⟨by rw [o1, p1], by rw [o2, p2], ?_, ?_, ?_, fun hh => by rw [o4]; exact p4 hh⟩
    · rw [hg.1]; exact Int.le_trans o7 hdur
    · rw [hg.1, o5]; exact hdur
    · rw [hg.1, o3]; exact p3

set_option maxRecDepth 100000 in
theorem lawKeeps (s : St) (dv pv kv : Value) (n : Int) (w : World) (hln : s.ms.length = 32) (hd : Seen w.cell? dv s.dk.length 1 (v8s s.dk)) (hp : Seen w.cell? pv s.pd.length 1 (v8s s.pd)) (hk : Seen w.cell? kv s.ks.length 6 (kcs s.ks))  :
    Calls Try.prog 7 [.agg (s.c dv pv kv).toArray, .int .i64 n].toArray w (Pur w (.bool true)) := by
  have sdv := hd.sv
  have spv := hp.sv
  have skv := hk.sv
  haveI : L32 s := ⟨hln⟩
  haveI : OneC (s.c dv pv kv) := ⟨St.c_one sdv spv skv⟩
  refine enter (m := 192) (R := Mem w [] [] []) Try.func7 rfl rfl (Nat.le_of_ble_eq_true rfl) (Mem.start w) ?_
  refine wpc_seq ?_
  refine wpc_region ?_
  refine wpl_t (t_box rfl (s.c dv pv kv) rfl) rfl (fun b2 => ?_)
  refine wpl_q (q_pure rfl) rfl ?_
  refine wpl_nil ?_
  refine ex_then ?_
  refine wpc_seq ?_
  refine wpc_region ?_
  refine wpl_t (t_pur Try.hb33 rfl fun w h => alive w) rfl (fun b14 => ?_)
  refine wpl_q (q_pure rfl) rfl ?_
  refine wpl_nil ?_
  refine ex_then ?_
  refine wpc_seq ?_
  refine wpc_seq ?_
  refine wpc_region ?_
  refine wpl_q (q_ldN Try.underlying27 rfl Try.ti27 rfl LenC.h) rfl ?_
  refine wpl_t (t_pur Try.hb9 rfl fun w h => refGreat s dv pv kv w hln hd.sv hp.sv hk.sv) rfl (fun b16 => ?_)
  refine wpl_q (q_pure rfl) rfl ?_
  refine wpl_bool2 17 16 rfl rfl (fun hb17 => ?_) (fun hb17 => ?_)
  ·
   refine wpl_off rfl rfl rfl rfl ?_
   refine wpl_off rfl rfl rfl rfl ?_
   refine wpl_q (q_pure rfl) rfl ?_
   refine wpl_nil ?_
   refine ex_then ?_
   refine wpc_cond_t rfl ?_
   refine wpc_seq ?_
   refine wpc_region ?_
   refine wpl_q (q_pure rfl) rfl ?_
   refine wpl_q (q_pure rfl) rfl ?_
   refine wpl_nil ?_
   refine ex_then ?_
   refine wpc_ret ?_
   refine ex_then_ret ?_
   refine ret1 (.inl rfl) rfl rfl ?_
   exact fun w h => ⟨rfl, h.below⟩
  ·
   have hg := great_f hb17
   have hs : StS w.cell? s dv pv kv := ⟨hln, hd, hp, hk, by omega, by omega, by omega⟩
   have hbs : Bs s := ⟨hln, hg.1, hg.2.1, hg.2.2⟩
   refine wpl_on rfl rfl ?_
   refine wpl_q (q_pure rfl) rfl ?_
   refine wpl_on rfl rfl ?_
   refine wpl_q (q_pure rfl) rfl ?_
   refine wpl_q (q_pure rfl) rfl ?_
   refine wpl_nil ?_
   refine ex_then ?_
   refine wpc_cond_f rfl ?_
   refine wpc_skip ?_
   refine ex_then ?_
   refine wpc_seq ?_
   refine wpc_region ?_
   refine wpl_q (q_ldN Try.underlying27 rfl Try.ti27 rfl LenC.h) rfl ?_
   refine wpl_q (q_pure rfl) rfl ?_
   refine wpl_tp (t_callP3 Try.hb13 rfl fun w h => crash s dv pv kv n w (StS.old h hs)) rfl (fun b25 p25 => ?_)
   haveI := OneC.sv p25
   refine wpl_q (q_pure rfl) rfl ?_
   refine wpl_q (q_pure rfl) rfl ?_
   refine wpl_q (q_pure rfl) rfl ?_
   refine wpl_t (t_alloc Try.ti27 (St.z.c nl nl nl) rfl) rfl (fun b6 => ?_)
   refine wpl_t0 (t_stA Try.ti27 rfl rfl LenC.h OneC.h LenC.h) (fun _ => ?_)
   refine wpl_q (q_pure rfl) rfl ?_
   refine wpl_nil ?_
   refine ex_then ?_
   refine wpc_seq ?_
   refine wpc_seq ?_
   refine wpc_region ?_
   refine wpl_q (q_pure rfl) rfl ?_
   refine wpl_q (q_pure rfl) rfl ?_
   refine wpl_nil ?_
   refine ex_then ?_
   refine wpc_cond rfl (fun hc29 => ?_) (fun hc29 => ?_)
   ·
    have hze := crashF_err (s := s) (k := n) (by simpa using hc29)
    refine wpc_seq ?_
    refine wpc_region ?_
    refine wpl_q (q_pure rfl) rfl ?_
    refine wpl_q (q_pure rfl) rfl ?_
    refine wpl_on rfl rfl ?_
    refine wpl_q (q_ldN Try.underlying27 rfl Try.ti27 rfl LenC.h) rfl ?_
    refine wpl_on rfl rfl ?_
    refine wpl_q (q_build (cs := St.z.c nl nl nl) rfl built_st0) rfl ?_
    refine wpl_on rfl rfl ?_
    refine wpl_t (t_pur (v := .bool true) Try.hb19 rfl fun w h => sameZ2 (crashF s n).1 hze b25 w h.seenV h.seenV h.seenV) rfl (fun b34 => ?_)
    refine wpl_q (q_pure rfl) rfl ?_
    refine wpl_q (q_pure rfl) rfl ?_
    refine wpl_nil ?_
    refine ex_then ?_
    refine wpc_ret ?_
    refine ex_then_ret ?_
    refine ret1 (.inl rfl) rfl rfl ?_
    exact fun w h => ⟨by first | rfl | simp, h.below⟩
   ·
    have hok : (crashF s n).2 = 0 := by simpa using hc29
    obtain ⟨m, rfl⟩ := Int.eq_ofNat_of_zero_le (crashF_ok hok).2.1
    obtain ⟨k1, k2, ⟨k3, k4, k5, k6⟩, k7, k8, k9, k10⟩ := keeps hok
    have hdb : Bs (dF s m) := crashF_bs hbs
    have htb : Bs (tF s m) := openF_bs hdb
    haveI : L32 (dF s m) := ⟨hdb.m⟩
    haveI : L32 (tF s m) := ⟨htb.m⟩
    have hl1 := htb.d
    refine wpc_skip ?_
    refine ex_then ?_
    refine wpc_seq ?_
    refine wpc_region ?_
    refine wpl_q (q_ldN Try.underlying27 rfl Try.ti27 rfl LenC.h) rfl ?_
    refine wpl_tp (t_callP2 Try.hb15 rfl fun w h => open_ (dF s m) b25.1 b25.2.1 b25.2.2 w ⟨hdb.m, h.seenV, h.seenV, h.seenV, by have := (hdb).d; omega, by have := (hdb).p; omega, by have := (hdb).k; omega⟩) rfl (fun b38 p38 => ?_)
    haveI : OneC ((tF s m).c b38.1 (openP (dF s m) b25.2.1) b38.2) := ⟨St.c_one p38.1 (openP_sv p25.2.1) p38.2⟩
    have spp : SV (openP (dF s m) b25.2.1) (tF s m).pd.length := openP_sv p25.2.1
    have sd38 : SV b38.1 (tF s m).dk.length := p38.1
    have sk38 : SV b38.2 (tF s m).ks.length := p38.2
    refine wpl_q (q_pure rfl) rfl ?_
    refine wpl_q (q_pure rfl) rfl ?_
    refine wpl_q (q_pure rfl) rfl ?_
    refine wpl_t (t_alloc Try.ti27 (St.z.c nl nl nl) rfl) rfl (fun b8 => ?_)
    refine wpl_t0 (t_stA Try.ti27 rfl rfl LenC.h OneC.h LenC.h) (fun _ => ?_)
    refine wpl_q (q_pure rfl) rfl ?_
    refine wpl_nil ?_
    refine ex_then ?_
    refine wpc_seq ?_
    refine wpc_seq ?_
    refine wpc_region ?_
    refine wpl_q (q_pure rfl) rfl ?_
    refine wpl_q (q_bt (c := false) (q_neI rfl rfl) (by simp [k1])) rfl ?_
    refine wpl_q (q_pure rfl) rfl ?_
    refine wpl_on rfl rfl ?_
    refine wpl_q (q_ldN Try.underlying27 rfl Try.ti27 rfl LenC.h) rfl ?_
    refine wpl_on rfl rfl ?_
    refine wpl_t (t_pur Try.hb29 rfl fun w h => check (tF s m) b38.1 (openP (dF s m) b25.2.1) b38.2 w ⟨htb.m, h.seenV, openP_seen h.seenV, h.seenV, by have := (htb).d; omega, by have := (htb).p; omega, by have := (htb).k; omega⟩) rfl (fun b45 => ?_)
    refine wpl_on rfl rfl ?_
    refine wpl_q (q_bt (c := false) (q_neI rfl rfl) (by simp [chk0 k2])) rfl ?_
    refine wpl_q (q_pure rfl) rfl ?_
    refine wpl_q (q_pure rfl) rfl ?_
    refine wpl_on rfl rfl ?_
    refine wpl_q (q_field Try.underlying27 rfl Try.ti24 rfl rfl _ rfl) rfl ?_
    refine wpl_on rfl rfl ?_
    refine wpl_q (q_ld Try.underlying24 rfl rfl (by first | exact St.c_d L32.h | exact St.c_p L32.h | exact St.c_k L32.h | exact St.c_b L32.h | exact St.c_u L32.h)) rfl ?_
    refine wpl_on rfl rfl ?_
    refine wpl_q (q_lenW Try.underlying24 rfl (by first | assumption | exact SV.nil | exact SV.slv (by assumption) (by omega) (by omega) | exact arv_sv (by first | decide | (simp only [maxLen]; omega)))) rfl ?_
    refine wpl_on rfl rfl ?_
    refine wpl_q (q_bt (c := false) (q_neI rfl rfl) (by rw [show (tF s m).pd = [] from openF_pd]; rfl)) rfl ?_
    refine wpl_q (q_pure rfl) rfl ?_
    refine wpl_q (q_pure rfl) rfl ?_
    refine wpl_on rfl rfl ?_
    refine wpl_q (q_field Try.underlying27 rfl Try.ti24 rfl rfl _ rfl) rfl ?_
    refine wpl_on rfl rfl ?_
    refine wpl_q (q_ld Try.underlying24 rfl rfl (by first | exact St.c_d L32.h | exact St.c_p L32.h | exact St.c_k L32.h | exact St.c_b L32.h | exact St.c_u L32.h)) rfl ?_
    refine wpl_on rfl rfl ?_
    refine wpl_q (q_lenW Try.underlying24 rfl (by first | assumption | exact SV.nil | exact SV.slv (by assumption) (by omega) (by omega) | exact arv_sv (by first | decide | (simp only [maxLen]; omega)))) rfl ?_
    refine wpl_on rfl rfl ?_
    refine wpl_q (q_field Try.underlying27 rfl Try.ti24 rfl rfl _ rfl) rfl ?_
    refine wpl_on rfl rfl ?_
    refine wpl_q (q_ld Try.underlying24 rfl rfl (by first | exact St.c_d L32.h | exact St.c_p L32.h | exact St.c_k L32.h | exact St.c_b L32.h | exact St.c_u L32.h)) rfl ?_
    refine wpl_on rfl rfl ?_
    refine wpl_q (q_lenW Try.underlying24 rfl (by first | assumption | exact SV.nil | exact SV.slv (by assumption) (by omega) (by omega) | exact arv_sv (by first | decide | (simp only [maxLen]; omega)))) rfl ?_
    refine wpl_on rfl rfl ?_
    refine wpl_q (q_bt (c := false) (q_pure rfl) (decide_eq_false (by omega))) rfl ?_
    refine wpl_q (q_pure rfl) rfl ?_
    refine wpl_q (q_pure rfl) rfl ?_
    refine wpl_on rfl rfl ?_
    refine wpl_q (q_field Try.underlying27 rfl Try.ti24 rfl rfl _ rfl) rfl ?_
    refine wpl_on rfl rfl ?_
    refine wpl_q (q_ld Try.underlying24 rfl rfl (by first | exact St.c_d L32.h | exact St.c_p L32.h | exact St.c_k L32.h | exact St.c_b L32.h | exact St.c_u L32.h)) rfl ?_
    refine wpl_on rfl rfl ?_
    refine wpl_q (q_lenW Try.underlying24 rfl (by first | assumption | exact SV.nil | exact SV.slv (by assumption) (by omega) (by omega) | exact arv_sv (by first | decide | (simp only [maxLen]; omega)))) rfl ?_
    refine wpl_on rfl rfl ?_
    refine wpl_q (q_field Try.underlying27 rfl Try.ti24 rfl rfl _ rfl) rfl ?_
    refine wpl_on rfl rfl ?_
    refine wpl_q (q_ld Try.underlying24 rfl rfl (by first | exact St.c_d L32.h | exact St.c_p L32.h | exact St.c_k L32.h | exact St.c_b L32.h | exact St.c_u L32.h)) rfl ?_
    refine wpl_on rfl rfl ?_
    refine wpl_q (q_lenW Try.underlying24 rfl (by first | assumption | exact SV.nil | exact SV.slv (by assumption) (by omega) (by omega) | exact arv_sv (by first | decide | (simp only [maxLen]; omega)))) rfl ?_
    refine wpl_on rfl rfl ?_
    refine wpl_q (q_pure rfl) rfl ?_
    refine wpl_on rfl rfl ?_
    refine wpl_q (q_addN rfl rfl (by first | omega | (simp only [maxLen]; omega) | (simp only [List.length_append, List.length_cons, List.length_nil, List.length_take, maxLen]; omega) | (simp only [List.length_append, List.length_cons, List.length_nil, List.length_take]; omega))) rfl ?_
    refine wpl_on rfl rfl ?_
    refine wpl_q (q_bt (c := false) (q_pure rfl) (decide_eq_false (by omega))) rfl ?_
    refine wpl_q (q_pure rfl) rfl ?_
    refine wpl_q (q_pure rfl) rfl ?_
    refine wpl_on rfl rfl ?_
    refine wpl_q (q_field Try.underlying27 rfl Try.ti24 rfl rfl _ rfl) rfl ?_
    refine wpl_on rfl rfl ?_
    refine wpl_q (q_ld Try.underlying24 rfl rfl (by first | exact St.c_d L32.h | exact St.c_p L32.h | exact St.c_k L32.h | exact St.c_b L32.h | exact St.c_u L32.h)) rfl ?_
    refine wpl_on rfl rfl ?_
    refine wpl_q (q_lenW Try.underlying24 rfl (by first | assumption | exact SV.nil | exact SV.slv (by assumption) (by omega) (by omega) | exact arv_sv (by first | decide | (simp only [maxLen]; omega)))) rfl ?_
    refine wpl_on rfl rfl ?_
    refine wpl_q (q_addN (b := 10) rfl rfl (by first | omega | (simp only [maxLen]; omega) | (simp only [List.length_append, List.length_cons, List.length_nil, List.length_take, maxLen]; omega) | (simp only [List.length_append, List.length_cons, List.length_nil, List.length_take]; omega))) rfl ?_
    refine wpl_on rfl rfl ?_
    refine wpl_q (q_field Try.underlying27 rfl Try.ti24 rfl rfl _ rfl) rfl ?_
    refine wpl_on rfl rfl ?_
    refine wpl_q (q_ld Try.underlying24 rfl rfl (by first | exact St.c_d L32.h | exact St.c_p L32.h | exact St.c_k L32.h | exact St.c_b L32.h | exact St.c_u L32.h)) rfl ?_
    refine wpl_on rfl rfl ?_
    refine wpl_q (q_lenW Try.underlying24 rfl (by first | assumption | exact SV.nil | exact SV.slv (by assumption) (by omega) (by omega) | exact arv_sv (by first | decide | (simp only [maxLen]; omega)))) rfl ?_
    refine wpl_on rfl rfl ?_
    refine wpl_q (q_pure rfl) rfl ?_
    refine wpl_on rfl rfl ?_
    refine wpl_q (q_addN rfl rfl (by first | omega | (simp only [maxLen]; omega) | (simp only [List.length_append, List.length_cons, List.length_nil, List.length_take, maxLen]; omega) | (simp only [List.length_append, List.length_cons, List.length_nil, List.length_take]; omega))) rfl ?_
    refine wpl_on rfl rfl ?_
    refine wpl_q (q_bt (c := false) (q_pure rfl) (decide_eq_false (by omega))) rfl ?_
    refine wpl_q (q_pure rfl) rfl ?_
    refine wpl_nil ?_
    refine ex_then ?_
    refine wpc_cond_f rfl ?_
    refine wpc_skip ?_
    refine ex_then ?_
    refine wpc_seq ?_
    refine wpc_draw 99 (by kernel_rfl) (fun _ h => h.drew) ?_
    refine wpd_p 1 rfl (by kernel_rfl) trivial (q_field Try.underlying27 rfl Try.ti24 rfl rfl _ rfl) rfl sk0 ?_
    refine wpd_q 2 rfl (by kernel_rfl) trivial (q_ld Try.underlying24 rfl rfl (by first | exact St.c_d L32.h | exact St.c_p L32.h | exact St.c_k L32.h | exact St.c_b L32.h | exact St.c_u L32.h)) rfl (fun _ h => h) ?_
    refine wpd_p 4 rfl (by kernel_rfl) trivial (q_field Try.underlying27 rfl Try.ti24 rfl rfl _ rfl) rfl sk0 ?_
    refine wpd_q 5 rfl (by kernel_rfl) trivial (q_ld Try.underlying24 rfl rfl (by first | exact St.c_d L32.h | exact St.c_p L32.h | exact St.c_k L32.h | exact St.c_b L32.h | exact St.c_u L32.h)) rfl (fun _ h => h) ?_
    refine wpd_tp 0 rfl (by kernel_rfl) trivial (t_bs0W Try.underlying24 Try.ti5) rfl (fun _ => (fun w h => .inr (h.sub SubC.h SubC.h))) (fun b86 p86 => ?_)
    refine wpd_tp 3 rfl (by kernel_rfl) trivial (t_ap0 Try.underlying24 Try.ti5 rfl (by decide) rfl rfl (fun w h => h.seen_old hd) (v8s_one _) (by first | omega | (simp only [maxLen]; omega) | (simp only [List.length_append, List.length_cons, List.length_nil, List.length_take, maxLen]; omega) | (simp only [List.length_append, List.length_cons, List.length_nil, List.length_take]; omega)) (by first | omega | (simp only [maxLen]; omega) | (simp only [List.length_append, List.length_cons, List.length_nil, List.length_take, maxLen]; omega) | (simp only [List.length_append, List.length_cons, List.length_nil, List.length_take]; omega))) rfl (fun _ => (fun w h => .inr (h.sub SubC.h SubC.h))) (fun b89 p89 => ?_)
    refine wpd_tp 6 rfl (by kernel_rfl) trivial (t_apW Try.underlying24 Try.ti5 rfl (by decide) rfl rfl (fun w h => h.seen_old hp) (v8s_one _) (by first | omega | (simp only [maxLen]; omega) | (simp only [List.length_append, List.length_cons, List.length_nil, List.length_take, maxLen]; omega) | (simp only [List.length_append, List.length_cons, List.length_nil, List.length_take]; omega)) (by first | omega | (simp only [maxLen]; omega) | (simp only [List.length_append, List.length_cons, List.length_nil, List.length_take, maxLen]; omega) | (simp only [List.length_append, List.length_cons, List.length_nil, List.length_take]; omega)) (v8s (s.dk ++ s.pd)) (by rw [v8s_append])) rfl (fun _ => (fun w h => .inr (h.sub SubC.h SubC.h))) (fun b92 p92 => ?_)
    refine wpd_p 7 rfl (by kernel_rfl) trivial (q_pure rfl) rfl (fun w h => .inr (h.sub SubC.h SubC.h)) ?_
    refine wpd_done (by kernel_rfl) ?_
    refine ex_then ?_
    refine wpc_seq ?_
    refine wpc_seq ?_
    refine wpc_draw 26 (by kernel_rfl) (fun _ h => h.drew) ?_
    refine wpd_p 0 rfl (by kernel_rfl) trivial (q_field Try.underlying27 rfl Try.ti24 rfl rfl _ rfl) rfl sk0 ?_
    refine wpd_q 1 rfl (by kernel_rfl) trivial (q_ld Try.underlying24 rfl rfl (by first | exact St.c_d L32.h | exact St.c_p L32.h | exact St.c_k L32.h | exact St.c_b L32.h | exact St.c_u L32.h)) rfl (fun _ h => h) ?_
    refine wpd_p 2 rfl (by kernel_rfl) trivial (q_lenW Try.underlying24 rfl (by first | assumption | exact SV.nil | exact SV.slv (by assumption) (by omega) (by omega) | exact arv_sv (by first | decide | (simp only [maxLen]; omega)))) rfl sk0 ?_
    refine wpd_p 3 rfl (by kernel_rfl) trivial (q_pure rfl) rfl sk0 ?_
    refine wpd_p 4 rfl (by kernel_rfl) trivial (q_lenW Try.underlying24 rfl (by first | assumption | exact SV.nil | exact SV.slv (by assumption) (by omega) (by omega) | exact arv_sv (by first | decide | (simp only [maxLen]; omega)))) rfl sk0 ?_
    refine wpd_p 5 rfl (by kernel_rfl) trivial (q_bt (c := false) (q_pure rfl) (decide_eq_false (by omega))) rfl sk0 ?_
    refine wpd_p 6 rfl (by kernel_rfl) trivial (q_pure rfl) rfl sk0 ?_
    refine wpd_p 7 rfl (by kernel_rfl) ⟨_, rfl, rfl⟩ (q_field Try.underlying27 rfl Try.ti24 rfl rfl _ rfl) rfl sk0 ?_
    refine wpd_q 8 rfl (by kernel_rfl) ⟨_, rfl, rfl⟩ (q_ld Try.underlying24 rfl rfl (by first | exact St.c_d L32.h | exact St.c_p L32.h | exact St.c_k L32.h | exact St.c_b L32.h | exact St.c_u L32.h)) rfl (fun _ h => h) ?_
    refine wpd_p 9 rfl (by kernel_rfl) ⟨_, rfl, rfl⟩ (q_pure rfl) rfl sk0 ?_
    refine wpd_p 10 rfl (by kernel_rfl) ⟨_, rfl, rfl⟩ (q_field Try.underlying27 rfl Try.ti24 rfl rfl _ rfl) rfl sk0 ?_
    refine wpd_q 11 rfl (by kernel_rfl) ⟨_, rfl, rfl⟩ (q_ld Try.underlying24 rfl rfl (by first | exact St.c_d L32.h | exact St.c_p L32.h | exact St.c_k L32.h | exact St.c_b L32.h | exact St.c_u L32.h)) rfl (fun _ h => h) ?_
    refine wpd_p 12 rfl (by kernel_rfl) ⟨_, rfl, rfl⟩ (q_lenW Try.underlying24 rfl (by first | assumption | exact SV.nil | exact SV.slv (by assumption) (by omega) (by omega) | exact arv_sv (by first | decide | (simp only [maxLen]; omega)))) rfl sk0 ?_
    refine wpd_p 13 rfl (by kernel_rfl) ⟨_, rfl, rfl⟩ (q_slWh Try.underlying24 Try.ti5 rfl rfl (by first | assumption | exact SV.nil | exact SV.slv (by assumption) (by omega) (by omega) | exact arv_sv (by first | decide | (simp only [maxLen]; omega))) (by omega)) rfl sk0 ?_
    refine wpd_t 14 rfl (by kernel_rfl) ⟨_, rfl, rfl⟩ (t_pur (v := .bool true) Try.hb35 rfl fun w h => by
      have q := refSameB b38.1 (tF s m).dk (slv b92 0 (tF s m).dk.length 1) ((s.dk ++ s.pd).take (tF s m).dk.length) w h.seenV (Seen.re8 (by have z := Seen.slv8 (h.seenV : Seen w.cell? b92 (s.dk.length + s.pd.length) 1 (v8s (s.dk ++ s.pd))) 0 (tF s m).dk.length (Nat.zero_le _) (by omega); rw [List.drop_zero, Nat.sub_zero] at z; exact z))
      rw [decide_eq_true k7] at q
      exact q) rfl (fun _ => sk0) (fun b107 => ?_)
    refine wpd_p 15 rfl (by kernel_rfl) ⟨_, rfl, rfl⟩ (q_pure rfl) rfl sk0 ?_
    refine wpd_p 16 rfl (by kernel_rfl) trivial (q_pure rfl) rfl sk0 ?_
    refine wpd_p 17 rfl (by kernel_rfl) trivial (q_pure rfl) rfl sk0 ?_
    refine wpd_p 18 rfl (by kernel_rfl) ⟨_, rfl, rfl⟩ (q_field Try.underlying27 rfl Try.ti25 rfl rfl _ rfl) rfl sk0 ?_
    refine wpd_q 19 rfl (by kernel_rfl) ⟨_, rfl, rfl⟩ (q_ld Try.underlying25 rfl rfl (by first | exact St.c_d L32.h | exact St.c_p L32.h | exact St.c_k L32.h | exact St.c_b L32.h | exact St.c_u L32.h)) rfl (fun _ h => h) ?_
    refine wpd_p 20 rfl (by kernel_rfl) ⟨_, rfl, rfl⟩ (q_lenW Try.underlying25 rfl (by first | assumption | exact SV.nil | exact SV.slv (by assumption) (by omega) (by omega) | exact arv_sv (by first | decide | (simp only [maxLen]; omega)))) rfl sk0 ?_
    refine wpd_p 21 rfl (by kernel_rfl) ⟨_, rfl, rfl⟩ (q_field Try.underlying27 rfl Try.ti25 rfl rfl _ rfl) rfl sk0 ?_
    refine wpd_q 22 rfl (by kernel_rfl) ⟨_, rfl, rfl⟩ (q_ld Try.underlying25 rfl rfl (by first | exact St.c_d L32.h | exact St.c_p L32.h | exact St.c_k L32.h | exact St.c_b L32.h | exact St.c_u L32.h)) rfl (fun _ h => h) ?_
    refine wpd_p 23 rfl (by kernel_rfl) ⟨_, rfl, rfl⟩ (q_lenW Try.underlying25 rfl (by first | assumption | exact SV.nil | exact SV.slv (by assumption) (by omega) (by omega) | exact arv_sv (by first | decide | (simp only [maxLen]; omega)))) rfl sk0 ?_
    refine wpd_p 24 rfl (by kernel_rfl) ⟨_, rfl, rfl⟩ (q_bt (c := false) (q_pure rfl) (decide_eq_false (by omega))) rfl sk0 ?_
    refine wpd_p 25 rfl (by kernel_rfl) trivial (q_pure rfl) rfl sk0 ?_
    refine wpd_done (by kernel_rfl) ?_
    refine ex_then ?_
    refine wpc_cond_f rfl ?_
    refine wpc_skip ?_
    refine ex_then ?_
    refine wpc_seq ?_
    refine wpc_seq ?_
    refine wpc_region ?_
    refine wpl_q (q_pure rfl) rfl ?_
    refine wpl_nil ?_
    refine ex_then ?_
    refine wpc_block ?_
    refine wpc_loopc (ι := { x : Nat // (x ≤ s.ks.length) }) [(2, _), (5, _), (8, _)] (fun x Lc => (11, .int .i64 ((x.1 : Nat) : Int)) :: Lc) (fun x => Mem w [] [.blk b8 27 ((tF s m).c b38.1 (openP (dF s m) b25.2.1) b38.2), .blk b2 27 (s.c dv pv kv), kRow b38.2 (tF s m).ks] []) (fun x => s.ks.length - x.1) ⟨0, (Nat.zero_le _)⟩ (by repeat (first | exact trivial | refine ⟨rfl, ?_⟩)) ?_ ?_
    ·
     exact fun w h => h.sel
    ·
     rintro ⟨i, hi0⟩; try dsimp only
     have hi0 : i ≤ s.ks.length := hi0
     refine wpc_seq ?_
     refine wpc_seq ?_
     refine wpc_region ?_
     refine wpl_q (q_pure rfl) rfl ?_
     refine wpl_q (q_field Try.underlying27 rfl Try.ti25 rfl rfl _ rfl) rfl ?_
     refine wpl_q (q_ld Try.underlying25 rfl rfl (by first | exact St.c_d L32.h | exact St.c_p L32.h | exact St.c_k L32.h | exact St.c_b L32.h | exact St.c_u L32.h)) rfl ?_
     refine wpl_q (q_lenW Try.underlying25 rfl (by first | assumption | exact SV.nil | exact SV.slv (by assumption) (by omega) (by omega) | exact arv_sv (by first | decide | (simp only [maxLen]; omega)))) rfl ?_
     refine wpl_q (q_pure rfl) rfl ?_
     refine wpl_nil ?_
     refine ex_then ?_
     refine wpc_cond rfl (fun hc123 => ?_) (fun hc123 => ?_)
     ·
      simp only [decide_eq_true_eq] at hc123
      have hil : i < s.ks.length := by omega
      refine wpc_skip ?_
      refine ex_then ?_
      refine wpc_seq ?_
      refine wpc_block ?_
      refine wpc_seq ?_
      refine wpc_region ?_
      refine wpl_q (q_field Try.underlying27 rfl Try.ti25 rfl rfl _ rfl) rfl ?_
      refine wpl_q (q_ld Try.underlying25 rfl rfl (by first | exact St.c_d L32.h | exact St.c_p L32.h | exact St.c_k L32.h | exact St.c_b L32.h | exact St.c_u L32.h)) rfl ?_
      refine wpl_q (q_pure rfl) rfl ?_
      refine wpl_q (q_idxW Try.underlying25 Try.ti66 rfl rfl (by first | assumption | exact SV.nil | exact SV.slv (by assumption) (by omega) (by omega) | exact arv_sv (by first | decide | (simp only [maxLen]; omega))) (by first | omega | (simp only [maxLen]; omega) | (simp only [List.length_append, List.length_cons, List.length_nil, List.length_take, maxLen]; omega) | (simp only [List.length_append, List.length_cons, List.length_nil, List.length_take]; omega))) rfl ?_
      refine wpl_q (q_ldWN Try.underlying66 rfl Try.ti66 rfl (fun w h => h.seen_old hk) (s.ks.getD i KE.z).c (kcs_part hil) rfl) rfl ?_
      refine wpl_t (t_alloc Try.ti66 KE.z.c rfl) rfl (fun b12 => ?_)
      refine wpl_t0 (t_stA Try.ti66 rfl rfl LenC.h OneC.h LenC.h) (fun _ => ?_)
      refine wpl_nil ?_
      refine ex_then ?_
      refine wpc_seq ?_
      refine wpc_seq ?_
      refine wpc_region ?_
      refine wpl_q (q_pure rfl) rfl ?_
      refine wpl_q (q_field Try.underlying27 rfl Try.ti25 rfl rfl _ rfl) rfl ?_
      refine wpl_q (q_ld Try.underlying25 rfl rfl (by first | exact St.c_d L32.h | exact St.c_p L32.h | exact St.c_k L32.h | exact St.c_b L32.h | exact St.c_u L32.h)) rfl ?_
      refine wpl_q (q_lenW Try.underlying25 rfl (by first | assumption | exact SV.nil | exact SV.slv (by assumption) (by omega) (by omega) | exact arv_sv (by first | decide | (simp only [maxLen]; omega)))) rfl ?_
      refine wpl_q (q_pure rfl) rfl ?_
      refine wpl_nil ?_
      refine ex_then ?_
      refine wpc_cond rfl (fun hc135 => ?_) (fun hc135 => ?_)
      ·
       simp only [decide_eq_true_eq, ge_iff_le] at hc135
       have hz := k9 i hil (by omega)
       refine wpc_seq ?_
       refine wpc_seq ?_
       refine wpc_region ?_
       refine wpl_q (q_field Try.underlying66 rfl Try.ti3 rfl rfl _ rfl) rfl ?_
       refine wpl_q (q_ld Try.underlying3 rfl rfl (by first | exact vns_get (by first | decide | omega | exact Nat.zero_lt_one | (simp; omega) | (simp; done) | (simp only [v8s_length, v32s_length, vis_length, vns_length, v64s_length]; omega)) | rfl)) rfl ?_
       refine wpl_q (q_bt (c := false) (q_pure rfl) (decide_eq_false (by omega))) rfl ?_
       refine wpl_q (q_pure rfl) rfl ?_
       refine wpl_on rfl rfl ?_
       refine wpl_q (q_field Try.underlying66 rfl Try.ti3 rfl rfl _ rfl) rfl ?_
       refine wpl_on rfl rfl ?_
       refine wpl_q (q_ld Try.underlying3 rfl rfl (by first | exact vns_get (by first | decide | omega | exact Nat.zero_lt_one | (simp; omega) | (simp; done) | (simp only [v8s_length, v32s_length, vis_length, vns_length, v64s_length]; omega)) | rfl)) rfl ?_
       refine wpl_on rfl rfl ?_
       refine wpl_q (q_bt (c := false) (q_pure rfl) (decide_eq_false (by omega))) rfl ?_
       refine wpl_q (q_pure rfl) rfl ?_
       refine wpl_nil ?_
       refine ex_then ?_
       refine wpc_cond_f rfl ?_
       refine wpc_skip ?_
       refine ex_then ?_
       refine wpc_exit ?_
       refine ex_then_exit ?_
       refine ex_block_hit ?_
       refine ex_then ?_
       refine wpc_region ?_
       refine wpl_q (q_pure rfl) rfl ?_
       refine wpl_q (q_addN (b := 1) rfl rfl (by first | omega | (simp only [maxLen]; omega) | (simp only [List.length_append, List.length_cons, List.length_nil, List.length_take, maxLen]; omega) | (simp only [List.length_append, List.length_cons, List.length_nil, List.length_take]; omega))) rfl ?_
       refine wpl_q (q_pure rfl) rfl ?_
       refine wpl_nil ?_
       refine ex_again ⟨i + 1, (by omega)⟩ ?_ ?_ ?_
       ·
        exact (by repeat (first | exact trivial | refine ⟨rfl, ?_⟩))
       ·
        exact fun w h => by first | exact h.sel | (dsimp only; exact h.sel)
       ·
        (show s.ks.length - (i + 1) < s.ks.length - i); omega
      ·
       simp only [decide_eq_false_iff_not, ge_iff_le] at hc135
       have hit : i < (tF s m).ks.length := by omega
       obtain ⟨e1, e2, e3, e4, e5, e6⟩ := k10 i hit
       refine wpc_skip ?_
       refine ex_then ?_
       refine wpc_seq ?_
       refine wpc_region ?_
       refine wpl_q (q_field Try.underlying27 rfl Try.ti25 rfl rfl _ rfl) rfl ?_
       refine wpl_q (q_ld Try.underlying25 rfl rfl (by first | exact St.c_d L32.h | exact St.c_p L32.h | exact St.c_k L32.h | exact St.c_b L32.h | exact St.c_u L32.h)) rfl ?_
       refine wpl_q (q_pure rfl) rfl ?_
       refine wpl_q (q_idxW Try.underlying25 Try.ti66 rfl rfl (by first | assumption | exact SV.nil | exact SV.slv (by assumption) (by omega) (by omega) | exact arv_sv (by first | decide | (simp only [maxLen]; omega))) (by first | omega | (simp only [maxLen]; omega) | (simp only [List.length_append, List.length_cons, List.length_nil, List.length_take, maxLen]; omega) | (simp only [List.length_append, List.length_cons, List.length_nil, List.length_take]; omega))) rfl ?_
       refine wpl_q (q_ldWN Try.underlying66 rfl Try.ti66 rfl (fun w h => h.seenV) ((tF s m).ks.getD i KE.z).c (kcs_part hit) rfl) rfl ?_
       refine wpl_t (t_alloc Try.ti66 KE.z.c rfl) rfl (fun b13 => ?_)
       refine wpl_t0 (t_stA Try.ti66 rfl rfl LenC.h OneC.h LenC.h) (fun _ => ?_)
       refine wpl_nil ?_
       refine ex_then ?_
       refine wpc_seq ?_
       refine wpc_region ?_
       refine wpl_q (q_field Try.underlying66 rfl Try.ti28 rfl rfl _ rfl) rfl ?_
       refine wpl_q (q_ld Try.underlying28 rfl rfl (by first | exact v32s_get (by first | decide | omega | exact Nat.zero_lt_one | (simp; omega) | (simp; done) | (simp only [v8s_length, v32s_length, vis_length, vns_length, v64s_length]; omega)) | rfl)) rfl ?_
       refine wpl_q (q_field Try.underlying66 rfl Try.ti28 rfl rfl _ rfl) rfl ?_
       refine wpl_q (q_ld Try.underlying28 rfl rfl (by first | exact v32s_get (by first | decide | omega | exact Nat.zero_lt_one | (simp; omega) | (simp; done) | (simp only [v8s_length, v32s_length, vis_length, vns_length, v64s_length]; omega)) | rfl)) rfl ?_
       refine wpl_q (q_bt (c := false) (q32_neq rfl rfl) (by rw [e1]; simp)) rfl ?_
       refine wpl_q (q_pure rfl) rfl ?_
       refine wpl_on rfl rfl ?_
       refine wpl_q (q_field Try.underlying66 rfl Try.ti3 rfl rfl _ rfl) rfl ?_
       refine wpl_on rfl rfl ?_
       refine wpl_q (q_ld Try.underlying3 rfl rfl (by first | exact vns_get (by first | decide | omega | exact Nat.zero_lt_one | (simp; omega) | (simp; done) | (simp only [v8s_length, v32s_length, vis_length, vns_length, v64s_length]; omega)) | rfl)) rfl ?_
       refine wpl_on rfl rfl ?_
       refine wpl_q (q_field Try.underlying66 rfl Try.ti3 rfl rfl _ rfl) rfl ?_
       refine wpl_on rfl rfl ?_
       refine wpl_q (q_ld Try.underlying3 rfl rfl (by first | exact vns_get (by first | decide | omega | exact Nat.zero_lt_one | (simp; omega) | (simp; done) | (simp only [v8s_length, v32s_length, vis_length, vns_length, v64s_length]; omega)) | rfl)) rfl ?_
       refine wpl_on rfl rfl ?_
       refine wpl_q (q_bt (c := false) (q_neI rfl rfl) (by rw [e2]; simp)) rfl ?_
       refine wpl_q (q_pure rfl) rfl ?_
       refine wpl_q (q_pure rfl) rfl ?_
       refine wpl_on rfl rfl ?_
       refine wpl_q (q_field Try.underlying66 rfl Try.ti3 rfl rfl _ rfl) rfl ?_
       refine wpl_on rfl rfl ?_
       refine wpl_q (q_ld Try.underlying3 rfl rfl (by first | exact vns_get (by first | decide | omega | exact Nat.zero_lt_one | (simp; omega) | (simp; done) | (simp only [v8s_length, v32s_length, vis_length, vns_length, v64s_length]; omega)) | rfl)) rfl ?_
       refine wpl_on rfl rfl ?_
       refine wpl_q (q_field Try.underlying66 rfl Try.ti3 rfl rfl _ rfl) rfl ?_
       refine wpl_on rfl rfl ?_
       refine wpl_q (q_ld Try.underlying3 rfl rfl (by first | exact vns_get (by first | decide | omega | exact Nat.zero_lt_one | (simp; omega) | (simp; done) | (simp only [v8s_length, v32s_length, vis_length, vns_length, v64s_length]; omega)) | rfl)) rfl ?_
       refine wpl_on rfl rfl ?_
       refine wpl_q (q_bt (c := false) (q_pure rfl) (decide_eq_false (by omega))) rfl ?_
       refine wpl_q (q_pure rfl) rfl ?_
       refine wpl_q (q_pure rfl) rfl ?_
       refine wpl_on rfl rfl ?_
       refine wpl_q (q_field Try.underlying66 rfl Try.ti3 rfl rfl _ rfl) rfl ?_
       refine wpl_on rfl rfl ?_
       refine wpl_q (q_ld Try.underlying3 rfl rfl (by first | exact vns_get (by first | decide | omega | exact Nat.zero_lt_one | (simp; omega) | (simp; done) | (simp only [v8s_length, v32s_length, vis_length, vns_length, v64s_length]; omega)) | rfl)) rfl ?_
       refine wpl_on rfl rfl ?_
       refine wpl_q (q_field Try.underlying66 rfl Try.ti3 rfl rfl _ rfl) rfl ?_
       refine wpl_on rfl rfl ?_
       refine wpl_q (q_ld Try.underlying3 rfl rfl (by first | exact vns_get (by first | decide | omega | exact Nat.zero_lt_one | (simp; omega) | (simp; done) | (simp only [v8s_length, v32s_length, vis_length, vns_length, v64s_length]; omega)) | rfl)) rfl ?_
       refine wpl_on rfl rfl ?_
       refine wpl_q (q_bt (c := false) (q_pure rfl) (decide_eq_false (by omega))) rfl ?_
       refine wpl_q (q_pure rfl) rfl ?_
       refine wpl_q (q_pure rfl) rfl ?_
       refine wpl_on rfl rfl ?_
       refine wpl_q (q_field Try.underlying66 rfl Try.ti3 rfl rfl _ rfl) rfl ?_
       refine wpl_on rfl rfl ?_
       refine wpl_q (q_ld Try.underlying3 rfl rfl (by first | exact vns_get (by first | decide | omega | exact Nat.zero_lt_one | (simp; omega) | (simp; done) | (simp only [v8s_length, v32s_length, vis_length, vns_length, v64s_length]; omega)) | rfl)) rfl ?_
       refine wpl_on rfl rfl ?_
       refine wpl_q (q_field Try.underlying66 rfl Try.ti3 rfl rfl _ rfl) rfl ?_
       refine wpl_on rfl rfl ?_
       refine wpl_q (q_ld Try.underlying3 rfl rfl (by first | exact vns_get (by first | decide | omega | exact Nat.zero_lt_one | (simp; omega) | (simp; done) | (simp only [v8s_length, v32s_length, vis_length, vns_length, v64s_length]; omega)) | rfl)) rfl ?_
       refine wpl_on rfl rfl ?_
       refine wpl_q (q_bt (c := false) (q_pure rfl) (decide_eq_false (by omega))) rfl ?_
       refine wpl_q (q_pure rfl) rfl ?_
       refine wpl_q (q_pure rfl) rfl ?_
       refine wpl_on rfl rfl ?_
       refine wpl_q (q_field Try.underlying66 rfl Try.ti4 rfl rfl _ rfl) rfl ?_
       refine wpl_on rfl rfl ?_
       refine wpl_q (q_ld Try.underlying4 rfl rfl (by first | exact vbs_get (by first | decide | omega | exact Nat.zero_lt_one | (simp; omega) | (simp; done) | (simp only [v8s_length, v32s_length, vis_length, vns_length, v64s_length]; omega)) | rfl)) rfl ?_
       refine wpl_on rfl rfl ?_
       refine wpl_q (q_pure rfl) rfl ?_
       refine wpl_bool2 185 184 rfl rfl (fun hb185 => ?_) (fun hb185 => ?_)
       ·
        refine wpl_on rfl rfl ?_
        refine wpl_q (q_field Try.underlying66 rfl Try.ti4 rfl rfl _ rfl) rfl ?_
        refine wpl_on rfl rfl ?_
        refine wpl_q (q_ld Try.underlying4 rfl rfl (by first | exact vbs_get (by first | decide | omega | exact Nat.zero_lt_one | (simp; omega) | (simp; done) | (simp only [v8s_length, v32s_length, vis_length, vns_length, v64s_length]; omega)) | rfl)) rfl ?_
        refine wpl_on rfl rfl ?_
        refine wpl_q (q_bt (c := false) (q_pure rfl) (by rw [e6 (by simpa using hb185)]; rfl)) rfl ?_
        refine wpl_on rfl rfl ?_
        refine wpl_q (q_pure rfl) rfl ?_
        refine wpl_q (q_pure rfl) rfl ?_
        refine wpl_nil ?_
        refine ex_then ?_
        refine wpc_cond_f rfl ?_
        refine wpc_skip ?_
        refine ex_block ?_
        refine ex_then ?_
        refine wpc_region ?_
        refine wpl_q (q_pure rfl) rfl ?_
        refine wpl_q (q_addN (b := 1) rfl rfl (by first | omega | (simp only [maxLen]; omega) | (simp only [List.length_append, List.length_cons, List.length_nil, List.length_take, maxLen]; omega) | (simp only [List.length_append, List.length_cons, List.length_nil, List.length_take]; omega))) rfl ?_
        refine wpl_q (q_pure rfl) rfl ?_
        refine wpl_nil ?_
        refine ex_again ⟨i + 1, (by omega)⟩ ?_ ?_ ?_
        ·
         exact (by repeat (first | exact trivial | refine ⟨rfl, ?_⟩))
        ·
         exact fun w h => by first | exact h.sel | (dsimp only; exact h.sel)
        ·
         (show s.ks.length - (i + 1) < s.ks.length - i); omega
       ·
        refine wpl_off rfl rfl rfl rfl ?_
        refine wpl_off rfl rfl rfl rfl ?_
        refine wpl_off rfl rfl rfl rfl ?_
        refine wpl_on rfl rfl ?_
        refine wpl_q (q_pure rfl) rfl ?_
        refine wpl_q (q_pure rfl) rfl ?_
        refine wpl_nil ?_
        refine ex_then ?_
        refine wpc_cond_f rfl ?_
        refine wpc_skip ?_
        refine ex_block ?_
        refine ex_then ?_
        refine wpc_region ?_
        refine wpl_q (q_pure rfl) rfl ?_
        refine wpl_q (q_addN (b := 1) rfl rfl (by first | omega | (simp only [maxLen]; omega) | (simp only [List.length_append, List.length_cons, List.length_nil, List.length_take, maxLen]; omega) | (simp only [List.length_append, List.length_cons, List.length_nil, List.length_take]; omega))) rfl ?_
        refine wpl_q (q_pure rfl) rfl ?_
        refine wpl_nil ?_
        refine ex_again ⟨i + 1, (by omega)⟩ ?_ ?_ ?_
        ·
         exact (by repeat (first | exact trivial | refine ⟨rfl, ?_⟩))
        ·
         exact fun w h => by first | exact h.sel | (dsimp only; exact h.sel)
        ·
         (show s.ks.length - (i + 1) < s.ks.length - i); omega
     ·
      try simp only [decide_eq_true_eq, decide_eq_false_iff_not, Bool.and_eq_true, Bool.or_eq_true, beq_iff_eq, bne_iff_ne, ne_eq, Bool.not_eq_true', Bool.not_eq_false', Decidable.not_not] at hc123
      refine wpc_exit ?_
      refine ex_then_exit ?_
      refine ex_then_exit ?_
      refine ex_block_hit ?_
      refine ex_then ?_
      refine wpc_seq ?_
      refine wpc_region ?_
      refine wpl_q (q_pure rfl) rfl ?_
      refine wpl_q (q_pure rfl) rfl ?_
      refine wpl_nil ?_
      refine ex_then ?_
      refine wpc_ret ?_
      refine ret1 (.inl rfl) rfl rfl ?_
      exact fun w h => ⟨rfl, h.below⟩

end Go.Proofs.Ytoaeklbenmlooaa
