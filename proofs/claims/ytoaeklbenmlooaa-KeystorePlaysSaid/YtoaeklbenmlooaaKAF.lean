/- The law KeystorePlays returns true. -/
import Derived.Test.YtoaeklbenmlooaaKAE
namespace Go.Proofs.Ytoaeklbenmlooaa
set_option linter.unusedSimpArgs false
set_option linter.unusedVariables false
open Go Go.PL Go.RowKit

def xF (l : List Stp) : Stp := l.getD (l.length - 1) Stp.z
def fF (m : List UInt8) (n : Int) (l : List Stp) : List (Int × Int) := (runF (l.take (l.length - 1)) (newF m n).1).1
def uF (m : List UInt8) (n : Int) (l : List Stp) : St := (runF (l.take (l.length - 1)) (newF m n).1).2
def lF (m : List UInt8) (n : Int) (l : List Stp) : St := (stepF (uF m n l) (xF l)).2.1
def eF (m : List UInt8) (n : Int) (l : List Stp) : List (Int × Int) := fF m n l ++ [((stepF (uF m n l) (xF l)).1, (stepF (uF m n l) (xF l)).2.2)]
theorem take_last {l : List Stp} (h : 0 < l.length) : l.take (l.length - 1) ++ [xF l] = l := by
  have e : xF l = l[l.length - 1] := by rw [xF, List.getD_eq_getElem?_getD, List.getElem?_eq_getElem (by omega)]; rfl
  rw [e, ← List.getLast_eq_getElem (by intro hh; rw [hh] at h; simp at h)]
  rw [← List.dropLast_eq_take]; exact List.dropLast_concat_getLast _
theorem pl_ok {m : List UInt8} {n : Int} {l : List Stp} (h : (playF m n l).2.2 = 0) : (newF m n).2 = 0 ∧ ¬ 300 < l.length := by
  by_cases h1 : (newF m n).2 = 0
  · refine ⟨h1, fun h2 => ?_⟩
    rw [pl2 h1 h2] at h; cases h
  · rw [pl1 h1] at h; exact absurd h h1
theorem pl_first {m : List UInt8} {n : Int} {l : List Stp} (h1 : (newF m n).2 = 0) (h2 : ¬ 300 < l.length) : playF m n (l.take (l.length - 1)) = (fF m n l, uF m n l, 0) := pl3 h1 (by rw [List.length_take]; omega)
theorem pl_last {m : List UInt8} {n : Int} {l : List Stp} (h1 : (newF m n).2 = 0) (h2 : ¬ 300 < l.length) (h3 : 0 < l.length) : playF m n l = (eF m n l, lF m n l, 0) := by
  rw [pl3 h1 h2]
  have e := runF_snoc (l.take (l.length - 1)) (xF l) (newF m n).1
  rw [take_last h3] at e
  rw [e]; rfl
theorem fF_len {m : List UInt8} {n : Int} {l : List Stp} : (fF m n l).length = l.length - 1 := by rw [fF, runF_len, List.length_take]; omega
theorem eF_len {m : List UInt8} {n : Int} {l : List Stp} (h3 : 0 < l.length) : (eF m n l).length = l.length := by rw [eF, List.length_append, fF_len, List.length_singleton]; omega
theorem eF_take {m : List UInt8} {n : Int} {l : List Stp} : (eF m n l).take (l.length - 1) = fF m n l := by rw [eF, List.take_left' fF_len]
theorem eF_last {m : List UInt8} {n : Int} {l : List Stp} (h3 : 0 < l.length) : (eF m n l).getD (l.length - 1) (0, 0) = ((stepF (uF m n l) (xF l)).1, (stepF (uF m n l) (xF l)).2.2) := by
  rw [eF, List.getD_eq_getElem?_getD, List.getElem?_append_right (by rw [fF_len]; exact Nat.le_refl _), fF_len, Nat.sub_self]; rfl
theorem uF_bs {m : List UInt8} {n : Int} {l : List Stp} (h : m.length = 32) : Bs (uF m n l) := runF_bs _ (newF_bs h)
theorem lF_bs {m : List UInt8} {n : Int} {l : List Stp} (h : m.length = 32) : Bs (lF m n l) := stepF_bs (uF_bs h)
theorem take_r0 {s : St} {id : UInt32} (h : ¬ (takeF s id).2.2 = 0) : (takeF s id).1 = 0 := by
  unfold takeF at *
  split
  · rfl
  · rename_i h1
    rw [if_neg h1] at h
    split
    · rfl
    · rename_i h2
      rw [if_neg h2] at h
      split
      · rfl
      · rename_i h3
        rw [if_neg h3] at h; exact absurd rfl h
theorem do_r0 {s : St} {x : Stp} (h : ¬ (doF s x).2.2 = 0) : (doF s x).1 = 0 := by
  unfold doF at *
  split
  · rfl
  · rename_i h1; rw [if_neg h1] at h; split
    · rfl
    · rename_i h1; rw [if_neg h1] at h; split
      · rfl
      · rename_i h1; rw [if_neg h1] at h; split
        · rfl
        · rename_i h1; rw [if_neg h1] at h; split
          · rfl
          · rename_i h1; rw [if_neg h1] at h; split
            · rfl
            · rename_i h1; rw [if_neg h1] at h; split
              · rename_i h2; rw [if_pos h2] at h; exact take_r0 h
              · rfl
theorem st_err {s : St} {x : Stp} {r : Int × St × Int} (h : doF s x = r) (h2 : ¬ r.2.2 = 0) : (stepF s x).1 = r.1 ∧ (stepF s x).2.1 = s ∧ (stepF s x).2.2 = r.2.2 := by
  rw [sp_bad h h2]; exact ⟨by rw [← h] at h2 ⊢; exact (do_r0 h2).symm, rfl, rfl⟩
theorem st_ok {s : St} {x : Stp} {r : Int × St × Int} (h : doF s x = r) (h2 : r.2.2 = 0) : (stepF s x).1 = r.1 ∧ (stepF s x).2.1 = r.2.1 ∧ (stepF s x).2.2 = r.2.2 := by
  rw [sp_ok h h2]; exact ⟨rfl, rfl, h2.symm⟩
theorem sameSt (s : St) (a b : V3) (w : World) (hl : s.ms.length = 32) (h1 : Seen w.cell? a.1 s.dk.length 1 (v8s s.dk)) (h2 : Seen w.cell? a.2.1 s.pd.length 1 (v8s s.pd)) (h3 : Seen w.cell? a.2.2 s.ks.length 6 (kcs s.ks)) (h4 : Seen w.cell? b.1 s.dk.length 1 (v8s s.dk)) (h5 : Seen w.cell? b.2.1 s.pd.length 1 (v8s s.pd)) (h6 : Seen w.cell? b.2.2 s.ks.length 6 (kcs s.ks)) : Calls Try.prog 19 [.agg (s.c a.1 a.2.1 a.2.2).toArray, .agg (s.c b.1 b.2.1 b.2.2).toArray].toArray w (Pur w (.bool true)) := refSame_ s a.1 a.2.1 a.2.2 b.1 b.2.1 b.2.2 w hl h1 h2 h3 h4 h5 h6

set_option maxRecDepth 100000 in
theorem lawPlays (m : List UInt8) (n : Int) (lv : Value) (l : List Stp) (w : World) (hm : m.length = 32) (hlv : Seen w.cell? lv l.length 3 (scs l))  :
    Calls Try.prog 8 [.agg (v8s m).toArray, .int .i64 n, lv].toArray w (Pur w (.bool true)) := by
  have slv := hlv.sv
  have lllv := slv.le
  simp only [maxLen] at lllv
  haveI : LenL m 32 := ⟨hm⟩
  haveI : L32 (playF m n l).2.1 := ⟨(playF_bs hm).m⟩
  haveI : L32 (uF m n l) := ⟨(uF_bs hm).m⟩
  haveI : L32 (lF m n l) := ⟨(lF_bs hm).m⟩
  refine enter (m := 207) (R := Mem w [] [] []) Try.func8 rfl rfl (Nat.le_of_ble_eq_true rfl) (Mem.start w) ?_
  refine wpc_seq ?_
  refine wpc_region ?_
  refine wpl_t (t_box rfl (v8s m) rfl) rfl (fun b3 => ?_)
  refine wpl_q (q_pure rfl) rfl ?_
  refine wpl_nil ?_
  refine ex_then ?_
  refine wpc_seq ?_
  refine wpc_region ?_
  refine wpl_t (t_pur Try.hb33 rfl fun w h => alive w) rfl (fun b22 => ?_)
  refine wpl_q (q_pure rfl) rfl ?_
  refine wpl_nil ?_
  refine ex_then ?_
  refine wpc_seq ?_
  refine wpc_seq ?_
  refine wpc_region ?_
  refine wpl_q (q_pure rfl) rfl ?_
  refine wpl_q (q_lenW Try.underlying56 rfl (by first | assumption | exact SV.nil | exact SV.slv (by assumption) (by omega) (by omega) | exact arv_sv (by first | decide | (simp only [maxLen]; omega)))) rfl ?_
  refine wpl_q (q_pure rfl) rfl ?_
  refine wpl_q (q_pure rfl) rfl ?_
  refine wpl_bool2 26 25 rfl rfl (fun hb26 => ?_) (fun hb26 => ?_)
  ·
   try simp only [decide_eq_true_eq, decide_eq_false_iff_not, Bool.and_eq_true, Bool.or_eq_true, beq_iff_eq, bne_iff_ne, ne_eq, Bool.not_eq_true', Bool.not_eq_false', Decidable.not_not] at hb26
   refine wpl_off rfl rfl rfl rfl ?_
   refine wpl_off rfl rfl rfl rfl ?_
   refine wpl_q (q_pure rfl) rfl ?_
   refine wpl_nil ?_
   refine ex_then ?_
   refine wpc_cond_t rfl ?_
   refine wpc_seq ?_
   refine wpc_region ?_
   refine wpl_q (q_pure rfl) rfl ?_
   refine wpl_q (q_pure rfl) rfl ?_
   refine wpl_nil ?_
   refine ex_then ?_
   refine wpc_ret ?_
   refine ex_then_ret ?_
   refine ret1 (.inl rfl) rfl rfl ?_
   exact fun w h => ⟨rfl, h.below⟩
  ·
   try simp only [decide_eq_true_eq, decide_eq_false_iff_not, Bool.and_eq_true, Bool.or_eq_true, beq_iff_eq, bne_iff_ne, ne_eq, Bool.not_eq_true', Bool.not_eq_false', Decidable.not_not] at hb26
   refine wpl_on rfl rfl ?_
   refine wpl_q (q_pure rfl) rfl ?_
   refine wpl_on rfl rfl ?_
   refine wpl_q (q_pure rfl) rfl ?_
   refine wpl_q (q_pure rfl) rfl ?_
   refine wpl_nil ?_
   refine ex_then ?_
   refine wpc_cond_f rfl ?_
   refine wpc_skip ?_
   refine ex_then ?_
   refine wpc_seq ?_
   refine wpc_region ?_
   refine wpl_q (q_ldN Try.underlying23 rfl Try.ti23 rfl LenC.h) rfl ?_
   refine wpl_q (q_pure rfl) rfl ?_
   refine wpl_q (q_pure rfl) rfl ?_
   refine wpl_tp (t_callP4 Try.hb31 rfl fun w h => play m n lv l w hm (h.seen_old hlv)) rfl (fun b35 p35 => ?_)
   haveI := OneC.sv p35.2
   refine wpl_q (q_pure rfl) rfl ?_
   refine wpl_q (q_pure rfl) rfl ?_
   refine wpl_q (q_pure rfl) rfl ?_
   refine wpl_q (q_pure rfl) rfl ?_
   refine wpl_t (t_alloc Try.ti27 (St.z.c nl nl nl) rfl) rfl (fun b9 => ?_)
   refine wpl_q (q_pure rfl) rfl ?_
   refine wpl_t0 (t_stA Try.ti27 rfl rfl LenC.h OneC.h LenC.h) (fun _ => ?_)
   refine wpl_q (q_pure rfl) rfl ?_
   refine wpl_nil ?_
   refine ex_then ?_
   refine wpc_seq ?_
   refine wpc_region ?_
   refine wpl_q (q_ldN Try.underlying23 rfl Try.ti23 rfl LenC.h) rfl ?_
   refine wpl_q (q_pure rfl) rfl ?_
   refine wpl_q (q_pure rfl) rfl ?_
   refine wpl_tp (t_callP4 Try.hb36 rfl fun w h => refPlay m n lv l w hm (h.seen_old hlv)) rfl (fun b43 p43 => ?_)
   haveI := OneC.sv p43.2
   refine wpl_q (q_pure rfl) rfl ?_
   refine wpl_q (q_pure rfl) rfl ?_
   refine wpl_q (q_pure rfl) rfl ?_
   refine wpl_q (q_pure rfl) rfl ?_
   refine wpl_t (t_alloc Try.ti27 (St.z.c nl nl nl) rfl) rfl (fun b12 => ?_)
   refine wpl_q (q_pure rfl) rfl ?_
   refine wpl_t0 (t_stA Try.ti27 rfl rfl LenC.h OneC.h LenC.h) (fun _ => ?_)
   refine wpl_q (q_pure rfl) rfl ?_
   refine wpl_nil ?_
   refine ex_then ?_
   refine wpc_seq ?_
   refine wpc_seq ?_
   refine wpc_region ?_
   refine wpl_q (q_pure rfl) rfl ?_
   refine wpl_q (q_pure rfl) rfl ?_
   refine wpl_q (q_bt (c := false) (q_neI rfl rfl) (by simp)) rfl ?_
   refine wpl_q (q_pure rfl) rfl ?_
   refine wpl_on rfl rfl ?_
   refine wpl_q (q_pure rfl) rfl ?_
   refine wpl_on rfl rfl ?_
   refine wpl_q (q_pure rfl) rfl ?_
   refine wpl_on rfl rfl ?_
   refine wpl_t (t_pur (v := .bool true) Try.hb32 rfl fun w h => by have q := sameResults b35.1 (playF m n l).1 b43.1 (playF m n l).1 w h.seenV h.seenV; simpa using q) rfl (fun b53 => ?_)
   refine wpl_on rfl rfl ?_
   refine wpl_q (q_pure rfl) rfl ?_
   refine wpl_q (q_pure rfl) rfl ?_
   refine wpl_q (q_pure rfl) rfl ?_
   refine wpl_on rfl rfl ?_
   refine wpl_q (q_ldN Try.underlying27 rfl Try.ti27 rfl LenC.h) rfl ?_
   refine wpl_on rfl rfl ?_
   refine wpl_q (q_ldN Try.underlying27 rfl Try.ti27 rfl LenC.h) rfl ?_
   refine wpl_on rfl rfl ?_
   refine wpl_t (t_pur (v := .bool true) Try.hb19 rfl fun w h => sameSt (playF m n l).2.1 b35.2 b43.2 w (playF_bs hm).m h.seenV h.seenV h.seenV h.seenV h.seenV h.seenV) rfl (fun b59 => ?_)
   refine wpl_on rfl rfl ?_
   refine wpl_q (q_pure rfl) rfl ?_
   refine wpl_q (q_pure rfl) rfl ?_
   refine wpl_nil ?_
   refine ex_then ?_
   refine wpc_cond_f rfl ?_
   refine wpc_skip ?_
   refine ex_then ?_
   refine wpc_seq ?_
   refine wpc_seq ?_
   refine wpc_region ?_
   refine wpl_q (q_pure rfl) rfl ?_
   refine wpl_q (q_pure rfl) rfl ?_
   refine wpl_q (q_pure rfl) rfl ?_
   refine wpl_bool2 64 63 rfl rfl (fun hb64 => ?_) (fun hb64 => ?_)
   ·
    refine wpl_off rfl rfl rfl rfl ?_
    refine wpl_off rfl rfl rfl rfl ?_
    refine wpl_off rfl rfl rfl rfl ?_
    refine wpl_q (q_pure rfl) rfl ?_
    refine wpl_nil ?_
    refine ex_then ?_
    refine wpc_cond_t rfl ?_
    refine wpc_seq ?_
    refine wpc_region ?_
    refine wpl_q (q_pure rfl) rfl ?_
    refine wpl_q (q_pure rfl) rfl ?_
    refine wpl_nil ?_
    refine ex_then ?_
    refine wpc_ret ?_
    refine ex_then_ret ?_
    refine ret1 (.inl rfl) rfl rfl ?_
    exact fun w h => ⟨rfl, h.below⟩
   ·
    have hok : (playF m n l).2.2 = 0 := by simpa using hb64
    have hnw := (pl_ok hok).1
    have hsh := (pl_ok hok).2
    refine wpl_on rfl rfl ?_
    refine wpl_q (q_pure rfl) rfl ?_
    refine wpl_on rfl rfl ?_
    refine wpl_q (q_lenW Try.underlying56 rfl (by first | assumption | exact SV.nil | exact SV.slv (by assumption) (by omega) (by omega) | exact arv_sv (by first | decide | (simp only [maxLen]; omega)))) rfl ?_
    refine wpl_on rfl rfl ?_
    refine wpl_q (q_pure rfl) rfl ?_
    refine wpl_q (q_pure rfl) rfl ?_
    refine wpl_nil ?_
    refine ex_then ?_
    refine wpc_cond rfl (fun hc68 => ?_) (fun hc68 => ?_)
    ·
     refine wpc_seq ?_
     refine wpc_region ?_
     refine wpl_q (q_pure rfl) rfl ?_
     refine wpl_q (q_pure rfl) rfl ?_
     refine wpl_nil ?_
     refine ex_then ?_
     refine wpc_ret ?_
     refine ex_then_ret ?_
     refine ret1 (.inl rfl) rfl rfl ?_
     exact fun w h => ⟨rfl, h.below⟩
    ·
     have hl0 : 0 < l.length := by
       rcases Nat.eq_zero_or_pos l.length with h0 | h0
       · exfalso; apply Bool.eq_false_iff.1 hc68; rw [h0]; rfl
       · exact h0
     refine wpc_skip ?_
     refine ex_then ?_
     refine wpc_cutc ({ x : Nat × Value × V3 × Nat × Value × V3 // ((newF m n).2 = 0) ∧ (¬ 300 < l.length) ∧ (0 < l.length) ∧ (SV x.2.1 (eF m n l).length) ∧ ((lF m n l).sv x.2.2.1) ∧ (SV x.2.2.2.2.1 (fF m n l).length) ∧ ((uF m n l).sv x.2.2.2.2.2) }) [(2, lv)] (fun x Lc => (7, .bool true) :: (8, x.1.2.1) :: (9, .pointer (some ⟨x.1.1, 0, none⟩)) :: (14, x.1.2.2.2.2.1) :: (15, .pointer (some ⟨x.1.2.2.2.1, 0, none⟩)) :: (16, .int .i64 0) :: Lc) (fun x => Mem w [] [.blk x.1.2.2.2.1 27 ((uF m n l).c x.1.2.2.2.2.2.1 x.1.2.2.2.2.2.2.1 x.1.2.2.2.2.2.2.2), .blk x.1.1 27 ((lF m n l).c x.1.2.2.1.1 x.1.2.2.1.2.1 x.1.2.2.1.2.2), rRow x.1.2.2.2.2.1 (fF m n l), dRow x.1.2.2.2.2.2.1 (uF m n l).dk, dRow x.1.2.2.2.2.2.2.1 (uF m n l).pd, kRow x.1.2.2.2.2.2.2.2 (uF m n l).ks, rRow x.1.2.1 (eF m n l), dRow x.1.2.2.1.1 (lF m n l).dk, dRow x.1.2.2.1.2.1 (lF m n l).pd, kRow x.1.2.2.1.2.2 (lF m n l).ks] []) ?_ ?_
     ·
      refine wpc_draw 14 (by kernel_rfl) (fun _ h => h.drew) ?_
      refine wpd_q 0 rfl (by kernel_rfl) trivial (q_ldN Try.underlying23 rfl Try.ti23 rfl LenC.h) rfl (fun _ h => h) ?_
      refine wpd_p 1 rfl (by kernel_rfl) trivial (q_pure rfl) rfl sk0 ?_
      refine wpd_p 2 rfl (by kernel_rfl) trivial (q_pure rfl) rfl sk0 ?_
      refine wpd_p 3 rfl (by kernel_rfl) trivial (q_pure rfl) rfl sk0 ?_
      refine wpd_p 4 rfl (by kernel_rfl) trivial (q_lenW Try.underlying56 rfl (by first | assumption | exact SV.nil | exact SV.slv (by assumption) (by omega) (by omega) | exact arv_sv (by first | decide | (simp only [maxLen]; omega)))) rfl sk0 ?_
      refine wpd_p 5 rfl (by kernel_rfl) trivial (q_subN (b := 1) rfl rfl (by omega) (by first | omega | (simp only [maxLen]; omega) | (simp only [List.length_append, List.length_cons, List.length_nil, List.length_take, maxLen]; omega) | (simp only [List.length_append, List.length_cons, List.length_nil, List.length_take]; omega))) rfl sk0 ?_
      refine wpd_p 6 rfl (by kernel_rfl) trivial (q_slWh Try.underlying56 Try.ti58 rfl rfl (by first | assumption | exact SV.nil | exact SV.slv (by assumption) (by omega) (by omega) | exact arv_sv (by first | decide | (simp only [maxLen]; omega))) (by omega)) rfl sk0 ?_
      refine wpd_two 7 12 (by kernel_rfl) ?_ ?_
      ·
       refine wpa_tp 7 rfl trivial (t_callP4 Try.hb31 rfl fun w h => play_eq (pl_first hnw hsh) _ w hm (Seen.slC Stp.c_length (h.seen_old hlv) rfl (by omega))) rfl (fun _ => (fun w h => .inr (h.sub SubC.h SubC.h))) (fun b78 p78 => ?_)
       haveI := OneC.sv p78.2
       refine wpd_p 8 rfl (by kernel_rfl) trivial (q_pure rfl) rfl (fun w h => .inr (h.sub SubC.h SubC.h)) ?_
       refine wpd_p 9 rfl (by kernel_rfl) trivial (q_pure rfl) rfl (fun w h => .inr (h.sub SubC.h SubC.h)) ?_
       refine wpd_p 10 rfl (by kernel_rfl) trivial (q_pure rfl) rfl (fun w h => .inr (h.sub SubC.h SubC.h)) ?_
       refine wpd_p 11 rfl (by kernel_rfl) trivial (q_pure rfl) rfl (fun w h => .inr (h.sub SubC.h SubC.h)) ?_
       refine wpd_t 12 rfl (by kernel_rfl) trivial (t_alloc Try.ti27 (St.z.c nl nl nl) rfl) rfl (fun _ => (fun w h => .inr (h.sub SubC.h SubC.h))) (fun b15 => ?_)
       refine wpd_p 13 rfl (by kernel_rfl) trivial (q_pure rfl) rfl (fun w h => .inr (h.sub SubC.h SubC.h)) ?_
       refine wpd_t0 14 rfl (by kernel_rfl) trivial (t_stA Try.ti27 rfl rfl LenC.h OneC.h LenC.h) (fun _ => skk rfl) (fun _ => ?_)
       refine wpd_p 15 rfl (by kernel_rfl) trivial (q_pure rfl) rfl (skk rfl) ?_
       refine wpd_done (by kernel_rfl) ?_
       refine ex_mid ⟨(b9, b35.1, b35.2, b15, b78.1, b78.2), by have p := p35; rw [pl_last hnw hsh hl0] at p; exact ⟨hnw, hsh, hl0, p.1, p.2, p78.1, p78.2⟩⟩ ?_ ?_
       ·
        exact (by repeat (first | exact trivial | refine ⟨rfl, ?_⟩))
       ·
        exact fun w h => by rw [pl_last hnw hsh hl0] at h; dsimp only at h ⊢; exact h.sel
      ·
       refine wpa_t 12 rfl trivial (t_alloc Try.ti27 (St.z.c nl nl nl) rfl) rfl (fun _ => (fun w h => .inr (h.sub SubC.h SubC.h))) (fun b15 => ?_)
       refine wpd_tp 7 rfl (by kernel_rfl) trivial (t_callP4 Try.hb31 rfl fun w h => play_eq (pl_first hnw hsh) _ w hm (Seen.slC Stp.c_length (h.seen_old hlv) rfl (by omega))) rfl (fun _ => (fun w h => .inr (h.sub SubC.h SubC.h))) (fun b78 p78 => ?_)
       haveI := OneC.sv p78.2
       refine wpd_p 8 rfl (by kernel_rfl) trivial (q_pure rfl) rfl (fun w h => .inr (h.sub SubC.h SubC.h)) ?_
       refine wpd_p 9 rfl (by kernel_rfl) trivial (q_pure rfl) rfl (fun w h => .inr (h.sub SubC.h SubC.h)) ?_
       refine wpd_p 10 rfl (by kernel_rfl) trivial (q_pure rfl) rfl (fun w h => .inr (h.sub SubC.h SubC.h)) ?_
       refine wpd_p 11 rfl (by kernel_rfl) trivial (q_pure rfl) rfl (fun w h => .inr (h.sub SubC.h SubC.h)) ?_
       refine wpd_p 13 rfl (by kernel_rfl) trivial (q_pure rfl) rfl (fun w h => .inr (h.sub SubC.h SubC.h)) ?_
       refine wpd_t0 14 rfl (by kernel_rfl) trivial (t_stA Try.ti27 rfl rfl LenC.h OneC.h LenC.h) (fun _ => skk rfl) (fun _ => ?_)
       refine wpd_p 15 rfl (by kernel_rfl) trivial (q_pure rfl) rfl (skk rfl) ?_
       refine wpd_done (by kernel_rfl) ?_
       refine ex_mid ⟨(b9, b35.1, b35.2, b15, b78.1, b78.2), by have p := p35; rw [pl_last hnw hsh hl0] at p; exact ⟨hnw, hsh, hl0, p.1, p.2, p78.1, p78.2⟩⟩ ?_ ?_
       ·
        exact (by repeat (first | exact trivial | refine ⟨rfl, ?_⟩))
       ·
        exact fun w h => by rw [pl_last hnw hsh hl0] at h; dsimp only at h ⊢; exact h.sel
     ·
      rintro ⟨⟨b9, av, ya, b15, fv, z⟩, ⟨hi0, hi1, hi2, hi3, hi4, hi5, hi6⟩⟩; try dsimp only
      have hi0 : (newF m n).2 = 0 := hi0; have hi1 : ¬ 300 < l.length := hi1; have hi2 : 0 < l.length := hi2; have hi3 : SV av (eF m n l).length := hi3; have hi4 : (lF m n l).sv ya := hi4; have hi5 : SV fv (fF m n l).length := hi5; have hi6 : (uF m n l).sv z := hi6
      have hnw : (newF m n).2 = 0 := hi0
      have hsh : ¬ 300 < l.length := hi1
      have hl0 : 0 < l.length := hi2
      have hav := hi3
      have hya := hi4
      have hfv := hi5
      have hz := hi6
      haveI := OneC.sv hya
      haveI := OneC.sv hz
      have hel := eF_len (m := m) (n := n) hl0
      have hfl := fF_len (m := m) (n := n) (l := l)
      refine wpc_seq ?_
      refine wpc_seq ?_
      refine wpc_region ?_
      refine wpl_q (q_pure rfl) rfl ?_
      refine wpl_q (q_bt (c := false) (q_neI rfl rfl) (by simp)) rfl ?_
      refine wpl_q (q_pure rfl) rfl ?_
      refine wpl_on rfl rfl ?_
      refine wpl_q (q_pure rfl) rfl ?_
      refine wpl_on rfl rfl ?_
      refine wpl_q (q_lenW Try.underlying53 rfl (by first | assumption | exact SV.nil | exact SV.slv (by assumption) (by omega) (by omega) | exact arv_sv (by first | decide | (simp only [maxLen]; omega)))) rfl ?_
      refine wpl_on rfl rfl ?_
      refine wpl_q (q_pure rfl) rfl ?_
      refine wpl_on rfl rfl ?_
      refine wpl_q (q_lenW Try.underlying56 rfl (by first | assumption | exact SV.nil | exact SV.slv (by assumption) (by omega) (by omega) | exact arv_sv (by first | decide | (simp only [maxLen]; omega)))) rfl ?_
      refine wpl_on rfl rfl ?_
      refine wpl_q (q_subN (b := 1) rfl rfl (by omega) (by first | omega | (simp only [maxLen]; omega) | (simp only [List.length_append, List.length_cons, List.length_nil, List.length_take, maxLen]; omega) | (simp only [List.length_append, List.length_cons, List.length_nil, List.length_take]; omega))) rfl ?_
      refine wpl_on rfl rfl ?_
      refine wpl_q (q_bt (c := false) (q_neI rfl rfl) (by simp [hfl])) rfl ?_
      refine wpl_q (q_pure rfl) rfl ?_
      refine wpl_q (q_pure rfl) rfl ?_
      refine wpl_on rfl rfl ?_
      refine wpl_q (q_pure rfl) rfl ?_
      refine wpl_on rfl rfl ?_
      refine wpl_q (q_lenW Try.underlying53 rfl (by first | assumption | exact SV.nil | exact SV.slv (by assumption) (by omega) (by omega) | exact arv_sv (by first | decide | (simp only [maxLen]; omega)))) rfl ?_
      refine wpl_on rfl rfl ?_
      refine wpl_q (q_pure rfl) rfl ?_
      refine wpl_on rfl rfl ?_
      refine wpl_q (q_lenW Try.underlying56 rfl (by first | assumption | exact SV.nil | exact SV.slv (by assumption) (by omega) (by omega) | exact arv_sv (by first | decide | (simp only [maxLen]; omega)))) rfl ?_
      refine wpl_on rfl rfl ?_
      refine wpl_q (q_bt (c := false) (q_neI rfl rfl) (by simp [hel])) rfl ?_
      refine wpl_q (q_pure rfl) rfl ?_
      refine wpl_q (q_pure rfl) rfl ?_
      refine wpl_on rfl rfl ?_
      refine wpl_q (q_pure rfl) rfl ?_
      refine wpl_on rfl rfl ?_
      refine wpl_q (q_pure rfl) rfl ?_
      refine wpl_on rfl rfl ?_
      refine wpl_q (q_pure rfl) rfl ?_
      refine wpl_on rfl rfl ?_
      refine wpl_q (q_lenW Try.underlying56 rfl (by first | assumption | exact SV.nil | exact SV.slv (by assumption) (by omega) (by omega) | exact arv_sv (by first | decide | (simp only [maxLen]; omega)))) rfl ?_
      refine wpl_on rfl rfl ?_
      refine wpl_q (q_subN (b := 1) rfl rfl (by omega) (by first | omega | (simp only [maxLen]; omega) | (simp only [List.length_append, List.length_cons, List.length_nil, List.length_take, maxLen]; omega) | (simp only [List.length_append, List.length_cons, List.length_nil, List.length_take]; omega))) rfl ?_
      refine wpl_on rfl rfl ?_
      refine wpl_q (q_slWh Try.underlying53 Try.ti61 rfl rfl (by first | assumption | exact SV.nil | exact SV.slv (by assumption) (by omega) (by omega) | exact arv_sv (by first | decide | (simp only [maxLen]; omega))) (by omega)) rfl ?_
      refine wpl_on rfl rfl ?_
      refine wpl_t (t_pur (v := .bool true) Try.hb32 rfl fun w h => by
        have q := sameResults fv (fF m n l) (Go.PL.slv av 0 (l.length - 1) 2) (fF m n l) w h.seenV (by have s := Seen.slC (c := resC) (fun _ => rfl) (h.seenV : Seen w.cell? av (eF m n l).length 2 (rcs (eF m n l))) rfl (n := l.length - 1) (by omega); rw [eF_take] at s; exact s)
        simpa using q) rfl (fun b106 => ?_)
      refine wpl_on rfl rfl ?_
      refine wpl_q (q_pure rfl) rfl ?_
      refine wpl_q (q_pure rfl) rfl ?_
      refine wpl_nil ?_
      refine ex_then ?_
      refine wpc_cond_f rfl ?_
      refine wpc_skip ?_
      refine ex_then ?_
      refine wpc_seq ?_
      refine wpc_region ?_
      refine wpl_q (q_pure rfl) rfl ?_
      refine wpl_q (q_pure rfl) rfl ?_
      refine wpl_q (q_lenW Try.underlying56 rfl (by first | assumption | exact SV.nil | exact SV.slv (by assumption) (by omega) (by omega) | exact arv_sv (by first | decide | (simp only [maxLen]; omega)))) rfl ?_
      refine wpl_q (q_subN (b := 1) rfl rfl (by omega) (by first | omega | (simp only [maxLen]; omega) | (simp only [List.length_append, List.length_cons, List.length_nil, List.length_take, maxLen]; omega) | (simp only [List.length_append, List.length_cons, List.length_nil, List.length_take]; omega))) rfl ?_
      refine wpl_q (q_idxW Try.underlying56 Try.ti58 rfl rfl (by first | assumption | exact SV.nil | exact SV.slv (by assumption) (by omega) (by omega) | exact arv_sv (by first | decide | (simp only [maxLen]; omega))) (by first | omega | (simp only [maxLen]; omega) | (simp only [List.length_append, List.length_cons, List.length_nil, List.length_take, maxLen]; omega) | (simp only [List.length_append, List.length_cons, List.length_nil, List.length_take]; omega))) rfl ?_
      refine wpl_q (q_ldWN Try.underlying58 rfl Try.ti58 rfl (fun w h => h.seen_old hlv) (xF l).c (cat_part Stp.c_length Stp.z (by omega)) rfl) rfl ?_
      refine wpl_t (t_alloc Try.ti58 Stp.z.c rfl) rfl (fun b17 => ?_)
      refine wpl_t0 (t_stA Try.ti58 rfl rfl LenC.h OneC.h LenC.h) (fun _ => ?_)
      refine wpl_nil ?_
      refine ex_then ?_
      refine wpc_seq ?_
      refine wpc_region ?_
      refine wpl_q (q_ldN Try.underlying27 rfl Try.ti27 rfl LenC.h) rfl ?_
      refine wpl_t (t_alloc Try.ti27 (St.z.c nl nl nl) rfl) rfl (fun b18 => ?_)
      refine wpl_t0 (t_stA Try.ti27 rfl rfl LenC.h OneC.h LenC.h) (fun _ => ?_)
      refine wpl_q (q_pure rfl) rfl ?_
      refine wpl_nil ?_
      refine ex_then ?_
      refine wpc_seq ?_
      refine wpc_region ?_
      refine wpl_q (q_pure rfl) rfl ?_
      refine wpl_nil ?_
      refine ex_then ?_
      refine wpc_seq ?_
      refine wpc_seq ?_
      refine wpc_region ?_
      refine wpl_q (q_field Try.underlying58 rfl Try.ti5 rfl rfl _ rfl) rfl ?_
      refine wpl_q (q_ld Try.underlying5 rfl rfl (by first | exact v8s_get (by first | decide | omega | exact Nat.zero_lt_one | (simp; omega) | (simp; done) | (simp only [v8s_length, v32s_length, vis_length, vns_length, v64s_length]; omega)) | rfl)) rfl ?_
      refine wpl_nil ?_
      refine ex_then ?_
      refine wpc_block ?_
      refine wpc_seq ?_
      refine wpc_region ?_
      refine wpl_q (q8_eql (b := (1 : UInt8)) rfl rfl) rfl ?_
      refine wpl_q (q_pure rfl) rfl ?_
      refine wpl_nil ?_
      refine ex_then ?_
      refine wpc_cond rfl (fun hc118 => ?_) (fun hc118 => ?_)
      ·
       have hk : (xF l).kd = 1 := by simpa using hc118
       have hdo := do_1 (s := uF m n l) hk
       refine wpc_region ?_
       refine wpl_q (q_ldN Try.underlying27 rfl Try.ti27 rfl LenC.h) rfl ?_
       refine wpl_q (q_field Try.underlying58 rfl Try.ti28 rfl rfl _ rfl) rfl ?_
       refine wpl_q (q_ld Try.underlying28 rfl rfl (by first | exact v32s_get (by first | decide | omega | exact Nat.zero_lt_one | (simp; omega) | (simp; done) | (simp only [v8s_length, v32s_length, vis_length, vns_length, v64s_length]; omega)) | rfl)) rfl ?_
       refine wpl_q (q_field Try.underlying58 rfl Try.ti3 rfl rfl _ rfl) rfl ?_
       refine wpl_q (q_ld Try.underlying3 rfl rfl (by first | exact vns_get (by first | decide | omega | exact Nat.zero_lt_one | (simp; omega) | (simp; done) | (simp only [v8s_length, v32s_length, vis_length, vns_length, v64s_length]; omega)) | rfl)) rfl ?_
       refine wpl_tp (t_callP3 Try.hb21 rfl fun w h => create (uF m n l) z.1 z.2.1 z.2.2 (xF l).id (xF l).n w ⟨(uF_bs hm).m, h.seenV, h.seenV, h.seenV, by have := (uF_bs (n := n) (l := l) hm).d; omega, by have := (uF_bs (n := n) (l := l) hm).p; omega, by have := (uF_bs (n := n) (l := l) hm).k; omega⟩) rfl (fun b126 p126 => ?_)
       haveI := OneC.sv p126
       refine wpl_q (q_pure rfl) rfl ?_
       refine wpl_q (q_pure rfl) rfl ?_
       refine wpl_q (q_pure rfl) rfl ?_
       refine wpl_t0 (t_stA Try.ti27 rfl rfl LenC.h OneC.h LenC.h) (fun _ => ?_)
       refine wpl_q (q_pure rfl) rfl ?_
       refine wpl_nil ?_
       refine ex_block ?_
       refine ex_then ?_
       refine wpc_cutc ({ x : Nat × Value × V3 × Nat × V3 // ((newF m n).2 = 0) ∧ (¬ 300 < l.length) ∧ (0 < l.length) ∧ (SV x.2.1 (eF m n l).length) ∧ ((lF m n l).sv x.2.2.1) ∧ ((lF m n l).sv x.2.2.2.2) }) [(2, lv)] (fun x Lc => (7, .bool true) :: (8, x.1.2.1) :: (9, .pointer (some ⟨x.1.1, 0, none⟩)) :: (18, .pointer (some ⟨x.1.2.2.2.1, 0, none⟩)) :: (19, .int .i64 (stepF (uF m n l) (xF l)).2.2) :: (20, .int .i64 (stepF (uF m n l) (xF l)).1) :: Lc) (fun x => Mem w [] [.blk x.1.2.2.2.1 27 ((lF m n l).c x.1.2.2.2.2.1 x.1.2.2.2.2.2.1 x.1.2.2.2.2.2.2), .blk x.1.1 27 ((lF m n l).c x.1.2.2.1.1 x.1.2.2.1.2.1 x.1.2.2.1.2.2), rRow x.1.2.1 (eF m n l), dRow x.1.2.2.1.1 (lF m n l).dk, dRow x.1.2.2.1.2.1 (lF m n l).pd, kRow x.1.2.2.1.2.2 (lF m n l).ks, dRow x.1.2.2.2.2.1 (lF m n l).dk, dRow x.1.2.2.2.2.2.1 (lF m n l).pd, kRow x.1.2.2.2.2.2.2 (lF m n l).ks] []) ?_ ?_
       ·
        refine wpc_seq ?_
        refine wpc_region ?_
        refine wpl_q (q_pure rfl) rfl ?_
        refine wpl_q (q_pure rfl) rfl ?_
        refine wpl_nil ?_
        refine ex_then ?_
        refine wpc_cond rfl (fun hc181 => ?_) (fun hc181 => ?_)
        ·
         simp only [bne_iff_ne, ne_eq] at hc181
         refine wpc_region ?_
         refine wpl_q (q_ldN Try.underlying27 rfl Try.ti27 rfl LenC.h) rfl ?_
         refine wpl_t0 (t_stA Try.ti27 rfl rfl LenC.h OneC.h LenC.h) (fun _ => ?_)
         refine wpl_nil ?_
         refine ex_mid ⟨(b9, av, ya, b18, z), by have e := (st_err hdo hc181).2.1; exact ⟨hnw, hsh, hl0, hav, hya, by rw [lF, e]; exact hz⟩⟩ ?_ ?_
         ·
          exact (let e := st_err hdo hc181; ⟨rfl, rfl, rfl, rfl, (congrArg (fun q : Int => some (Value.int .i64 q)) e.2.2.symm), (congrArg (fun q : Int => some (Value.int .i64 q)) e.1.symm), rfl, trivial⟩)
         ·
          exact fun w h => by have e := (st_err hdo hc181).2.1; have e2 : lF m n l = uF m n l := e; dsimp only; rw [e2] at h ⊢; exact h.sel
        ·
         simp only [bne_eq_false_iff_eq] at hc181
         refine wpc_skip ?_
         refine ex_mid ⟨(b9, av, ya, b18, b126), by have e := (st_ok hdo hc181).2.1; have e2 : lF m n l = (createF (uF m n l) (xF l).id (xF l).n).1 := e; exact ⟨hnw, hsh, hl0, hav, hya, by rw [e2]; exact p126⟩⟩ ?_ ?_
         ·
          exact (let e := st_ok hdo hc181; ⟨rfl, rfl, rfl, rfl, (congrArg (fun q : Int => some (Value.int .i64 q)) e.2.2.symm), (congrArg (fun q : Int => some (Value.int .i64 q)) e.1.symm), rfl, trivial⟩)
         ·
          exact fun w h => by have e := (st_ok hdo hc181).2.1; have e2 : lF m n l = (createF (uF m n l) (xF l).id (xF l).n).1 := e; dsimp only; rw [e2] at h ⊢; exact h.sel
       ·
        rintro ⟨⟨b9, av, ya, b18, y⟩, ⟨hi0, hi1, hi2, hi3, hi4, hi5⟩⟩; try dsimp only
        have hi0 : (newF m n).2 = 0 := hi0; have hi1 : ¬ 300 < l.length := hi1; have hi2 : 0 < l.length := hi2; have hi3 : SV av (eF m n l).length := hi3; have hi4 : (lF m n l).sv ya := hi4; have hi5 : (lF m n l).sv y := hi5
        have hnw : (newF m n).2 = 0 := hi0
        have hsh : ¬ 300 < l.length := hi1
        have hl0 : 0 < l.length := hi2
        have hel := eF_len (m := m) (n := n) hl0
        have hav := hi3
        have hya := hi4
        have hy := hi5
        haveI := OneC.sv hya
        haveI := OneC.sv hy
        refine wpc_seq ?_
        refine wpc_region ?_
        refine wpl_q (q_pure rfl) rfl ?_
        refine wpl_q (q_pure rfl) rfl ?_
        refine wpl_q (q_lenW Try.underlying56 rfl (by first | assumption | exact SV.nil | exact SV.slv (by assumption) (by omega) (by omega) | exact arv_sv (by first | decide | (simp only [maxLen]; omega)))) rfl ?_
        refine wpl_q (q_subN (b := 1) rfl rfl (by omega) (by first | omega | (simp only [maxLen]; omega) | (simp only [List.length_append, List.length_cons, List.length_nil, List.length_take, maxLen]; omega) | (simp only [List.length_append, List.length_cons, List.length_nil, List.length_take]; omega))) rfl ?_
        refine wpl_q (q_idxW Try.underlying53 Try.ti61 rfl rfl (by first | assumption | exact SV.nil | exact SV.slv (by assumption) (by omega) (by omega) | exact arv_sv (by first | decide | (simp only [maxLen]; omega))) (by first | omega | (simp only [maxLen]; omega) | (simp only [List.length_append, List.length_cons, List.length_nil, List.length_take, maxLen]; omega) | (simp only [List.length_append, List.length_cons, List.length_nil, List.length_take]; omega))) rfl ?_
        refine wpl_q (q_ldWN Try.underlying61 rfl Try.ti61 rfl (fun w h => by first | exact h.seenV | exact h.seenA (by first | decide | (simp only [maxLen]; omega)) (by first | with_reducible rfl | (simp only [v8s_length, v32s_length, vis_length, vns_length, v64s_length, List.length_replicate]; first | done | with_reducible assumption | omega) | (rw [v8s_length]; (first | with_reducible assumption | with_reducible exact shortF_length _ | with_reducible exact stepF_length _ _ _ | with_reducible exact sumF_length _ | with_reducible exact climbF_length _ (by first | with_reducible assumption | with_reducible exact shortF_length _ | with_reducible exact beginF_length _ _ | with_reducible exact getD_mem_len (by assumption) (by omega)) _ _ _ | with_reducible exact beginF_length _ _ | with_reducible exact chainF_length _ _ _ | with_reducible exact recF_length _ _ | with_reducible exact publicF_length _ | with_reducible exact getD_mem_len (by assumption) (by omega) | (with_reducible exact List.length_replicate))) | rfl) | exact h.seen_old (by assumption) | exact h.seen_oldL (by assumption) (by assumption) | exact h.seen_fact (by repeat (first | exact List.mem_cons_self .. | apply List.mem_cons_of_mem))) (resC ((stepF (uF m n l) (xF l)).1, (stepF (uF m n l) (xF l)).2.2)) (by rw [cat_part (c := resC) (k := 2) (fun _ => rfl) (0, 0) (by omega), eF_last hl0]) rfl) rfl ?_
        refine wpl_t (t_alloc Try.ti61 [.int .i64 0, .int .i64 0] rfl) rfl (fun b21 => ?_)
        refine wpl_t0 (t_stA Try.ti61 rfl rfl LenC.h OneC.h LenC.h) (fun _ => ?_)
        refine wpl_nil ?_
        refine ex_then ?_
        refine wpc_seq ?_
        refine wpc_region ?_
        refine wpl_q (q_pure rfl) rfl ?_
        refine wpl_q (q_pure rfl) rfl ?_
        refine wpl_on rfl rfl ?_
        refine wpl_q (q_field Try.underlying61 rfl Try.ti31 rfl rfl _ rfl) rfl ?_
        refine wpl_on rfl rfl ?_
        refine wpl_q (q_ld Try.underlying31 rfl rfl (by first | exact vns_get (by first | decide | omega | exact Nat.zero_lt_one | (simp; omega) | (simp; done) | (simp only [v8s_length, v32s_length, vis_length, vns_length, v64s_length]; omega)) | rfl)) rfl ?_
        refine wpl_on rfl rfl ?_
        refine wpl_q (q_pure rfl) rfl ?_
        refine wpl_on rfl rfl ?_
        refine wpl_q (q_tru (q_eqI rfl rfl) rfl) rfl ?_
        refine wpl_q (q_pure rfl) rfl ?_
        refine wpl_q (q_pure rfl) rfl ?_
        refine wpl_on rfl rfl ?_
        refine wpl_q (q_field Try.underlying61 rfl Try.ti3 rfl rfl _ rfl) rfl ?_
        refine wpl_on rfl rfl ?_
        refine wpl_q (q_ld Try.underlying3 rfl rfl (by first | exact vns_get (by first | decide | omega | exact Nat.zero_lt_one | (simp; omega) | (simp; done) | (simp only [v8s_length, v32s_length, vis_length, vns_length, v64s_length]; omega)) | rfl)) rfl ?_
        refine wpl_on rfl rfl ?_
        refine wpl_q (q_pure rfl) rfl ?_
        refine wpl_on rfl rfl ?_
        refine wpl_q (q_tru (q_eqI rfl rfl) rfl) rfl ?_
        refine wpl_q (q_pure rfl) rfl ?_
        refine wpl_q (q_pure rfl) rfl ?_
        refine wpl_on rfl rfl ?_
        refine wpl_q (q_ldN Try.underlying27 rfl Try.ti27 rfl LenC.h) rfl ?_
        refine wpl_on rfl rfl ?_
        refine wpl_q (q_ldN Try.underlying27 rfl Try.ti27 rfl LenC.h) rfl ?_
        refine wpl_on rfl rfl ?_
        refine wpl_t (t_pur (v := .bool true) Try.hb19 rfl fun w h => sameSt (lF m n l) ya y w (lF_bs hm).m h.seenV h.seenV h.seenV h.seenV h.seenV h.seenV) rfl (fun b205 => ?_)
        refine wpl_q (q_pure rfl) rfl ?_
        refine wpl_q (q_pure rfl) rfl ?_
        refine wpl_nil ?_
        refine ex_then ?_
        refine wpc_ret ?_
        refine ret1 (.inl rfl) rfl rfl ?_
        exact fun w h => ⟨rfl, h.below⟩
      ·
       have hn1 : ¬ (xF l).kd = 1 := by simpa using hc118
       refine wpc_seq ?_
       refine wpc_region ?_
       refine wpl_q (q8_eql (b := (2 : UInt8)) rfl rfl) rfl ?_
       refine wpl_q (q_pure rfl) rfl ?_
       refine wpl_nil ?_
       refine ex_then ?_
       refine wpc_cond rfl (fun hc129 => ?_) (fun hc129 => ?_)
       ·
        have hk : (xF l).kd = 2 := by simpa using hc129
        have hdo := do_2 (s := uF m n l) hk
        refine wpc_region ?_
        refine wpl_q (q_ldN Try.underlying27 rfl Try.ti27 rfl LenC.h) rfl ?_
        refine wpl_q (q_field Try.underlying58 rfl Try.ti28 rfl rfl _ rfl) rfl ?_
        refine wpl_q (q_ld Try.underlying28 rfl rfl (by first | exact v32s_get (by first | decide | omega | exact Nat.zero_lt_one | (simp; omega) | (simp; done) | (simp only [v8s_length, v32s_length, vis_length, vns_length, v64s_length]; omega)) | rfl)) rfl ?_
        refine wpl_tp (t_callP3 Try.hb23 rfl fun w h => reserve (uF m n l) z.1 z.2.1 z.2.2 (xF l).id w ⟨(uF_bs hm).m, h.seenV, h.seenV, h.seenV, by have := (uF_bs (n := n) (l := l) hm).d; omega, by have := (uF_bs (n := n) (l := l) hm).p; omega, by have := (uF_bs (n := n) (l := l) hm).k; omega⟩) rfl (fun b135 p135 => ?_)
        haveI := OneC.sv p135
        refine wpl_q (q_pure rfl) rfl ?_
        refine wpl_q (q_pure rfl) rfl ?_
        refine wpl_q (q_pure rfl) rfl ?_
        refine wpl_t0 (t_stA Try.ti27 rfl rfl LenC.h OneC.h LenC.h) (fun _ => ?_)
        refine wpl_q (q_pure rfl) rfl ?_
        refine wpl_nil ?_
        refine ex_block ?_
        refine ex_then ?_
        refine wpc_cutc ({ x : Nat × Value × V3 × Nat × V3 // ((newF m n).2 = 0) ∧ (¬ 300 < l.length) ∧ (0 < l.length) ∧ (SV x.2.1 (eF m n l).length) ∧ ((lF m n l).sv x.2.2.1) ∧ ((lF m n l).sv x.2.2.2.2) }) [(2, lv)] (fun x Lc => (7, .bool true) :: (8, x.1.2.1) :: (9, .pointer (some ⟨x.1.1, 0, none⟩)) :: (18, .pointer (some ⟨x.1.2.2.2.1, 0, none⟩)) :: (19, .int .i64 (stepF (uF m n l) (xF l)).2.2) :: (20, .int .i64 (stepF (uF m n l) (xF l)).1) :: Lc) (fun x => Mem w [] [.blk x.1.2.2.2.1 27 ((lF m n l).c x.1.2.2.2.2.1 x.1.2.2.2.2.2.1 x.1.2.2.2.2.2.2), .blk x.1.1 27 ((lF m n l).c x.1.2.2.1.1 x.1.2.2.1.2.1 x.1.2.2.1.2.2), rRow x.1.2.1 (eF m n l), dRow x.1.2.2.1.1 (lF m n l).dk, dRow x.1.2.2.1.2.1 (lF m n l).pd, kRow x.1.2.2.1.2.2 (lF m n l).ks, dRow x.1.2.2.2.2.1 (lF m n l).dk, dRow x.1.2.2.2.2.2.1 (lF m n l).pd, kRow x.1.2.2.2.2.2.2 (lF m n l).ks] []) ?_ ?_
        ·
         refine wpc_seq ?_
         refine wpc_region ?_
         refine wpl_q (q_pure rfl) rfl ?_
         refine wpl_q (q_pure rfl) rfl ?_
         refine wpl_nil ?_
         refine ex_then ?_
         refine wpc_cond rfl (fun hc181 => ?_) (fun hc181 => ?_)
         ·
          simp only [bne_iff_ne, ne_eq] at hc181
          refine wpc_region ?_
          refine wpl_q (q_ldN Try.underlying27 rfl Try.ti27 rfl LenC.h) rfl ?_
          refine wpl_t0 (t_stA Try.ti27 rfl rfl LenC.h OneC.h LenC.h) (fun _ => ?_)
          refine wpl_nil ?_
          refine ex_mid ⟨(b9, av, ya, b18, z), by have e := (st_err hdo hc181).2.1; exact ⟨hnw, hsh, hl0, hav, hya, by rw [lF, e]; exact hz⟩⟩ ?_ ?_
          ·
           exact (let e := st_err hdo hc181; ⟨rfl, rfl, rfl, rfl, (congrArg (fun q : Int => some (Value.int .i64 q)) e.2.2.symm), (congrArg (fun q : Int => some (Value.int .i64 q)) e.1.symm), rfl, trivial⟩)
          ·
           exact fun w h => by have e := (st_err hdo hc181).2.1; have e2 : lF m n l = uF m n l := e; dsimp only; rw [e2] at h ⊢; exact h.sel
         ·
          simp only [bne_eq_false_iff_eq] at hc181
          refine wpc_skip ?_
          refine ex_mid ⟨(b9, av, ya, b18, b135), by have e := (st_ok hdo hc181).2.1; have e2 : lF m n l = (reserveF (uF m n l) (xF l).id).1 := e; exact ⟨hnw, hsh, hl0, hav, hya, by rw [e2]; exact p135⟩⟩ ?_ ?_
          ·
           exact (let e := st_ok hdo hc181; ⟨rfl, rfl, rfl, rfl, (congrArg (fun q : Int => some (Value.int .i64 q)) e.2.2.symm), (congrArg (fun q : Int => some (Value.int .i64 q)) e.1.symm), rfl, trivial⟩)
          ·
           exact fun w h => by have e := (st_ok hdo hc181).2.1; have e2 : lF m n l = (reserveF (uF m n l) (xF l).id).1 := e; dsimp only; rw [e2] at h ⊢; exact h.sel
        ·
         rintro ⟨⟨b9, av, ya, b18, y⟩, ⟨hi0, hi1, hi2, hi3, hi4, hi5⟩⟩; try dsimp only
         have hi0 : (newF m n).2 = 0 := hi0; have hi1 : ¬ 300 < l.length := hi1; have hi2 : 0 < l.length := hi2; have hi3 : SV av (eF m n l).length := hi3; have hi4 : (lF m n l).sv ya := hi4; have hi5 : (lF m n l).sv y := hi5
         have hnw : (newF m n).2 = 0 := hi0
         have hsh : ¬ 300 < l.length := hi1
         have hl0 : 0 < l.length := hi2
         have hel := eF_len (m := m) (n := n) hl0
         have hav := hi3
         have hya := hi4
         have hy := hi5
         haveI := OneC.sv hya
         haveI := OneC.sv hy
         refine wpc_seq ?_
         refine wpc_region ?_
         refine wpl_q (q_pure rfl) rfl ?_
         refine wpl_q (q_pure rfl) rfl ?_
         refine wpl_q (q_lenW Try.underlying56 rfl (by first | assumption | exact SV.nil | exact SV.slv (by assumption) (by omega) (by omega) | exact arv_sv (by first | decide | (simp only [maxLen]; omega)))) rfl ?_
         refine wpl_q (q_subN (b := 1) rfl rfl (by omega) (by first | omega | (simp only [maxLen]; omega) | (simp only [List.length_append, List.length_cons, List.length_nil, List.length_take, maxLen]; omega) | (simp only [List.length_append, List.length_cons, List.length_nil, List.length_take]; omega))) rfl ?_
         refine wpl_q (q_idxW Try.underlying53 Try.ti61 rfl rfl (by first | assumption | exact SV.nil | exact SV.slv (by assumption) (by omega) (by omega) | exact arv_sv (by first | decide | (simp only [maxLen]; omega))) (by first | omega | (simp only [maxLen]; omega) | (simp only [List.length_append, List.length_cons, List.length_nil, List.length_take, maxLen]; omega) | (simp only [List.length_append, List.length_cons, List.length_nil, List.length_take]; omega))) rfl ?_
         refine wpl_q (q_ldWN Try.underlying61 rfl Try.ti61 rfl (fun w h => by first | exact h.seenV | exact h.seenA (by first | decide | (simp only [maxLen]; omega)) (by first | with_reducible rfl | (simp only [v8s_length, v32s_length, vis_length, vns_length, v64s_length, List.length_replicate]; first | done | with_reducible assumption | omega) | (rw [v8s_length]; (first | with_reducible assumption | with_reducible exact shortF_length _ | with_reducible exact stepF_length _ _ _ | with_reducible exact sumF_length _ | with_reducible exact climbF_length _ (by first | with_reducible assumption | with_reducible exact shortF_length _ | with_reducible exact beginF_length _ _ | with_reducible exact getD_mem_len (by assumption) (by omega)) _ _ _ | with_reducible exact beginF_length _ _ | with_reducible exact chainF_length _ _ _ | with_reducible exact recF_length _ _ | with_reducible exact publicF_length _ | with_reducible exact getD_mem_len (by assumption) (by omega) | (with_reducible exact List.length_replicate))) | rfl) | exact h.seen_old (by assumption) | exact h.seen_oldL (by assumption) (by assumption) | exact h.seen_fact (by repeat (first | exact List.mem_cons_self .. | apply List.mem_cons_of_mem))) (resC ((stepF (uF m n l) (xF l)).1, (stepF (uF m n l) (xF l)).2.2)) (by rw [cat_part (c := resC) (k := 2) (fun _ => rfl) (0, 0) (by omega), eF_last hl0]) rfl) rfl ?_
         refine wpl_t (t_alloc Try.ti61 [.int .i64 0, .int .i64 0] rfl) rfl (fun b21 => ?_)
         refine wpl_t0 (t_stA Try.ti61 rfl rfl LenC.h OneC.h LenC.h) (fun _ => ?_)
         refine wpl_nil ?_
         refine ex_then ?_
         refine wpc_seq ?_
         refine wpc_region ?_
         refine wpl_q (q_pure rfl) rfl ?_
         refine wpl_q (q_pure rfl) rfl ?_
         refine wpl_on rfl rfl ?_
         refine wpl_q (q_field Try.underlying61 rfl Try.ti31 rfl rfl _ rfl) rfl ?_
         refine wpl_on rfl rfl ?_
         refine wpl_q (q_ld Try.underlying31 rfl rfl (by first | exact vns_get (by first | decide | omega | exact Nat.zero_lt_one | (simp; omega) | (simp; done) | (simp only [v8s_length, v32s_length, vis_length, vns_length, v64s_length]; omega)) | rfl)) rfl ?_
         refine wpl_on rfl rfl ?_
         refine wpl_q (q_pure rfl) rfl ?_
         refine wpl_on rfl rfl ?_
         refine wpl_q (q_tru (q_eqI rfl rfl) rfl) rfl ?_
         refine wpl_q (q_pure rfl) rfl ?_
         refine wpl_q (q_pure rfl) rfl ?_
         refine wpl_on rfl rfl ?_
         refine wpl_q (q_field Try.underlying61 rfl Try.ti3 rfl rfl _ rfl) rfl ?_
         refine wpl_on rfl rfl ?_
         refine wpl_q (q_ld Try.underlying3 rfl rfl (by first | exact vns_get (by first | decide | omega | exact Nat.zero_lt_one | (simp; omega) | (simp; done) | (simp only [v8s_length, v32s_length, vis_length, vns_length, v64s_length]; omega)) | rfl)) rfl ?_
         refine wpl_on rfl rfl ?_
         refine wpl_q (q_pure rfl) rfl ?_
         refine wpl_on rfl rfl ?_
         refine wpl_q (q_tru (q_eqI rfl rfl) rfl) rfl ?_
         refine wpl_q (q_pure rfl) rfl ?_
         refine wpl_q (q_pure rfl) rfl ?_
         refine wpl_on rfl rfl ?_
         refine wpl_q (q_ldN Try.underlying27 rfl Try.ti27 rfl LenC.h) rfl ?_
         refine wpl_on rfl rfl ?_
         refine wpl_q (q_ldN Try.underlying27 rfl Try.ti27 rfl LenC.h) rfl ?_
         refine wpl_on rfl rfl ?_
         refine wpl_t (t_pur (v := .bool true) Try.hb19 rfl fun w h => sameSt (lF m n l) ya y w (lF_bs hm).m h.seenV h.seenV h.seenV h.seenV h.seenV h.seenV) rfl (fun b205 => ?_)
         refine wpl_q (q_pure rfl) rfl ?_
         refine wpl_q (q_pure rfl) rfl ?_
         refine wpl_nil ?_
         refine ex_then ?_
         refine wpc_ret ?_
         refine ret1 (.inl rfl) rfl rfl ?_
         exact fun w h => ⟨rfl, h.below⟩
       ·
        have hn2 : ¬ (xF l).kd = 2 := by simpa using hc129
        refine wpc_seq ?_
        refine wpc_region ?_
        refine wpl_q (q8_eql (b := (3 : UInt8)) rfl rfl) rfl ?_
        refine wpl_q (q_pure rfl) rfl ?_
        refine wpl_nil ?_
        refine ex_then ?_
        refine wpc_cond rfl (fun hc138 => ?_) (fun hc138 => ?_)
        ·
         have hk : (xF l).kd = 3 := by simpa using hc138
         have hdo := do_3 (s := uF m n l) hk
         refine wpc_region ?_
         refine wpl_q (q_ldN Try.underlying27 rfl Try.ti27 rfl LenC.h) rfl ?_
         refine wpl_q (q_field Try.underlying58 rfl Try.ti28 rfl rfl _ rfl) rfl ?_
         refine wpl_q (q_ld Try.underlying28 rfl rfl (by first | exact v32s_get (by first | decide | omega | exact Nat.zero_lt_one | (simp; omega) | (simp; done) | (simp only [v8s_length, v32s_length, vis_length, vns_length, v64s_length]; omega)) | rfl)) rfl ?_
         refine wpl_tp (t_callP3 Try.hb25 rfl fun w h => drop_ (uF m n l) z.1 z.2.1 z.2.2 (xF l).id w ⟨(uF_bs hm).m, h.seenV, h.seenV, h.seenV, by have := (uF_bs (n := n) (l := l) hm).d; omega, by have := (uF_bs (n := n) (l := l) hm).p; omega, by have := (uF_bs (n := n) (l := l) hm).k; omega⟩) rfl (fun b144 p144 => ?_)
         haveI := OneC.sv p144
         refine wpl_q (q_pure rfl) rfl ?_
         refine wpl_q (q_pure rfl) rfl ?_
         refine wpl_q (q_pure rfl) rfl ?_
         refine wpl_t0 (t_stA Try.ti27 rfl rfl LenC.h OneC.h LenC.h) (fun _ => ?_)
         refine wpl_q (q_pure rfl) rfl ?_
         refine wpl_nil ?_
         refine ex_block ?_
         refine ex_then ?_
         refine wpc_cutc ({ x : Nat × Value × V3 × Nat × V3 // ((newF m n).2 = 0) ∧ (¬ 300 < l.length) ∧ (0 < l.length) ∧ (SV x.2.1 (eF m n l).length) ∧ ((lF m n l).sv x.2.2.1) ∧ ((lF m n l).sv x.2.2.2.2) }) [(2, lv)] (fun x Lc => (7, .bool true) :: (8, x.1.2.1) :: (9, .pointer (some ⟨x.1.1, 0, none⟩)) :: (18, .pointer (some ⟨x.1.2.2.2.1, 0, none⟩)) :: (19, .int .i64 (stepF (uF m n l) (xF l)).2.2) :: (20, .int .i64 (stepF (uF m n l) (xF l)).1) :: Lc) (fun x => Mem w [] [.blk x.1.2.2.2.1 27 ((lF m n l).c x.1.2.2.2.2.1 x.1.2.2.2.2.2.1 x.1.2.2.2.2.2.2), .blk x.1.1 27 ((lF m n l).c x.1.2.2.1.1 x.1.2.2.1.2.1 x.1.2.2.1.2.2), rRow x.1.2.1 (eF m n l), dRow x.1.2.2.1.1 (lF m n l).dk, dRow x.1.2.2.1.2.1 (lF m n l).pd, kRow x.1.2.2.1.2.2 (lF m n l).ks, dRow x.1.2.2.2.2.1 (lF m n l).dk, dRow x.1.2.2.2.2.2.1 (lF m n l).pd, kRow x.1.2.2.2.2.2.2 (lF m n l).ks] []) ?_ ?_
         ·
          refine wpc_seq ?_
          refine wpc_region ?_
          refine wpl_q (q_pure rfl) rfl ?_
          refine wpl_q (q_pure rfl) rfl ?_
          refine wpl_nil ?_
          refine ex_then ?_
          refine wpc_cond rfl (fun hc181 => ?_) (fun hc181 => ?_)
          ·
           simp only [bne_iff_ne, ne_eq] at hc181
           refine wpc_region ?_
           refine wpl_q (q_ldN Try.underlying27 rfl Try.ti27 rfl LenC.h) rfl ?_
           refine wpl_t0 (t_stA Try.ti27 rfl rfl LenC.h OneC.h LenC.h) (fun _ => ?_)
           refine wpl_nil ?_
           refine ex_mid ⟨(b9, av, ya, b18, z), by have e := (st_err hdo hc181).2.1; exact ⟨hnw, hsh, hl0, hav, hya, by rw [lF, e]; exact hz⟩⟩ ?_ ?_
           ·
            exact (let e := st_err hdo hc181; ⟨rfl, rfl, rfl, rfl, (congrArg (fun q : Int => some (Value.int .i64 q)) e.2.2.symm), (congrArg (fun q : Int => some (Value.int .i64 q)) e.1.symm), rfl, trivial⟩)
           ·
            exact fun w h => by have e := (st_err hdo hc181).2.1; have e2 : lF m n l = uF m n l := e; dsimp only; rw [e2] at h ⊢; exact h.sel
          ·
           simp only [bne_eq_false_iff_eq] at hc181
           refine wpc_skip ?_
           refine ex_mid ⟨(b9, av, ya, b18, b144), by have e := (st_ok hdo hc181).2.1; have e2 : lF m n l = (dropF (uF m n l) (xF l).id).1 := e; exact ⟨hnw, hsh, hl0, hav, hya, by rw [e2]; exact p144⟩⟩ ?_ ?_
           ·
            exact (let e := st_ok hdo hc181; ⟨rfl, rfl, rfl, rfl, (congrArg (fun q : Int => some (Value.int .i64 q)) e.2.2.symm), (congrArg (fun q : Int => some (Value.int .i64 q)) e.1.symm), rfl, trivial⟩)
           ·
            exact fun w h => by have e := (st_ok hdo hc181).2.1; have e2 : lF m n l = (dropF (uF m n l) (xF l).id).1 := e; dsimp only; rw [e2] at h ⊢; exact h.sel
         ·
          rintro ⟨⟨b9, av, ya, b18, y⟩, ⟨hi0, hi1, hi2, hi3, hi4, hi5⟩⟩; try dsimp only
          have hi0 : (newF m n).2 = 0 := hi0; have hi1 : ¬ 300 < l.length := hi1; have hi2 : 0 < l.length := hi2; have hi3 : SV av (eF m n l).length := hi3; have hi4 : (lF m n l).sv ya := hi4; have hi5 : (lF m n l).sv y := hi5
          have hnw : (newF m n).2 = 0 := hi0
          have hsh : ¬ 300 < l.length := hi1
          have hl0 : 0 < l.length := hi2
          have hel := eF_len (m := m) (n := n) hl0
          have hav := hi3
          have hya := hi4
          have hy := hi5
          haveI := OneC.sv hya
          haveI := OneC.sv hy
          refine wpc_seq ?_
          refine wpc_region ?_
          refine wpl_q (q_pure rfl) rfl ?_
          refine wpl_q (q_pure rfl) rfl ?_
          refine wpl_q (q_lenW Try.underlying56 rfl (by first | assumption | exact SV.nil | exact SV.slv (by assumption) (by omega) (by omega) | exact arv_sv (by first | decide | (simp only [maxLen]; omega)))) rfl ?_
          refine wpl_q (q_subN (b := 1) rfl rfl (by omega) (by first | omega | (simp only [maxLen]; omega) | (simp only [List.length_append, List.length_cons, List.length_nil, List.length_take, maxLen]; omega) | (simp only [List.length_append, List.length_cons, List.length_nil, List.length_take]; omega))) rfl ?_
          refine wpl_q (q_idxW Try.underlying53 Try.ti61 rfl rfl (by first | assumption | exact SV.nil | exact SV.slv (by assumption) (by omega) (by omega) | exact arv_sv (by first | decide | (simp only [maxLen]; omega))) (by first | omega | (simp only [maxLen]; omega) | (simp only [List.length_append, List.length_cons, List.length_nil, List.length_take, maxLen]; omega) | (simp only [List.length_append, List.length_cons, List.length_nil, List.length_take]; omega))) rfl ?_
          refine wpl_q (q_ldWN Try.underlying61 rfl Try.ti61 rfl (fun w h => by first | exact h.seenV | exact h.seenA (by first | decide | (simp only [maxLen]; omega)) (by first | with_reducible rfl | (simp only [v8s_length, v32s_length, vis_length, vns_length, v64s_length, List.length_replicate]; first | done | with_reducible assumption | omega) | (rw [v8s_length]; (first | with_reducible assumption | with_reducible exact shortF_length _ | with_reducible exact stepF_length _ _ _ | with_reducible exact sumF_length _ | with_reducible exact climbF_length _ (by first | with_reducible assumption | with_reducible exact shortF_length _ | with_reducible exact beginF_length _ _ | with_reducible exact getD_mem_len (by assumption) (by omega)) _ _ _ | with_reducible exact beginF_length _ _ | with_reducible exact chainF_length _ _ _ | with_reducible exact recF_length _ _ | with_reducible exact publicF_length _ | with_reducible exact getD_mem_len (by assumption) (by omega) | (with_reducible exact List.length_replicate))) | rfl) | exact h.seen_old (by assumption) | exact h.seen_oldL (by assumption) (by assumption) | exact h.seen_fact (by repeat (first | exact List.mem_cons_self .. | apply List.mem_cons_of_mem))) (resC ((stepF (uF m n l) (xF l)).1, (stepF (uF m n l) (xF l)).2.2)) (by rw [cat_part (c := resC) (k := 2) (fun _ => rfl) (0, 0) (by omega), eF_last hl0]) rfl) rfl ?_
          refine wpl_t (t_alloc Try.ti61 [.int .i64 0, .int .i64 0] rfl) rfl (fun b21 => ?_)
          refine wpl_t0 (t_stA Try.ti61 rfl rfl LenC.h OneC.h LenC.h) (fun _ => ?_)
          refine wpl_nil ?_
          refine ex_then ?_
          refine wpc_seq ?_
          refine wpc_region ?_
          refine wpl_q (q_pure rfl) rfl ?_
          refine wpl_q (q_pure rfl) rfl ?_
          refine wpl_on rfl rfl ?_
          refine wpl_q (q_field Try.underlying61 rfl Try.ti31 rfl rfl _ rfl) rfl ?_
          refine wpl_on rfl rfl ?_
          refine wpl_q (q_ld Try.underlying31 rfl rfl (by first | exact vns_get (by first | decide | omega | exact Nat.zero_lt_one | (simp; omega) | (simp; done) | (simp only [v8s_length, v32s_length, vis_length, vns_length, v64s_length]; omega)) | rfl)) rfl ?_
          refine wpl_on rfl rfl ?_
          refine wpl_q (q_pure rfl) rfl ?_
          refine wpl_on rfl rfl ?_
          refine wpl_q (q_tru (q_eqI rfl rfl) rfl) rfl ?_
          refine wpl_q (q_pure rfl) rfl ?_
          refine wpl_q (q_pure rfl) rfl ?_
          refine wpl_on rfl rfl ?_
          refine wpl_q (q_field Try.underlying61 rfl Try.ti3 rfl rfl _ rfl) rfl ?_
          refine wpl_on rfl rfl ?_
          refine wpl_q (q_ld Try.underlying3 rfl rfl (by first | exact vns_get (by first | decide | omega | exact Nat.zero_lt_one | (simp; omega) | (simp; done) | (simp only [v8s_length, v32s_length, vis_length, vns_length, v64s_length]; omega)) | rfl)) rfl ?_
          refine wpl_on rfl rfl ?_
          refine wpl_q (q_pure rfl) rfl ?_
          refine wpl_on rfl rfl ?_
          refine wpl_q (q_tru (q_eqI rfl rfl) rfl) rfl ?_
          refine wpl_q (q_pure rfl) rfl ?_
          refine wpl_q (q_pure rfl) rfl ?_
          refine wpl_on rfl rfl ?_
          refine wpl_q (q_ldN Try.underlying27 rfl Try.ti27 rfl LenC.h) rfl ?_
          refine wpl_on rfl rfl ?_
          refine wpl_q (q_ldN Try.underlying27 rfl Try.ti27 rfl LenC.h) rfl ?_
          refine wpl_on rfl rfl ?_
          refine wpl_t (t_pur (v := .bool true) Try.hb19 rfl fun w h => sameSt (lF m n l) ya y w (lF_bs hm).m h.seenV h.seenV h.seenV h.seenV h.seenV h.seenV) rfl (fun b205 => ?_)
          refine wpl_q (q_pure rfl) rfl ?_
          refine wpl_q (q_pure rfl) rfl ?_
          refine wpl_nil ?_
          refine ex_then ?_
          refine wpc_ret ?_
          refine ret1 (.inl rfl) rfl rfl ?_
          exact fun w h => ⟨rfl, h.below⟩
        ·
         have hn3 : ¬ (xF l).kd = 3 := by simpa using hc138
         refine wpc_seq ?_
         refine wpc_region ?_
         refine wpl_q (q8_eql (b := (4 : UInt8)) rfl rfl) rfl ?_
         refine wpl_q (q_pure rfl) rfl ?_
         refine wpl_nil ?_
         refine ex_then ?_
         refine wpc_cond rfl (fun hc147 => ?_) (fun hc147 => ?_)
         ·
          have hk : (xF l).kd = 4 := by simpa using hc147
          have hdo := do_4 (s := uF m n l) hk
          refine wpc_region ?_
          refine wpl_q (q_ldN Try.underlying27 rfl Try.ti27 rfl LenC.h) rfl ?_
          refine wpl_tp (t_callP3 Try.hb11 rfl fun w h => sync (uF m n l) z.1 z.2.1 z.2.2  w ⟨(uF_bs hm).m, h.seenV, h.seenV, h.seenV, by have := (uF_bs (n := n) (l := l) hm).d; omega, by have := (uF_bs (n := n) (l := l) hm).p; omega, by have := (uF_bs (n := n) (l := l) hm).k; omega⟩) rfl (fun b151 p151 => ?_)
          haveI := OneC.sv p151
          refine wpl_q (q_pure rfl) rfl ?_
          refine wpl_q (q_pure rfl) rfl ?_
          refine wpl_q (q_pure rfl) rfl ?_
          refine wpl_t0 (t_stA Try.ti27 rfl rfl LenC.h OneC.h LenC.h) (fun _ => ?_)
          refine wpl_q (q_pure rfl) rfl ?_
          refine wpl_nil ?_
          refine ex_block ?_
          refine ex_then ?_
          refine wpc_cutc ({ x : Nat × Value × V3 × Nat × V3 // ((newF m n).2 = 0) ∧ (¬ 300 < l.length) ∧ (0 < l.length) ∧ (SV x.2.1 (eF m n l).length) ∧ ((lF m n l).sv x.2.2.1) ∧ ((lF m n l).sv x.2.2.2.2) }) [(2, lv)] (fun x Lc => (7, .bool true) :: (8, x.1.2.1) :: (9, .pointer (some ⟨x.1.1, 0, none⟩)) :: (18, .pointer (some ⟨x.1.2.2.2.1, 0, none⟩)) :: (19, .int .i64 (stepF (uF m n l) (xF l)).2.2) :: (20, .int .i64 (stepF (uF m n l) (xF l)).1) :: Lc) (fun x => Mem w [] [.blk x.1.2.2.2.1 27 ((lF m n l).c x.1.2.2.2.2.1 x.1.2.2.2.2.2.1 x.1.2.2.2.2.2.2), .blk x.1.1 27 ((lF m n l).c x.1.2.2.1.1 x.1.2.2.1.2.1 x.1.2.2.1.2.2), rRow x.1.2.1 (eF m n l), dRow x.1.2.2.1.1 (lF m n l).dk, dRow x.1.2.2.1.2.1 (lF m n l).pd, kRow x.1.2.2.1.2.2 (lF m n l).ks, dRow x.1.2.2.2.2.1 (lF m n l).dk, dRow x.1.2.2.2.2.2.1 (lF m n l).pd, kRow x.1.2.2.2.2.2.2 (lF m n l).ks] []) ?_ ?_
          ·
           refine wpc_seq ?_
           refine wpc_region ?_
           refine wpl_q (q_pure rfl) rfl ?_
           refine wpl_q (q_pure rfl) rfl ?_
           refine wpl_nil ?_
           refine ex_then ?_
           refine wpc_cond rfl (fun hc181 => ?_) (fun hc181 => ?_)
           ·
            simp only [bne_iff_ne, ne_eq] at hc181
            refine wpc_region ?_
            refine wpl_q (q_ldN Try.underlying27 rfl Try.ti27 rfl LenC.h) rfl ?_
            refine wpl_t0 (t_stA Try.ti27 rfl rfl LenC.h OneC.h LenC.h) (fun _ => ?_)
            refine wpl_nil ?_
            refine ex_mid ⟨(b9, av, ya, b18, z), by have e := (st_err hdo hc181).2.1; exact ⟨hnw, hsh, hl0, hav, hya, by rw [lF, e]; exact hz⟩⟩ ?_ ?_
            ·
             exact (let e := st_err hdo hc181; ⟨rfl, rfl, rfl, rfl, (congrArg (fun q : Int => some (Value.int .i64 q)) e.2.2.symm), (congrArg (fun q : Int => some (Value.int .i64 q)) e.1.symm), rfl, trivial⟩)
            ·
             exact fun w h => by have e := (st_err hdo hc181).2.1; have e2 : lF m n l = uF m n l := e; dsimp only; rw [e2] at h ⊢; exact h.sel
           ·
            simp only [bne_eq_false_iff_eq] at hc181
            refine wpc_skip ?_
            refine ex_mid ⟨(b9, av, ya, b18, b151), by have e := (st_ok hdo hc181).2.1; have e2 : lF m n l = (syncF (uF m n l)).1 := e; exact ⟨hnw, hsh, hl0, hav, hya, by rw [e2]; exact p151⟩⟩ ?_ ?_
            ·
             exact (let e := st_ok hdo hc181; ⟨rfl, rfl, rfl, rfl, (congrArg (fun q : Int => some (Value.int .i64 q)) e.2.2.symm), (congrArg (fun q : Int => some (Value.int .i64 q)) e.1.symm), rfl, trivial⟩)
            ·
             exact fun w h => by have e := (st_ok hdo hc181).2.1; have e2 : lF m n l = (syncF (uF m n l)).1 := e; dsimp only; rw [e2] at h ⊢; exact h.sel
          ·
           rintro ⟨⟨b9, av, ya, b18, y⟩, ⟨hi0, hi1, hi2, hi3, hi4, hi5⟩⟩; try dsimp only
           have hi0 : (newF m n).2 = 0 := hi0; have hi1 : ¬ 300 < l.length := hi1; have hi2 : 0 < l.length := hi2; have hi3 : SV av (eF m n l).length := hi3; have hi4 : (lF m n l).sv ya := hi4; have hi5 : (lF m n l).sv y := hi5
           have hnw : (newF m n).2 = 0 := hi0
           have hsh : ¬ 300 < l.length := hi1
           have hl0 : 0 < l.length := hi2
           have hel := eF_len (m := m) (n := n) hl0
           have hav := hi3
           have hya := hi4
           have hy := hi5
           haveI := OneC.sv hya
           haveI := OneC.sv hy
           refine wpc_seq ?_
           refine wpc_region ?_
           refine wpl_q (q_pure rfl) rfl ?_
           refine wpl_q (q_pure rfl) rfl ?_
           refine wpl_q (q_lenW Try.underlying56 rfl (by first | assumption | exact SV.nil | exact SV.slv (by assumption) (by omega) (by omega) | exact arv_sv (by first | decide | (simp only [maxLen]; omega)))) rfl ?_
           refine wpl_q (q_subN (b := 1) rfl rfl (by omega) (by first | omega | (simp only [maxLen]; omega) | (simp only [List.length_append, List.length_cons, List.length_nil, List.length_take, maxLen]; omega) | (simp only [List.length_append, List.length_cons, List.length_nil, List.length_take]; omega))) rfl ?_
           refine wpl_q (q_idxW Try.underlying53 Try.ti61 rfl rfl (by first | assumption | exact SV.nil | exact SV.slv (by assumption) (by omega) (by omega) | exact arv_sv (by first | decide | (simp only [maxLen]; omega))) (by first | omega | (simp only [maxLen]; omega) | (simp only [List.length_append, List.length_cons, List.length_nil, List.length_take, maxLen]; omega) | (simp only [List.length_append, List.length_cons, List.length_nil, List.length_take]; omega))) rfl ?_
           refine wpl_q (q_ldWN Try.underlying61 rfl Try.ti61 rfl (fun w h => by first | exact h.seenV | exact h.seenA (by first | decide | (simp only [maxLen]; omega)) (by first | with_reducible rfl | (simp only [v8s_length, v32s_length, vis_length, vns_length, v64s_length, List.length_replicate]; first | done | with_reducible assumption | omega) | (rw [v8s_length]; (first | with_reducible assumption | with_reducible exact shortF_length _ | with_reducible exact stepF_length _ _ _ | with_reducible exact sumF_length _ | with_reducible exact climbF_length _ (by first | with_reducible assumption | with_reducible exact shortF_length _ | with_reducible exact beginF_length _ _ | with_reducible exact getD_mem_len (by assumption) (by omega)) _ _ _ | with_reducible exact beginF_length _ _ | with_reducible exact chainF_length _ _ _ | with_reducible exact recF_length _ _ | with_reducible exact publicF_length _ | with_reducible exact getD_mem_len (by assumption) (by omega) | (with_reducible exact List.length_replicate))) | rfl) | exact h.seen_old (by assumption) | exact h.seen_oldL (by assumption) (by assumption) | exact h.seen_fact (by repeat (first | exact List.mem_cons_self .. | apply List.mem_cons_of_mem))) (resC ((stepF (uF m n l) (xF l)).1, (stepF (uF m n l) (xF l)).2.2)) (by rw [cat_part (c := resC) (k := 2) (fun _ => rfl) (0, 0) (by omega), eF_last hl0]) rfl) rfl ?_
           refine wpl_t (t_alloc Try.ti61 [.int .i64 0, .int .i64 0] rfl) rfl (fun b21 => ?_)
           refine wpl_t0 (t_stA Try.ti61 rfl rfl LenC.h OneC.h LenC.h) (fun _ => ?_)
           refine wpl_nil ?_
           refine ex_then ?_
           refine wpc_seq ?_
           refine wpc_region ?_
           refine wpl_q (q_pure rfl) rfl ?_
           refine wpl_q (q_pure rfl) rfl ?_
           refine wpl_on rfl rfl ?_
           refine wpl_q (q_field Try.underlying61 rfl Try.ti31 rfl rfl _ rfl) rfl ?_
           refine wpl_on rfl rfl ?_
           refine wpl_q (q_ld Try.underlying31 rfl rfl (by first | exact vns_get (by first | decide | omega | exact Nat.zero_lt_one | (simp; omega) | (simp; done) | (simp only [v8s_length, v32s_length, vis_length, vns_length, v64s_length]; omega)) | rfl)) rfl ?_
           refine wpl_on rfl rfl ?_
           refine wpl_q (q_pure rfl) rfl ?_
           refine wpl_on rfl rfl ?_
           refine wpl_q (q_tru (q_eqI rfl rfl) rfl) rfl ?_
           refine wpl_q (q_pure rfl) rfl ?_
           refine wpl_q (q_pure rfl) rfl ?_
           refine wpl_on rfl rfl ?_
           refine wpl_q (q_field Try.underlying61 rfl Try.ti3 rfl rfl _ rfl) rfl ?_
           refine wpl_on rfl rfl ?_
           refine wpl_q (q_ld Try.underlying3 rfl rfl (by first | exact vns_get (by first | decide | omega | exact Nat.zero_lt_one | (simp; omega) | (simp; done) | (simp only [v8s_length, v32s_length, vis_length, vns_length, v64s_length]; omega)) | rfl)) rfl ?_
           refine wpl_on rfl rfl ?_
           refine wpl_q (q_pure rfl) rfl ?_
           refine wpl_on rfl rfl ?_
           refine wpl_q (q_tru (q_eqI rfl rfl) rfl) rfl ?_
           refine wpl_q (q_pure rfl) rfl ?_
           refine wpl_q (q_pure rfl) rfl ?_
           refine wpl_on rfl rfl ?_
           refine wpl_q (q_ldN Try.underlying27 rfl Try.ti27 rfl LenC.h) rfl ?_
           refine wpl_on rfl rfl ?_
           refine wpl_q (q_ldN Try.underlying27 rfl Try.ti27 rfl LenC.h) rfl ?_
           refine wpl_on rfl rfl ?_
           refine wpl_t (t_pur (v := .bool true) Try.hb19 rfl fun w h => sameSt (lF m n l) ya y w (lF_bs hm).m h.seenV h.seenV h.seenV h.seenV h.seenV h.seenV) rfl (fun b205 => ?_)
           refine wpl_q (q_pure rfl) rfl ?_
           refine wpl_q (q_pure rfl) rfl ?_
           refine wpl_nil ?_
           refine ex_then ?_
           refine wpc_ret ?_
           refine ret1 (.inl rfl) rfl rfl ?_
           exact fun w h => ⟨rfl, h.below⟩
         ·
          have hn4 : ¬ (xF l).kd = 4 := by simpa using hc147
          refine wpc_seq ?_
          refine wpc_region ?_
          refine wpl_q (q8_eql (b := (5 : UInt8)) rfl rfl) rfl ?_
          refine wpl_q (q_pure rfl) rfl ?_
          refine wpl_nil ?_
          refine ex_then ?_
          refine wpc_cond rfl (fun hc154 => ?_) (fun hc154 => ?_)
          ·
           have hk : (xF l).kd = 5 := by simpa using hc154
           have hdo := do_5 (s := uF m n l) hk
           refine wpc_region ?_
           refine wpl_q (q_ldN Try.underlying27 rfl Try.ti27 rfl LenC.h) rfl ?_
           refine wpl_q (q_field Try.underlying58 rfl Try.ti3 rfl rfl _ rfl) rfl ?_
           refine wpl_q (q_ld Try.underlying3 rfl rfl (by first | exact vns_get (by first | decide | omega | exact Nat.zero_lt_one | (simp; omega) | (simp; done) | (simp only [v8s_length, v32s_length, vis_length, vns_length, v64s_length]; omega)) | rfl)) rfl ?_
           refine wpl_tp (t_callP3 Try.hb13 rfl fun w h => crash (uF m n l) z.1 z.2.1 z.2.2 (xF l).n w ⟨(uF_bs hm).m, h.seenV, h.seenV, h.seenV, by have := (uF_bs (n := n) (l := l) hm).d; omega, by have := (uF_bs (n := n) (l := l) hm).p; omega, by have := (uF_bs (n := n) (l := l) hm).k; omega⟩) rfl (fun b160 p160 => ?_)
           haveI := OneC.sv p160
           refine wpl_q (q_pure rfl) rfl ?_
           refine wpl_q (q_pure rfl) rfl ?_
           refine wpl_q (q_pure rfl) rfl ?_
           refine wpl_t0 (t_stA Try.ti27 rfl rfl LenC.h OneC.h LenC.h) (fun _ => ?_)
           refine wpl_q (q_pure rfl) rfl ?_
           refine wpl_nil ?_
           refine ex_block ?_
           refine ex_then ?_
           refine wpc_cutc ({ x : Nat × Value × V3 × Nat × V3 // ((newF m n).2 = 0) ∧ (¬ 300 < l.length) ∧ (0 < l.length) ∧ (SV x.2.1 (eF m n l).length) ∧ ((lF m n l).sv x.2.2.1) ∧ ((lF m n l).sv x.2.2.2.2) }) [(2, lv)] (fun x Lc => (7, .bool true) :: (8, x.1.2.1) :: (9, .pointer (some ⟨x.1.1, 0, none⟩)) :: (18, .pointer (some ⟨x.1.2.2.2.1, 0, none⟩)) :: (19, .int .i64 (stepF (uF m n l) (xF l)).2.2) :: (20, .int .i64 (stepF (uF m n l) (xF l)).1) :: Lc) (fun x => Mem w [] [.blk x.1.2.2.2.1 27 ((lF m n l).c x.1.2.2.2.2.1 x.1.2.2.2.2.2.1 x.1.2.2.2.2.2.2), .blk x.1.1 27 ((lF m n l).c x.1.2.2.1.1 x.1.2.2.1.2.1 x.1.2.2.1.2.2), rRow x.1.2.1 (eF m n l), dRow x.1.2.2.1.1 (lF m n l).dk, dRow x.1.2.2.1.2.1 (lF m n l).pd, kRow x.1.2.2.1.2.2 (lF m n l).ks, dRow x.1.2.2.2.2.1 (lF m n l).dk, dRow x.1.2.2.2.2.2.1 (lF m n l).pd, kRow x.1.2.2.2.2.2.2 (lF m n l).ks] []) ?_ ?_
           ·
            refine wpc_seq ?_
            refine wpc_region ?_
            refine wpl_q (q_pure rfl) rfl ?_
            refine wpl_q (q_pure rfl) rfl ?_
            refine wpl_nil ?_
            refine ex_then ?_
            refine wpc_cond rfl (fun hc181 => ?_) (fun hc181 => ?_)
            ·
             simp only [bne_iff_ne, ne_eq] at hc181
             refine wpc_region ?_
             refine wpl_q (q_ldN Try.underlying27 rfl Try.ti27 rfl LenC.h) rfl ?_
             refine wpl_t0 (t_stA Try.ti27 rfl rfl LenC.h OneC.h LenC.h) (fun _ => ?_)
             refine wpl_nil ?_
             refine ex_mid ⟨(b9, av, ya, b18, z), by have e := (st_err hdo hc181).2.1; exact ⟨hnw, hsh, hl0, hav, hya, by rw [lF, e]; exact hz⟩⟩ ?_ ?_
             ·
              exact (let e := st_err hdo hc181; ⟨rfl, rfl, rfl, rfl, (congrArg (fun q : Int => some (Value.int .i64 q)) e.2.2.symm), (congrArg (fun q : Int => some (Value.int .i64 q)) e.1.symm), rfl, trivial⟩)
             ·
              exact fun w h => by have e := (st_err hdo hc181).2.1; have e2 : lF m n l = uF m n l := e; dsimp only; rw [e2] at h ⊢; exact h.sel
            ·
             simp only [bne_eq_false_iff_eq] at hc181
             refine wpc_skip ?_
             refine ex_mid ⟨(b9, av, ya, b18, b160), by have e := (st_ok hdo hc181).2.1; have e2 : lF m n l = (crashF (uF m n l) (xF l).n).1 := e; exact ⟨hnw, hsh, hl0, hav, hya, by rw [e2]; exact p160⟩⟩ ?_ ?_
             ·
              exact (let e := st_ok hdo hc181; ⟨rfl, rfl, rfl, rfl, (congrArg (fun q : Int => some (Value.int .i64 q)) e.2.2.symm), (congrArg (fun q : Int => some (Value.int .i64 q)) e.1.symm), rfl, trivial⟩)
             ·
              exact fun w h => by have e := (st_ok hdo hc181).2.1; have e2 : lF m n l = (crashF (uF m n l) (xF l).n).1 := e; dsimp only; rw [e2] at h ⊢; exact h.sel
           ·
            rintro ⟨⟨b9, av, ya, b18, y⟩, ⟨hi0, hi1, hi2, hi3, hi4, hi5⟩⟩; try dsimp only
            have hi0 : (newF m n).2 = 0 := hi0; have hi1 : ¬ 300 < l.length := hi1; have hi2 : 0 < l.length := hi2; have hi3 : SV av (eF m n l).length := hi3; have hi4 : (lF m n l).sv ya := hi4; have hi5 : (lF m n l).sv y := hi5
            have hnw : (newF m n).2 = 0 := hi0
            have hsh : ¬ 300 < l.length := hi1
            have hl0 : 0 < l.length := hi2
            have hel := eF_len (m := m) (n := n) hl0
            have hav := hi3
            have hya := hi4
            have hy := hi5
            haveI := OneC.sv hya
            haveI := OneC.sv hy
            refine wpc_seq ?_
            refine wpc_region ?_
            refine wpl_q (q_pure rfl) rfl ?_
            refine wpl_q (q_pure rfl) rfl ?_
            refine wpl_q (q_lenW Try.underlying56 rfl (by first | assumption | exact SV.nil | exact SV.slv (by assumption) (by omega) (by omega) | exact arv_sv (by first | decide | (simp only [maxLen]; omega)))) rfl ?_
            refine wpl_q (q_subN (b := 1) rfl rfl (by omega) (by first | omega | (simp only [maxLen]; omega) | (simp only [List.length_append, List.length_cons, List.length_nil, List.length_take, maxLen]; omega) | (simp only [List.length_append, List.length_cons, List.length_nil, List.length_take]; omega))) rfl ?_
            refine wpl_q (q_idxW Try.underlying53 Try.ti61 rfl rfl (by first | assumption | exact SV.nil | exact SV.slv (by assumption) (by omega) (by omega) | exact arv_sv (by first | decide | (simp only [maxLen]; omega))) (by first | omega | (simp only [maxLen]; omega) | (simp only [List.length_append, List.length_cons, List.length_nil, List.length_take, maxLen]; omega) | (simp only [List.length_append, List.length_cons, List.length_nil, List.length_take]; omega))) rfl ?_
            refine wpl_q (q_ldWN Try.underlying61 rfl Try.ti61 rfl (fun w h => by first | exact h.seenV | exact h.seenA (by first | decide | (simp only [maxLen]; omega)) (by first | with_reducible rfl | (simp only [v8s_length, v32s_length, vis_length, vns_length, v64s_length, List.length_replicate]; first | done | with_reducible assumption | omega) | (rw [v8s_length]; (first | with_reducible assumption | with_reducible exact shortF_length _ | with_reducible exact stepF_length _ _ _ | with_reducible exact sumF_length _ | with_reducible exact climbF_length _ (by first | with_reducible assumption | with_reducible exact shortF_length _ | with_reducible exact beginF_length _ _ | with_reducible exact getD_mem_len (by assumption) (by omega)) _ _ _ | with_reducible exact beginF_length _ _ | with_reducible exact chainF_length _ _ _ | with_reducible exact recF_length _ _ | with_reducible exact publicF_length _ | with_reducible exact getD_mem_len (by assumption) (by omega) | (with_reducible exact List.length_replicate))) | rfl) | exact h.seen_old (by assumption) | exact h.seen_oldL (by assumption) (by assumption) | exact h.seen_fact (by repeat (first | exact List.mem_cons_self .. | apply List.mem_cons_of_mem))) (resC ((stepF (uF m n l) (xF l)).1, (stepF (uF m n l) (xF l)).2.2)) (by rw [cat_part (c := resC) (k := 2) (fun _ => rfl) (0, 0) (by omega), eF_last hl0]) rfl) rfl ?_
            refine wpl_t (t_alloc Try.ti61 [.int .i64 0, .int .i64 0] rfl) rfl (fun b21 => ?_)
            refine wpl_t0 (t_stA Try.ti61 rfl rfl LenC.h OneC.h LenC.h) (fun _ => ?_)
            refine wpl_nil ?_
            refine ex_then ?_
            refine wpc_seq ?_
            refine wpc_region ?_
            refine wpl_q (q_pure rfl) rfl ?_
            refine wpl_q (q_pure rfl) rfl ?_
            refine wpl_on rfl rfl ?_
            refine wpl_q (q_field Try.underlying61 rfl Try.ti31 rfl rfl _ rfl) rfl ?_
            refine wpl_on rfl rfl ?_
            refine wpl_q (q_ld Try.underlying31 rfl rfl (by first | exact vns_get (by first | decide | omega | exact Nat.zero_lt_one | (simp; omega) | (simp; done) | (simp only [v8s_length, v32s_length, vis_length, vns_length, v64s_length]; omega)) | rfl)) rfl ?_
            refine wpl_on rfl rfl ?_
            refine wpl_q (q_pure rfl) rfl ?_
            refine wpl_on rfl rfl ?_
            refine wpl_q (q_tru (q_eqI rfl rfl) rfl) rfl ?_
            refine wpl_q (q_pure rfl) rfl ?_
            refine wpl_q (q_pure rfl) rfl ?_
            refine wpl_on rfl rfl ?_
            refine wpl_q (q_field Try.underlying61 rfl Try.ti3 rfl rfl _ rfl) rfl ?_
            refine wpl_on rfl rfl ?_
            refine wpl_q (q_ld Try.underlying3 rfl rfl (by first | exact vns_get (by first | decide | omega | exact Nat.zero_lt_one | (simp; omega) | (simp; done) | (simp only [v8s_length, v32s_length, vis_length, vns_length, v64s_length]; omega)) | rfl)) rfl ?_
            refine wpl_on rfl rfl ?_
            refine wpl_q (q_pure rfl) rfl ?_
            refine wpl_on rfl rfl ?_
            refine wpl_q (q_tru (q_eqI rfl rfl) rfl) rfl ?_
            refine wpl_q (q_pure rfl) rfl ?_
            refine wpl_q (q_pure rfl) rfl ?_
            refine wpl_on rfl rfl ?_
            refine wpl_q (q_ldN Try.underlying27 rfl Try.ti27 rfl LenC.h) rfl ?_
            refine wpl_on rfl rfl ?_
            refine wpl_q (q_ldN Try.underlying27 rfl Try.ti27 rfl LenC.h) rfl ?_
            refine wpl_on rfl rfl ?_
            refine wpl_t (t_pur (v := .bool true) Try.hb19 rfl fun w h => sameSt (lF m n l) ya y w (lF_bs hm).m h.seenV h.seenV h.seenV h.seenV h.seenV h.seenV) rfl (fun b205 => ?_)
            refine wpl_q (q_pure rfl) rfl ?_
            refine wpl_q (q_pure rfl) rfl ?_
            refine wpl_nil ?_
            refine ex_then ?_
            refine wpc_ret ?_
            refine ret1 (.inl rfl) rfl rfl ?_
            exact fun w h => ⟨rfl, h.below⟩
          ·
           have hn5 : ¬ (xF l).kd = 5 := by simpa using hc154
           refine wpc_seq ?_
           refine wpc_region ?_
           refine wpl_q (q8_eql (b := (6 : UInt8)) rfl rfl) rfl ?_
           refine wpl_q (q_pure rfl) rfl ?_
           refine wpl_nil ?_
           refine ex_then ?_
           refine wpc_cond rfl (fun hc163 => ?_) (fun hc163 => ?_)
           ·
            have hk : (xF l).kd = 6 := by simpa using hc163
            have hdo := do_6 (s := uF m n l) hk
            refine wpc_region ?_
            refine wpl_q (q_ldN Try.underlying27 rfl Try.ti27 rfl LenC.h) rfl ?_
            refine wpl_tp (t_callP2 Try.hb15 rfl fun w h => open_ (uF m n l) z.1 z.2.1 z.2.2 w ⟨(uF_bs hm).m, h.seenV, h.seenV, h.seenV, by have := (uF_bs (n := n) (l := l) hm).d; omega, by have := (uF_bs (n := n) (l := l) hm).p; omega, by have := (uF_bs (n := n) (l := l) hm).k; omega⟩) rfl (fun b167 p167 => ?_)
            haveI : OneC ((openF (uF m n l)).1.c b167.1 (openP (uF m n l) z.2.1) b167.2) := ⟨St.c_one p167.1 (openP_sv hz.2.1) p167.2⟩
            refine wpl_q (q_pure rfl) rfl ?_
            refine wpl_q (q_pure rfl) rfl ?_
            refine wpl_q (q_pure rfl) rfl ?_
            refine wpl_t0 (t_stA Try.ti27 rfl rfl LenC.h OneC.h LenC.h) (fun _ => ?_)
            refine wpl_q (q_pure rfl) rfl ?_
            refine wpl_nil ?_
            refine ex_block ?_
            refine ex_then ?_
            refine wpc_cutc ({ x : Nat × Value × V3 × Nat × V3 // ((newF m n).2 = 0) ∧ (¬ 300 < l.length) ∧ (0 < l.length) ∧ (SV x.2.1 (eF m n l).length) ∧ ((lF m n l).sv x.2.2.1) ∧ ((lF m n l).sv x.2.2.2.2) }) [(2, lv)] (fun x Lc => (7, .bool true) :: (8, x.1.2.1) :: (9, .pointer (some ⟨x.1.1, 0, none⟩)) :: (18, .pointer (some ⟨x.1.2.2.2.1, 0, none⟩)) :: (19, .int .i64 (stepF (uF m n l) (xF l)).2.2) :: (20, .int .i64 (stepF (uF m n l) (xF l)).1) :: Lc) (fun x => Mem w [] [.blk x.1.2.2.2.1 27 ((lF m n l).c x.1.2.2.2.2.1 x.1.2.2.2.2.2.1 x.1.2.2.2.2.2.2), .blk x.1.1 27 ((lF m n l).c x.1.2.2.1.1 x.1.2.2.1.2.1 x.1.2.2.1.2.2), rRow x.1.2.1 (eF m n l), dRow x.1.2.2.1.1 (lF m n l).dk, dRow x.1.2.2.1.2.1 (lF m n l).pd, kRow x.1.2.2.1.2.2 (lF m n l).ks, dRow x.1.2.2.2.2.1 (lF m n l).dk, dRow x.1.2.2.2.2.2.1 (lF m n l).pd, kRow x.1.2.2.2.2.2.2 (lF m n l).ks] []) ?_ ?_
            ·
             refine wpc_seq ?_
             refine wpc_region ?_
             refine wpl_q (q_pure rfl) rfl ?_
             refine wpl_q (q_pure rfl) rfl ?_
             refine wpl_nil ?_
             refine ex_then ?_
             refine wpc_cond rfl (fun hc181 => ?_) (fun hc181 => ?_)
             ·
              simp only [bne_iff_ne, ne_eq] at hc181
              refine wpc_region ?_
              refine wpl_q (q_ldN Try.underlying27 rfl Try.ti27 rfl LenC.h) rfl ?_
              refine wpl_t0 (t_stA Try.ti27 rfl rfl LenC.h OneC.h LenC.h) (fun _ => ?_)
              refine wpl_nil ?_
              refine ex_mid ⟨(b9, av, ya, b18, z), by have e := (st_err hdo hc181).2.1; exact ⟨hnw, hsh, hl0, hav, hya, by rw [lF, e]; exact hz⟩⟩ ?_ ?_
              ·
               exact (let e := st_err hdo hc181; ⟨rfl, rfl, rfl, rfl, (congrArg (fun q : Int => some (Value.int .i64 q)) e.2.2.symm), (congrArg (fun q : Int => some (Value.int .i64 q)) e.1.symm), rfl, trivial⟩)
              ·
               exact fun w h => by have e := (st_err hdo hc181).2.1; have e2 : lF m n l = uF m n l := e; dsimp only; rw [e2] at h ⊢; exact h.sel
             ·
              simp only [bne_eq_false_iff_eq] at hc181
              refine wpc_skip ?_
              refine ex_mid ⟨(b9, av, ya, b18, (b167.1, z.2.1, b167.2)), by have e := (st_ok hdo hc181).2.1; have e2 : lF m n l = (openF (uF m n l)).1 := e; have ho := op2 (op_up hc181); have p := p167; rw [ho] at p; rw [ho] at e2; exact ⟨hnw, hsh, hl0, hav, hya, by rw [e2]; exact ⟨p.1, hz.2.1, p.2⟩⟩⟩ ?_ ?_
              ·
               exact (let e := st_ok hdo hc181; ⟨rfl, rfl, rfl, rfl, (congrArg (fun q : Int => some (Value.int .i64 q)) e.2.2.symm), (congrArg (fun q : Int => some (Value.int .i64 q)) e.1.symm), rfl, trivial⟩)
              ·
               exact fun w h => by have e := (st_ok hdo hc181).2.1; have e2 : lF m n l = (openF (uF m n l)).1 := e; have ho := op2 (op_up hc181); have hop := op2p (pv := z.2.1) (op_up hc181); rw [ho] at e2; rw [ho, hop] at h; dsimp only at h ⊢; rw [e2] at h ⊢; exact h.sel
            ·
             rintro ⟨⟨b9, av, ya, b18, y⟩, ⟨hi0, hi1, hi2, hi3, hi4, hi5⟩⟩; try dsimp only
             have hi0 : (newF m n).2 = 0 := hi0; have hi1 : ¬ 300 < l.length := hi1; have hi2 : 0 < l.length := hi2; have hi3 : SV av (eF m n l).length := hi3; have hi4 : (lF m n l).sv ya := hi4; have hi5 : (lF m n l).sv y := hi5
             have hnw : (newF m n).2 = 0 := hi0
             have hsh : ¬ 300 < l.length := hi1
             have hl0 : 0 < l.length := hi2
             have hel := eF_len (m := m) (n := n) hl0
             have hav := hi3
             have hya := hi4
             have hy := hi5
             haveI := OneC.sv hya
             haveI := OneC.sv hy
             refine wpc_seq ?_
             refine wpc_region ?_
             refine wpl_q (q_pure rfl) rfl ?_
             refine wpl_q (q_pure rfl) rfl ?_
             refine wpl_q (q_lenW Try.underlying56 rfl (by first | assumption | exact SV.nil | exact SV.slv (by assumption) (by omega) (by omega) | exact arv_sv (by first | decide | (simp only [maxLen]; omega)))) rfl ?_
             refine wpl_q (q_subN (b := 1) rfl rfl (by omega) (by first | omega | (simp only [maxLen]; omega) | (simp only [List.length_append, List.length_cons, List.length_nil, List.length_take, maxLen]; omega) | (simp only [List.length_append, List.length_cons, List.length_nil, List.length_take]; omega))) rfl ?_
             refine wpl_q (q_idxW Try.underlying53 Try.ti61 rfl rfl (by first | assumption | exact SV.nil | exact SV.slv (by assumption) (by omega) (by omega) | exact arv_sv (by first | decide | (simp only [maxLen]; omega))) (by first | omega | (simp only [maxLen]; omega) | (simp only [List.length_append, List.length_cons, List.length_nil, List.length_take, maxLen]; omega) | (simp only [List.length_append, List.length_cons, List.length_nil, List.length_take]; omega))) rfl ?_
             refine wpl_q (q_ldWN Try.underlying61 rfl Try.ti61 rfl (fun w h => by first | exact h.seenV | exact h.seenA (by first | decide | (simp only [maxLen]; omega)) (by first | with_reducible rfl | (simp only [v8s_length, v32s_length, vis_length, vns_length, v64s_length, List.length_replicate]; first | done | with_reducible assumption | omega) | (rw [v8s_length]; (first | with_reducible assumption | with_reducible exact shortF_length _ | with_reducible exact stepF_length _ _ _ | with_reducible exact sumF_length _ | with_reducible exact climbF_length _ (by first | with_reducible assumption | with_reducible exact shortF_length _ | with_reducible exact beginF_length _ _ | with_reducible exact getD_mem_len (by assumption) (by omega)) _ _ _ | with_reducible exact beginF_length _ _ | with_reducible exact chainF_length _ _ _ | with_reducible exact recF_length _ _ | with_reducible exact publicF_length _ | with_reducible exact getD_mem_len (by assumption) (by omega) | (with_reducible exact List.length_replicate))) | rfl) | exact h.seen_old (by assumption) | exact h.seen_oldL (by assumption) (by assumption) | exact h.seen_fact (by repeat (first | exact List.mem_cons_self .. | apply List.mem_cons_of_mem))) (resC ((stepF (uF m n l) (xF l)).1, (stepF (uF m n l) (xF l)).2.2)) (by rw [cat_part (c := resC) (k := 2) (fun _ => rfl) (0, 0) (by omega), eF_last hl0]) rfl) rfl ?_
             refine wpl_t (t_alloc Try.ti61 [.int .i64 0, .int .i64 0] rfl) rfl (fun b21 => ?_)
             refine wpl_t0 (t_stA Try.ti61 rfl rfl LenC.h OneC.h LenC.h) (fun _ => ?_)
             refine wpl_nil ?_
             refine ex_then ?_
             refine wpc_seq ?_
             refine wpc_region ?_
             refine wpl_q (q_pure rfl) rfl ?_
             refine wpl_q (q_pure rfl) rfl ?_
             refine wpl_on rfl rfl ?_
             refine wpl_q (q_field Try.underlying61 rfl Try.ti31 rfl rfl _ rfl) rfl ?_
             refine wpl_on rfl rfl ?_
             refine wpl_q (q_ld Try.underlying31 rfl rfl (by first | exact vns_get (by first | decide | omega | exact Nat.zero_lt_one | (simp; omega) | (simp; done) | (simp only [v8s_length, v32s_length, vis_length, vns_length, v64s_length]; omega)) | rfl)) rfl ?_
             refine wpl_on rfl rfl ?_
             refine wpl_q (q_pure rfl) rfl ?_
             refine wpl_on rfl rfl ?_
             refine wpl_q (q_tru (q_eqI rfl rfl) rfl) rfl ?_
             refine wpl_q (q_pure rfl) rfl ?_
             refine wpl_q (q_pure rfl) rfl ?_
             refine wpl_on rfl rfl ?_
             refine wpl_q (q_field Try.underlying61 rfl Try.ti3 rfl rfl _ rfl) rfl ?_
             refine wpl_on rfl rfl ?_
             refine wpl_q (q_ld Try.underlying3 rfl rfl (by first | exact vns_get (by first | decide | omega | exact Nat.zero_lt_one | (simp; omega) | (simp; done) | (simp only [v8s_length, v32s_length, vis_length, vns_length, v64s_length]; omega)) | rfl)) rfl ?_
             refine wpl_on rfl rfl ?_
             refine wpl_q (q_pure rfl) rfl ?_
             refine wpl_on rfl rfl ?_
             refine wpl_q (q_tru (q_eqI rfl rfl) rfl) rfl ?_
             refine wpl_q (q_pure rfl) rfl ?_
             refine wpl_q (q_pure rfl) rfl ?_
             refine wpl_on rfl rfl ?_
             refine wpl_q (q_ldN Try.underlying27 rfl Try.ti27 rfl LenC.h) rfl ?_
             refine wpl_on rfl rfl ?_
             refine wpl_q (q_ldN Try.underlying27 rfl Try.ti27 rfl LenC.h) rfl ?_
             refine wpl_on rfl rfl ?_
             refine wpl_t (t_pur (v := .bool true) Try.hb19 rfl fun w h => sameSt (lF m n l) ya y w (lF_bs hm).m h.seenV h.seenV h.seenV h.seenV h.seenV h.seenV) rfl (fun b205 => ?_)
             refine wpl_q (q_pure rfl) rfl ?_
             refine wpl_q (q_pure rfl) rfl ?_
             refine wpl_nil ?_
             refine ex_then ?_
             refine wpc_ret ?_
             refine ret1 (.inl rfl) rfl rfl ?_
             exact fun w h => ⟨rfl, h.below⟩
           ·
            have hn6 : ¬ (xF l).kd = 6 := by simpa using hc163
            refine wpc_seq ?_
            refine wpc_region ?_
            refine wpl_q (q8_eql (b := (7 : UInt8)) rfl rfl) rfl ?_
            refine wpl_q (q_pure rfl) rfl ?_
            refine wpl_nil ?_
            refine ex_then ?_
            refine wpc_cond rfl (fun hc170 => ?_) (fun hc170 => ?_)
            ·
             have hk : (xF l).kd = 7 := by simpa using hc170
             have hdo := do_7 (s := uF m n l) hk
             refine wpc_region ?_
             refine wpl_q (q_ldN Try.underlying27 rfl Try.ti27 rfl LenC.h) rfl ?_
             refine wpl_q (q_field Try.underlying58 rfl Try.ti28 rfl rfl _ rfl) rfl ?_
             refine wpl_q (q_ld Try.underlying28 rfl rfl (by first | exact v32s_get (by first | decide | omega | exact Nat.zero_lt_one | (simp; omega) | (simp; done) | (simp only [v8s_length, v32s_length, vis_length, vns_length, v64s_length]; omega)) | rfl)) rfl ?_
             refine wpl_tp (t_callP3 Try.hb17 rfl fun w h => take_ (uF m n l) z.1 z.2.1 z.2.2 (xF l).id w ⟨(uF_bs hm).m, h.seenV, h.seenV, h.seenV, by have := (uF_bs (n := n) (l := l) hm).d; omega, by have := (uF_bs (n := n) (l := l) hm).p; omega, by have := (uF_bs (n := n) (l := l) hm).k; omega⟩) rfl (fun b176 p176 => ?_)
             haveI := OneC.sv p176
             refine wpl_q (q_pure rfl) rfl ?_
             refine wpl_q (q_pure rfl) rfl ?_
             refine wpl_q (q_pure rfl) rfl ?_
             refine wpl_q (q_pure rfl) rfl ?_
             refine wpl_q (q_pure rfl) rfl ?_
             refine wpl_t0 (t_stA Try.ti27 rfl rfl LenC.h OneC.h LenC.h) (fun _ => ?_)
             refine wpl_q (q_pure rfl) rfl ?_
             refine wpl_nil ?_
             refine ex_block ?_
             refine ex_then ?_
             refine wpc_cutc ({ x : Nat × Value × V3 × Nat × V3 // ((newF m n).2 = 0) ∧ (¬ 300 < l.length) ∧ (0 < l.length) ∧ (SV x.2.1 (eF m n l).length) ∧ ((lF m n l).sv x.2.2.1) ∧ ((lF m n l).sv x.2.2.2.2) }) [(2, lv)] (fun x Lc => (7, .bool true) :: (8, x.1.2.1) :: (9, .pointer (some ⟨x.1.1, 0, none⟩)) :: (18, .pointer (some ⟨x.1.2.2.2.1, 0, none⟩)) :: (19, .int .i64 (stepF (uF m n l) (xF l)).2.2) :: (20, .int .i64 (stepF (uF m n l) (xF l)).1) :: Lc) (fun x => Mem w [] [.blk x.1.2.2.2.1 27 ((lF m n l).c x.1.2.2.2.2.1 x.1.2.2.2.2.2.1 x.1.2.2.2.2.2.2), .blk x.1.1 27 ((lF m n l).c x.1.2.2.1.1 x.1.2.2.1.2.1 x.1.2.2.1.2.2), rRow x.1.2.1 (eF m n l), dRow x.1.2.2.1.1 (lF m n l).dk, dRow x.1.2.2.1.2.1 (lF m n l).pd, kRow x.1.2.2.1.2.2 (lF m n l).ks, dRow x.1.2.2.2.2.1 (lF m n l).dk, dRow x.1.2.2.2.2.2.1 (lF m n l).pd, kRow x.1.2.2.2.2.2.2 (lF m n l).ks] []) ?_ ?_
             ·
              refine wpc_seq ?_
              refine wpc_region ?_
              refine wpl_q (q_pure rfl) rfl ?_
              refine wpl_q (q_pure rfl) rfl ?_
              refine wpl_nil ?_
              refine ex_then ?_
              refine wpc_cond rfl (fun hc181 => ?_) (fun hc181 => ?_)
              ·
               simp only [bne_iff_ne, ne_eq] at hc181
               refine wpc_region ?_
               refine wpl_q (q_ldN Try.underlying27 rfl Try.ti27 rfl LenC.h) rfl ?_
               refine wpl_t0 (t_stA Try.ti27 rfl rfl LenC.h OneC.h LenC.h) (fun _ => ?_)
               refine wpl_nil ?_
               refine ex_mid ⟨(b9, av, ya, b18, z), by have e := (st_err hdo hc181).2.1; exact ⟨hnw, hsh, hl0, hav, hya, by rw [lF, e]; exact hz⟩⟩ ?_ ?_
               ·
                exact (let e := st_err hdo hc181; ⟨rfl, rfl, rfl, rfl, (congrArg (fun q : Int => some (Value.int .i64 q)) e.2.2.symm), (congrArg (fun q : Int => some (Value.int .i64 q)) e.1.symm), rfl, trivial⟩)
               ·
                exact fun w h => by have e := (st_err hdo hc181).2.1; have e2 : lF m n l = uF m n l := e; dsimp only; rw [e2] at h ⊢; exact h.sel
              ·
               simp only [bne_eq_false_iff_eq] at hc181
               refine wpc_skip ?_
               refine ex_mid ⟨(b9, av, ya, b18, b176), by have e := (st_ok hdo hc181).2.1; have e2 : lF m n l = (takeF (uF m n l) (xF l).id).2.1 := e; exact ⟨hnw, hsh, hl0, hav, hya, by rw [e2]; exact p176⟩⟩ ?_ ?_
               ·
                exact (let e := st_ok hdo hc181; ⟨rfl, rfl, rfl, rfl, (congrArg (fun q : Int => some (Value.int .i64 q)) e.2.2.symm), (congrArg (fun q : Int => some (Value.int .i64 q)) e.1.symm), rfl, trivial⟩)
               ·
                exact fun w h => by have e := (st_ok hdo hc181).2.1; have e2 : lF m n l = (takeF (uF m n l) (xF l).id).2.1 := e; dsimp only; rw [e2] at h ⊢; exact h.sel
             ·
              rintro ⟨⟨b9, av, ya, b18, y⟩, ⟨hi0, hi1, hi2, hi3, hi4, hi5⟩⟩; try dsimp only
              have hi0 : (newF m n).2 = 0 := hi0; have hi1 : ¬ 300 < l.length := hi1; have hi2 : 0 < l.length := hi2; have hi3 : SV av (eF m n l).length := hi3; have hi4 : (lF m n l).sv ya := hi4; have hi5 : (lF m n l).sv y := hi5
              have hnw : (newF m n).2 = 0 := hi0
              have hsh : ¬ 300 < l.length := hi1
              have hl0 : 0 < l.length := hi2
              have hel := eF_len (m := m) (n := n) hl0
              have hav := hi3
              have hya := hi4
              have hy := hi5
              haveI := OneC.sv hya
              haveI := OneC.sv hy
              refine wpc_seq ?_
              refine wpc_region ?_
              refine wpl_q (q_pure rfl) rfl ?_
              refine wpl_q (q_pure rfl) rfl ?_
              refine wpl_q (q_lenW Try.underlying56 rfl (by first | assumption | exact SV.nil | exact SV.slv (by assumption) (by omega) (by omega) | exact arv_sv (by first | decide | (simp only [maxLen]; omega)))) rfl ?_
              refine wpl_q (q_subN (b := 1) rfl rfl (by omega) (by first | omega | (simp only [maxLen]; omega) | (simp only [List.length_append, List.length_cons, List.length_nil, List.length_take, maxLen]; omega) | (simp only [List.length_append, List.length_cons, List.length_nil, List.length_take]; omega))) rfl ?_
              refine wpl_q (q_idxW Try.underlying53 Try.ti61 rfl rfl (by first | assumption | exact SV.nil | exact SV.slv (by assumption) (by omega) (by omega) | exact arv_sv (by first | decide | (simp only [maxLen]; omega))) (by first | omega | (simp only [maxLen]; omega) | (simp only [List.length_append, List.length_cons, List.length_nil, List.length_take, maxLen]; omega) | (simp only [List.length_append, List.length_cons, List.length_nil, List.length_take]; omega))) rfl ?_
              refine wpl_q (q_ldWN Try.underlying61 rfl Try.ti61 rfl (fun w h => by first | exact h.seenV | exact h.seenA (by first | decide | (simp only [maxLen]; omega)) (by first | with_reducible rfl | (simp only [v8s_length, v32s_length, vis_length, vns_length, v64s_length, List.length_replicate]; first | done | with_reducible assumption | omega) | (rw [v8s_length]; (first | with_reducible assumption | with_reducible exact shortF_length _ | with_reducible exact stepF_length _ _ _ | with_reducible exact sumF_length _ | with_reducible exact climbF_length _ (by first | with_reducible assumption | with_reducible exact shortF_length _ | with_reducible exact beginF_length _ _ | with_reducible exact getD_mem_len (by assumption) (by omega)) _ _ _ | with_reducible exact beginF_length _ _ | with_reducible exact chainF_length _ _ _ | with_reducible exact recF_length _ _ | with_reducible exact publicF_length _ | with_reducible exact getD_mem_len (by assumption) (by omega) | (with_reducible exact List.length_replicate))) | rfl) | exact h.seen_old (by assumption) | exact h.seen_oldL (by assumption) (by assumption) | exact h.seen_fact (by repeat (first | exact List.mem_cons_self .. | apply List.mem_cons_of_mem))) (resC ((stepF (uF m n l) (xF l)).1, (stepF (uF m n l) (xF l)).2.2)) (by rw [cat_part (c := resC) (k := 2) (fun _ => rfl) (0, 0) (by omega), eF_last hl0]) rfl) rfl ?_
              refine wpl_t (t_alloc Try.ti61 [.int .i64 0, .int .i64 0] rfl) rfl (fun b21 => ?_)
              refine wpl_t0 (t_stA Try.ti61 rfl rfl LenC.h OneC.h LenC.h) (fun _ => ?_)
              refine wpl_nil ?_
              refine ex_then ?_
              refine wpc_seq ?_
              refine wpc_region ?_
              refine wpl_q (q_pure rfl) rfl ?_
              refine wpl_q (q_pure rfl) rfl ?_
              refine wpl_on rfl rfl ?_
              refine wpl_q (q_field Try.underlying61 rfl Try.ti31 rfl rfl _ rfl) rfl ?_
              refine wpl_on rfl rfl ?_
              refine wpl_q (q_ld Try.underlying31 rfl rfl (by first | exact vns_get (by first | decide | omega | exact Nat.zero_lt_one | (simp; omega) | (simp; done) | (simp only [v8s_length, v32s_length, vis_length, vns_length, v64s_length]; omega)) | rfl)) rfl ?_
              refine wpl_on rfl rfl ?_
              refine wpl_q (q_pure rfl) rfl ?_
              refine wpl_on rfl rfl ?_
              refine wpl_q (q_tru (q_eqI rfl rfl) rfl) rfl ?_
              refine wpl_q (q_pure rfl) rfl ?_
              refine wpl_q (q_pure rfl) rfl ?_
              refine wpl_on rfl rfl ?_
              refine wpl_q (q_field Try.underlying61 rfl Try.ti3 rfl rfl _ rfl) rfl ?_
              refine wpl_on rfl rfl ?_
              refine wpl_q (q_ld Try.underlying3 rfl rfl (by first | exact vns_get (by first | decide | omega | exact Nat.zero_lt_one | (simp; omega) | (simp; done) | (simp only [v8s_length, v32s_length, vis_length, vns_length, v64s_length]; omega)) | rfl)) rfl ?_
              refine wpl_on rfl rfl ?_
              refine wpl_q (q_pure rfl) rfl ?_
              refine wpl_on rfl rfl ?_
              refine wpl_q (q_tru (q_eqI rfl rfl) rfl) rfl ?_
              refine wpl_q (q_pure rfl) rfl ?_
              refine wpl_q (q_pure rfl) rfl ?_
              refine wpl_on rfl rfl ?_
              refine wpl_q (q_ldN Try.underlying27 rfl Try.ti27 rfl LenC.h) rfl ?_
              refine wpl_on rfl rfl ?_
              refine wpl_q (q_ldN Try.underlying27 rfl Try.ti27 rfl LenC.h) rfl ?_
              refine wpl_on rfl rfl ?_
              refine wpl_t (t_pur (v := .bool true) Try.hb19 rfl fun w h => sameSt (lF m n l) ya y w (lF_bs hm).m h.seenV h.seenV h.seenV h.seenV h.seenV h.seenV) rfl (fun b205 => ?_)
              refine wpl_q (q_pure rfl) rfl ?_
              refine wpl_q (q_pure rfl) rfl ?_
              refine wpl_nil ?_
              refine ex_then ?_
              refine wpc_ret ?_
              refine ret1 (.inl rfl) rfl rfl ?_
              exact fun w h => ⟨rfl, h.below⟩
            ·
             have hn7 : ¬ (xF l).kd = 7 := by simpa using hc170
             have hdo := do_0 (s := uF m n l) hn1 hn2 hn3 hn4 hn5 hn6 hn7
             refine wpc_skip ?_
             refine ex_block ?_
             refine ex_then ?_
             refine wpc_cutc ({ x : Nat × Value × V3 × Nat × V3 // ((newF m n).2 = 0) ∧ (¬ 300 < l.length) ∧ (0 < l.length) ∧ (SV x.2.1 (eF m n l).length) ∧ ((lF m n l).sv x.2.2.1) ∧ ((lF m n l).sv x.2.2.2.2) }) [(2, lv)] (fun x Lc => (7, .bool true) :: (8, x.1.2.1) :: (9, .pointer (some ⟨x.1.1, 0, none⟩)) :: (18, .pointer (some ⟨x.1.2.2.2.1, 0, none⟩)) :: (19, .int .i64 (stepF (uF m n l) (xF l)).2.2) :: (20, .int .i64 (stepF (uF m n l) (xF l)).1) :: Lc) (fun x => Mem w [] [.blk x.1.2.2.2.1 27 ((lF m n l).c x.1.2.2.2.2.1 x.1.2.2.2.2.2.1 x.1.2.2.2.2.2.2), .blk x.1.1 27 ((lF m n l).c x.1.2.2.1.1 x.1.2.2.1.2.1 x.1.2.2.1.2.2), rRow x.1.2.1 (eF m n l), dRow x.1.2.2.1.1 (lF m n l).dk, dRow x.1.2.2.1.2.1 (lF m n l).pd, kRow x.1.2.2.1.2.2 (lF m n l).ks, dRow x.1.2.2.2.2.1 (lF m n l).dk, dRow x.1.2.2.2.2.2.1 (lF m n l).pd, kRow x.1.2.2.2.2.2.2 (lF m n l).ks] []) ?_ ?_
             ·
              refine wpc_seq ?_
              refine wpc_region ?_
              refine wpl_q (q_pure rfl) rfl ?_
              refine wpl_q (q_pure rfl) rfl ?_
              refine wpl_nil ?_
              refine ex_then ?_
              refine wpc_cond rfl (fun hc181 => ?_) (fun hc181 => ?_)
              ·
               simp only [bne_iff_ne, ne_eq] at hc181
               refine wpc_region ?_
               refine wpl_q (q_ldN Try.underlying27 rfl Try.ti27 rfl LenC.h) rfl ?_
               refine wpl_t0 (t_stA Try.ti27 rfl rfl LenC.h OneC.h LenC.h) (fun _ => ?_)
               refine wpl_nil ?_
               refine ex_mid ⟨(b9, av, ya, b18, z), by have e := (st_err hdo hc181).2.1; exact ⟨hnw, hsh, hl0, hav, hya, by rw [lF, e]; exact hz⟩⟩ ?_ ?_
               ·
                exact (let e := st_err hdo hc181; ⟨rfl, rfl, rfl, rfl, (congrArg (fun q : Int => some (Value.int .i64 q)) e.2.2.symm), (congrArg (fun q : Int => some (Value.int .i64 q)) e.1.symm), rfl, trivial⟩)
               ·
                exact fun w h => by have e := (st_err hdo hc181).2.1; have e2 : lF m n l = uF m n l := e; dsimp only; rw [e2] at h ⊢; exact h.sel
              ·
               simp only [bne_eq_false_iff_eq] at hc181
               refine wpc_skip ?_
               refine ex_mid ⟨(b9, av, ya, b18, z), by exact absurd hc181 (by decide)⟩ ?_ ?_
               ·
                exact absurd hc181 (by decide)
               ·
                exact fun w h => absurd hc181 (by decide)
             ·
              rintro ⟨⟨b9, av, ya, b18, y⟩, ⟨hi0, hi1, hi2, hi3, hi4, hi5⟩⟩; try dsimp only
              have hi0 : (newF m n).2 = 0 := hi0; have hi1 : ¬ 300 < l.length := hi1; have hi2 : 0 < l.length := hi2; have hi3 : SV av (eF m n l).length := hi3; have hi4 : (lF m n l).sv ya := hi4; have hi5 : (lF m n l).sv y := hi5
              have hnw : (newF m n).2 = 0 := hi0
              have hsh : ¬ 300 < l.length := hi1
              have hl0 : 0 < l.length := hi2
              have hel := eF_len (m := m) (n := n) hl0
              have hav := hi3
              have hya := hi4
              have hy := hi5
              haveI := OneC.sv hya
              haveI := OneC.sv hy
              refine wpc_seq ?_
              refine wpc_region ?_
              refine wpl_q (q_pure rfl) rfl ?_
              refine wpl_q (q_pure rfl) rfl ?_
              refine wpl_q (q_lenW Try.underlying56 rfl (by first | assumption | exact SV.nil | exact SV.slv (by assumption) (by omega) (by omega) | exact arv_sv (by first | decide | (simp only [maxLen]; omega)))) rfl ?_
              refine wpl_q (q_subN (b := 1) rfl rfl (by omega) (by first | omega | (simp only [maxLen]; omega) | (simp only [List.length_append, List.length_cons, List.length_nil, List.length_take, maxLen]; omega) | (simp only [List.length_append, List.length_cons, List.length_nil, List.length_take]; omega))) rfl ?_
              refine wpl_q (q_idxW Try.underlying53 Try.ti61 rfl rfl (by first | assumption | exact SV.nil | exact SV.slv (by assumption) (by omega) (by omega) | exact arv_sv (by first | decide | (simp only [maxLen]; omega))) (by first | omega | (simp only [maxLen]; omega) | (simp only [List.length_append, List.length_cons, List.length_nil, List.length_take, maxLen]; omega) | (simp only [List.length_append, List.length_cons, List.length_nil, List.length_take]; omega))) rfl ?_
              refine wpl_q (q_ldWN Try.underlying61 rfl Try.ti61 rfl (fun w h => by first | exact h.seenV | exact h.seenA (by first | decide | (simp only [maxLen]; omega)) (by first | with_reducible rfl | (simp only [v8s_length, v32s_length, vis_length, vns_length, v64s_length, List.length_replicate]; first | done | with_reducible assumption | omega) | (rw [v8s_length]; (first | with_reducible assumption | with_reducible exact shortF_length _ | with_reducible exact stepF_length _ _ _ | with_reducible exact sumF_length _ | with_reducible exact climbF_length _ (by first | with_reducible assumption | with_reducible exact shortF_length _ | with_reducible exact beginF_length _ _ | with_reducible exact getD_mem_len (by assumption) (by omega)) _ _ _ | with_reducible exact beginF_length _ _ | with_reducible exact chainF_length _ _ _ | with_reducible exact recF_length _ _ | with_reducible exact publicF_length _ | with_reducible exact getD_mem_len (by assumption) (by omega) | (with_reducible exact List.length_replicate))) | rfl) | exact h.seen_old (by assumption) | exact h.seen_oldL (by assumption) (by assumption) | exact h.seen_fact (by repeat (first | exact List.mem_cons_self .. | apply List.mem_cons_of_mem))) (resC ((stepF (uF m n l) (xF l)).1, (stepF (uF m n l) (xF l)).2.2)) (by rw [cat_part (c := resC) (k := 2) (fun _ => rfl) (0, 0) (by omega), eF_last hl0]) rfl) rfl ?_
              refine wpl_t (t_alloc Try.ti61 [.int .i64 0, .int .i64 0] rfl) rfl (fun b21 => ?_)
              refine wpl_t0 (t_stA Try.ti61 rfl rfl LenC.h OneC.h LenC.h) (fun _ => ?_)
              refine wpl_nil ?_
              refine ex_then ?_
              refine wpc_seq ?_
              refine wpc_region ?_
              refine wpl_q (q_pure rfl) rfl ?_
              refine wpl_q (q_pure rfl) rfl ?_
              refine wpl_on rfl rfl ?_
              refine wpl_q (q_field Try.underlying61 rfl Try.ti31 rfl rfl _ rfl) rfl ?_
              refine wpl_on rfl rfl ?_
              refine wpl_q (q_ld Try.underlying31 rfl rfl (by first | exact vns_get (by first | decide | omega | exact Nat.zero_lt_one | (simp; omega) | (simp; done) | (simp only [v8s_length, v32s_length, vis_length, vns_length, v64s_length]; omega)) | rfl)) rfl ?_
              refine wpl_on rfl rfl ?_
              refine wpl_q (q_pure rfl) rfl ?_
              refine wpl_on rfl rfl ?_
              refine wpl_q (q_tru (q_eqI rfl rfl) rfl) rfl ?_
              refine wpl_q (q_pure rfl) rfl ?_
              refine wpl_q (q_pure rfl) rfl ?_
              refine wpl_on rfl rfl ?_
              refine wpl_q (q_field Try.underlying61 rfl Try.ti3 rfl rfl _ rfl) rfl ?_
              refine wpl_on rfl rfl ?_
              refine wpl_q (q_ld Try.underlying3 rfl rfl (by first | exact vns_get (by first | decide | omega | exact Nat.zero_lt_one | (simp; omega) | (simp; done) | (simp only [v8s_length, v32s_length, vis_length, vns_length, v64s_length]; omega)) | rfl)) rfl ?_
              refine wpl_on rfl rfl ?_
              refine wpl_q (q_pure rfl) rfl ?_
              refine wpl_on rfl rfl ?_
              refine wpl_q (q_tru (q_eqI rfl rfl) rfl) rfl ?_
              refine wpl_q (q_pure rfl) rfl ?_
              refine wpl_q (q_pure rfl) rfl ?_
              refine wpl_on rfl rfl ?_
              refine wpl_q (q_ldN Try.underlying27 rfl Try.ti27 rfl LenC.h) rfl ?_
              refine wpl_on rfl rfl ?_
              refine wpl_q (q_ldN Try.underlying27 rfl Try.ti27 rfl LenC.h) rfl ?_
              refine wpl_on rfl rfl ?_
              refine wpl_t (t_pur (v := .bool true) Try.hb19 rfl fun w h => sameSt (lF m n l) ya y w (lF_bs hm).m h.seenV h.seenV h.seenV h.seenV h.seenV h.seenV) rfl (fun b205 => ?_)
              refine wpl_q (q_pure rfl) rfl ?_
              refine wpl_q (q_pure rfl) rfl ?_
              refine wpl_nil ?_
              refine ex_then ?_
              refine wpc_ret ?_
              refine ret1 (.inl rfl) rfl rfl ?_
              exact fun w h => ⟨rfl, h.below⟩

end Go.Proofs.Ytoaeklbenmlooaa
