/- The law KeystoreOnce returns true. -/
import Derived.Test.YtoaeklbenmlooaaKAJ
import Derived.Test.YtoaeklbenmlooaaKAE
namespace Go.Proofs.Ytoaeklbenmlooaa
set_option linter.unusedSimpArgs false
set_option linter.unusedVariables false
open Go Go.PL Go.RowKit

theorem pl_err {m : List UInt8} {n : Int} {l : List Stp} (h : ¬ (playF m n l).2.2 = 0) : (playF m n l).1 = [] ∧ (playF m n l).2.1 = St.z := by
  by_cases h1 : (newF m n).2 = 0
  · by_cases h2 : 300 < l.length
    · rw [pl2 h1 h2]; exact ⟨rfl, rfl⟩
    · rw [pl3 h1 h2] at h; exact absurd rfl h
  · rw [pl1 h1]; exact ⟨rfl, rfl⟩
theorem pl_run {m : List UInt8} {n : Int} {l : List Stp} (h : (playF m n l).2.2 = 0) : (playF m n l).1 = (runF l (newF m n).1).1 ∧ ChkP (playF m n l).2.1 := by
  by_cases h1 : (newF m n).2 = 0
  · by_cases h2 : 300 < l.length
    · rw [pl2 h1 h2] at h; cases h
    · rw [pl3 h1 h2]; exact ⟨rfl, runF_chk l (newF_chk h1)⟩
  · rw [pl1 h1] at h; exact absurd h h1
theorem sameZ (s : St) (e : s = St.z) (a : V3) (w : World) (h1 : Seen w.cell? a.1 s.dk.length 1 (v8s s.dk)) (h2 : Seen w.cell? a.2.1 s.pd.length 1 (v8s s.pd)) (h3 : Seen w.cell? a.2.2 s.ks.length 6 (kcs s.ks)) : Calls Try.prog 19 [.agg (s.c a.1 a.2.1 a.2.2).toArray, .agg (St.z.c nl nl nl).toArray].toArray w (Pur w (.bool true)) := by
  subst e
  exact refSame_ St.z a.1 a.2.1 a.2.2 nl nl nl w rfl h1 h2 h3 (seen_nil _ _) (seen_nil _ _) (seen_nil _ _)

set_option maxRecDepth 100000 in
theorem lawOnce (m : List UInt8) (n : Int) (lv : Value) (l : List Stp) (w : World) (hm : m.length = 32) (hlv : Seen w.cell? lv l.length 3 (scs l))  :
    Calls Try.prog 6 [.agg (v8s m).toArray, .int .i64 n, lv].toArray w (Pur w (.bool true)) := by
  have slv := hlv.sv
  have lllv := slv.le
  simp only [maxLen] at lllv
  haveI : LenL m 32 := ⟨hm⟩
  haveI : L32 (playF m n l).2.1 := ⟨(playF_bs hm).m⟩
  refine enter (m := 125) (R := Mem w [] [] []) Try.func6 rfl rfl (Nat.le_of_ble_eq_true rfl) (Mem.start w) ?_
  refine wpc_seq ?_
  refine wpc_region ?_
  refine wpl_t (t_box rfl (v8s m) rfl) rfl (fun b3 => ?_)
  refine wpl_q (q_pure rfl) rfl ?_
  refine wpl_nil ?_
  refine ex_then ?_
  refine wpc_seq ?_
  refine wpc_region ?_
  refine wpl_t (t_pur Try.hb33 rfl fun w h => alive w) rfl (fun b13 => ?_)
  refine wpl_q (q_pure rfl) rfl ?_
  refine wpl_nil ?_
  refine ex_then ?_
  refine wpc_seq ?_
  refine wpc_seq ?_
  refine wpc_region ?_
  refine wpl_q (q_pure rfl) rfl ?_
  refine wpl_q (q_lenW Try.underlying56 rfl (by first | assumption | exact SV.nil | exact SV.slv (by assumption) (by omega) (by omega) | exact arv_sv (by first | decide | (simp only [maxLen]; omega)))) rfl ?_
  refine wpl_q (q_pure rfl) rfl ?_
  refine wpl_q (q_pure rfl) rfl ?_
  refine wpl_bool2 17 16 rfl rfl (fun hb17 => ?_) (fun hb17 => ?_)
  ·
   try simp only [decide_eq_true_eq, decide_eq_false_iff_not, Bool.and_eq_true, Bool.or_eq_true, beq_iff_eq, bne_iff_ne, ne_eq, Bool.not_eq_true', Bool.not_eq_false', Decidable.not_not] at hb17
   refine wpl_off rfl rfl rfl rfl ?_
   refine wpl_off rfl rfl rfl rfl ?_
   refine wpl_q (q_pure rfl) rfl ?_
   refine wpl_nil ?_
   refine ex_then ?_
   refine wpc_cond_t rfl ?_
   refine wpc_seq ?_
   refine wpc_region ?_
   refine wpl_q (q_pure rfl) rfl ?_
   refine wpl_q (q_pure rfl) rfl ?_
   refine wpl_nil ?_
   refine ex_then ?_
   refine wpc_ret ?_
   refine ex_then_ret ?_
   refine ret1 (.inl rfl) rfl rfl ?_
   exact fun w h => ⟨rfl, h.below⟩
  ·
   try simp only [decide_eq_true_eq, decide_eq_false_iff_not, Bool.and_eq_true, Bool.or_eq_true, beq_iff_eq, bne_iff_ne, ne_eq, Bool.not_eq_true', Bool.not_eq_false', Decidable.not_not] at hb17
   refine wpl_on rfl rfl ?_
   refine wpl_q (q_pure rfl) rfl ?_
   refine wpl_on rfl rfl ?_
   refine wpl_q (q_pure rfl) rfl ?_
   refine wpl_q (q_pure rfl) rfl ?_
   refine wpl_nil ?_
   refine ex_then ?_
   refine wpc_cond_f rfl ?_
   refine wpc_skip ?_
   refine ex_then ?_
   refine wpc_seq ?_
   refine wpc_region ?_
   refine wpl_q (q_ldN Try.underlying23 rfl Try.ti23 rfl LenC.h) rfl ?_
   refine wpl_q (q_pure rfl) rfl ?_
   refine wpl_q (q_pure rfl) rfl ?_
   refine wpl_tp (t_callP4 Try.hb31 rfl fun w h => play m n lv l w hm (h.seen_old hlv)) rfl (fun b26 p26 => ?_)
   haveI := OneC.sv p26.2
   have sp26 := p26.1
   refine wpl_q (q_pure rfl) rfl ?_
   refine wpl_q (q_pure rfl) rfl ?_
   refine wpl_q (q_pure rfl) rfl ?_
   refine wpl_q (q_pure rfl) rfl ?_
   refine wpl_t (t_alloc Try.ti27 (St.z.c nl nl nl) rfl) rfl (fun b9 => ?_)
   refine wpl_q (q_pure (v := b26.1) rfl) rfl ?_
   refine wpl_t0 (t_stA Try.ti27 rfl rfl LenC.h OneC.h LenC.h) (fun _ => ?_)
   refine wpl_q (q_pure rfl) rfl ?_
   refine wpl_nil ?_
   refine ex_then ?_
   refine wpc_seq ?_
   refine wpc_seq ?_
   refine wpc_region ?_
   refine wpl_q (q_pure rfl) rfl ?_
   refine wpl_q (q_pure rfl) rfl ?_
   refine wpl_nil ?_
   refine ex_then ?_
   refine wpc_cond rfl (fun hc31 => ?_) (fun hc31 => ?_)
   ·
    have hpe := pl_err (m := m) (n := n) (l := l) (by simpa using hc31)
    refine wpc_seq ?_
    refine wpc_region ?_
    refine wpl_q (q_pure rfl) rfl ?_
    refine wpl_q (q_pure rfl) rfl ?_
    refine wpl_on rfl rfl ?_
    refine wpl_q (q_pure rfl) rfl ?_
    refine wpl_on rfl rfl ?_
    refine wpl_q (q_lenW Try.underlying53 rfl (by first | assumption | exact SV.nil | exact SV.slv (by assumption) (by omega) (by omega) | exact arv_sv (by first | decide | (simp only [maxLen]; omega)))) rfl ?_
    refine wpl_on rfl rfl ?_
    refine wpl_q (q_tru (q_eqI rfl rfl) (by rw [hpe.1]; rfl)) rfl ?_
    refine wpl_q (q_pure rfl) rfl ?_
    refine wpl_q (q_pure rfl) rfl ?_
    refine wpl_on rfl rfl ?_
    refine wpl_q (q_ldN Try.underlying27 rfl Try.ti27 rfl LenC.h) rfl ?_
    refine wpl_on rfl rfl ?_
    refine wpl_q (q_build (cs := St.z.c nl nl nl) rfl built_st0) rfl ?_
    refine wpl_on rfl rfl ?_
    refine wpl_t (t_pur (v := .bool true) Try.hb19 rfl fun w h => sameZ (playF m n l).2.1 hpe.2 b26.2 w h.seenV h.seenV h.seenV) rfl (fun b41 => ?_)
    refine wpl_q (q_pure rfl) rfl ?_
    refine wpl_q (q_pure rfl) rfl ?_
    refine wpl_nil ?_
    refine ex_then ?_
    refine wpc_ret ?_
    refine ex_then_ret ?_
    refine ret1 (.inl rfl) rfl rfl ?_
    exact fun w h => ⟨rfl, h.below⟩
   ·
    have hok : (playF m n l).2.2 = 0 := by simpa using hc31
    obtain ⟨hP1, hck⟩ := pl_run hok
    have hrl : (playF m n l).1.length = l.length := by rw [hP1, runF_len]
    refine wpc_skip ?_
    refine ex_then ?_
    refine wpc_seq ?_
    refine wpc_seq ?_
    refine wpc_region ?_
    refine wpl_q (q_pure rfl) rfl ?_
    refine wpl_q (q_lenW Try.underlying53 rfl (by first | assumption | exact SV.nil | exact SV.slv (by assumption) (by omega) (by omega) | exact arv_sv (by first | decide | (simp only [maxLen]; omega)))) rfl ?_
    refine wpl_q (q_pure rfl) rfl ?_
    refine wpl_q (q_lenW Try.underlying56 rfl (by first | assumption | exact SV.nil | exact SV.slv (by assumption) (by omega) (by omega) | exact arv_sv (by first | decide | (simp only [maxLen]; omega)))) rfl ?_
    refine wpl_q (q_bt (c := false) (q_neI rfl rfl) (by simp [hrl])) rfl ?_
    refine wpl_q (q_pure rfl) rfl ?_
    refine wpl_on rfl rfl ?_
    refine wpl_q (q_ldN Try.underlying27 rfl Try.ti27 rfl LenC.h) rfl ?_
    refine wpl_on rfl rfl ?_
    refine wpl_t (t_pur Try.hb29 rfl fun w h => check (playF m n l).2.1 b26.2.1 b26.2.2.1 b26.2.2.2 w ⟨(playF_bs hm).m, h.seenV, h.seenV, h.seenV, by have := (playF_bs (n := n) (l := l) hm).d; omega, by have := (playF_bs (n := n) (l := l) hm).p; omega, by have := (playF_bs (n := n) (l := l) hm).k; omega⟩) rfl (fun b50 => ?_)
    refine wpl_on rfl rfl ?_
    refine wpl_q (q_bt (c := false) (q_neI rfl rfl) (by simp [chk0 hck])) rfl ?_
    refine wpl_q (q_pure rfl) rfl ?_
    refine wpl_nil ?_
    refine ex_then ?_
    refine wpc_cond_f rfl ?_
    refine wpc_skip ?_
    refine ex_then ?_
    refine wpc_seq ?_
    refine wpc_seq ?_
    refine wpc_region ?_
    refine wpl_q (q_pure rfl) rfl ?_
    refine wpl_nil ?_
    refine ex_then ?_
    refine wpc_block ?_
    refine wpc_loopc (ι := { x : Nat // (x ≤ l.length) }) [(2, _), (7, _), (8, _)] (fun x Lc => (11, .int .i64 ((x.1 : Nat) : Int)) :: Lc) (fun x => Mem w [] [rRow b26.1 (playF m n l).1] []) (fun x => l.length - x.1) ⟨0, (Nat.zero_le _)⟩ (by repeat (first | exact trivial | refine ⟨rfl, ?_⟩)) ?_ ?_
    ·
     exact fun w h => h.sel
    ·
     rintro ⟨i, hi0⟩; try dsimp only
     have hi0 : i ≤ l.length := hi0
     refine wpc_seq ?_
     refine wpc_seq ?_
     refine wpc_region ?_
     refine wpl_q (q_pure rfl) rfl ?_
     refine wpl_q (q_pure rfl) rfl ?_
     refine wpl_q (q_lenW Try.underlying56 rfl (by first | assumption | exact SV.nil | exact SV.slv (by assumption) (by omega) (by omega) | exact arv_sv (by first | decide | (simp only [maxLen]; omega)))) rfl ?_
     refine wpl_q (q_pure rfl) rfl ?_
     refine wpl_nil ?_
     refine ex_then ?_
     refine wpc_cond rfl (fun hc56 => ?_) (fun hc56 => ?_)
     ·
      simp only [decide_eq_true_eq] at hc56
      have hil : i < l.length := by omega
      have hir : i < (playF m n l).1.length := by omega
      refine wpc_skip ?_
      refine ex_then ?_
      refine wpc_seq ?_
      refine wpc_block ?_
      refine wpc_seq ?_
      refine wpc_seq ?_
      refine wpc_region ?_
      refine wpl_q (q_pure rfl) rfl ?_
      refine wpl_q (q_pure rfl) rfl ?_
      refine wpl_q (q_idxW Try.underlying56 Try.ti58 rfl rfl (by first | assumption | exact SV.nil | exact SV.slv (by assumption) (by omega) (by omega) | exact arv_sv (by first | decide | (simp only [maxLen]; omega))) (by first | omega | (simp only [maxLen]; omega) | (simp only [List.length_append, List.length_cons, List.length_nil, List.length_take, maxLen]; omega) | (simp only [List.length_append, List.length_cons, List.length_nil, List.length_take]; omega))) rfl ?_
      refine wpl_q (q_fieldPo 0 Try.underlying58 rfl Try.ti5 rfl rfl rfl) rfl ?_
      refine wpl_q (q_ldWF Try.underlying5 rfl rfl (fun w h => h.seen_old hlv) (cat_get Stp.c_length Stp.z hil rfl)) rfl ?_
      refine wpl_q (q8_neq (b := (7 : UInt8)) rfl rfl) rfl ?_
      refine wpl_q (q_pure rfl) rfl ?_
      refine wpl_bool2 65 64 rfl rfl (fun hb65 => ?_) (fun hb65 => ?_)
      ·
       have hz : ¬ ((l.getD i Stp.z).kd = 7 ∧ ((runF l (newF m n).1).1.getD i (0, 0)).2 = 0) := fun hh => by rw [hh.1] at hb65; exact absurd hb65 (by decide)
       refine wpl_off rfl rfl rfl rfl ?_
       refine wpl_off rfl rfl rfl rfl ?_
       refine wpl_off rfl rfl rfl rfl ?_
       refine wpl_off rfl rfl rfl rfl ?_
       refine wpl_off rfl rfl rfl rfl ?_
       refine wpl_off rfl rfl rfl rfl ?_
       refine wpl_q (q_pure rfl) rfl ?_
       refine wpl_nil ?_
       refine ex_then ?_
       refine wpc_cond_t rfl ?_
       refine wpc_seq ?_
       refine wpc_seq ?_
       refine wpc_region ?_
       refine wpl_q (q_pure rfl) rfl ?_
       refine wpl_q (q_pure rfl) rfl ?_
       refine wpl_q (q_idxW Try.underlying53 Try.ti61 rfl rfl (by first | assumption | exact SV.nil | exact SV.slv (by assumption) (by omega) (by omega) | exact arv_sv (by first | decide | (simp only [maxLen]; omega))) (by first | omega | (simp only [maxLen]; omega) | (simp only [List.length_append, List.length_cons, List.length_nil, List.length_take, maxLen]; omega) | (simp only [List.length_append, List.length_cons, List.length_nil, List.length_take]; omega))) rfl ?_
       refine wpl_q (q_fieldPo 0 Try.underlying61 rfl Try.ti3 rfl rfl rfl) rfl ?_
       refine wpl_q (q_ldWF Try.underlying3 rfl rfl (fun w h => show Seen w.cell? b26.1 _ 2 (rcs (playF m n l).1) from h.seenV) (cat_get (c := resC) (k := 2) (fun _ => rfl) (0, 0) hir rfl)) rfl ?_
       refine wpl_q (q_pure rfl) rfl ?_
       refine wpl_nil ?_
       refine ex_then ?_
       refine wpc_cond rfl (fun hc78 => ?_) (fun hc78 => ?_)
       ·
        exfalso
        have h1 := run_zero l (newF m n).1 i hil hz
        rw [← hP1] at h1
        exact absurd hc78 (by rw [h1]; decide)
       ·
        try simp only [decide_eq_true_eq, decide_eq_false_iff_not, Bool.and_eq_true, Bool.or_eq_true, beq_iff_eq, bne_iff_ne, ne_eq, Bool.not_eq_true', Bool.not_eq_false', Decidable.not_not] at hc78
        refine wpc_skip ?_
        refine ex_then ?_
        refine wpc_exit ?_
        refine ex_then_exit ?_
        refine ex_block_hit ?_
        refine ex_then ?_
        refine wpc_region ?_
        refine wpl_q (q_pure rfl) rfl ?_
        refine wpl_q (q_addN (b := 1) rfl rfl (by first | omega | (simp only [maxLen]; omega) | (simp only [List.length_append, List.length_cons, List.length_nil, List.length_take, maxLen]; omega) | (simp only [List.length_append, List.length_cons, List.length_nil, List.length_take]; omega))) rfl ?_
        refine wpl_q (q_pure rfl) rfl ?_
        refine wpl_nil ?_
        refine ex_again ⟨i + 1, (by omega)⟩ ?_ ?_ ?_
        ·
         exact (by repeat (first | exact trivial | refine ⟨rfl, ?_⟩))
        ·
         exact fun w h => by first | exact h | exact h.sub SubC.h SubC.h | exact h.sub (by repeat (first | exact Sub.nil | exact Sub.refl _ | with_reducible refine Sub.keep ?_ | refine Sub.drop ?_)) (by repeat (first | exact Sub.nil | exact Sub.refl _ | with_reducible refine Sub.keep ?_ | refine Sub.drop ?_))
        ·
         (show l.length - (i + 1) < l.length - i); omega
      ·
       have hk7 : (l.getD i Stp.z).kd = 7 := by simpa using hb65
       refine wpl_on rfl rfl ?_
       refine wpl_q (q_pure rfl) rfl ?_
       refine wpl_on rfl rfl ?_
       refine wpl_q (q_pure rfl) rfl ?_
       refine wpl_on rfl rfl ?_
       refine wpl_q (q_idxW Try.underlying53 Try.ti61 rfl rfl (by first | assumption | exact SV.nil | exact SV.slv (by assumption) (by omega) (by omega) | exact arv_sv (by first | decide | (simp only [maxLen]; omega))) (by first | omega | (simp only [maxLen]; omega) | (simp only [List.length_append, List.length_cons, List.length_nil, List.length_take, maxLen]; omega) | (simp only [List.length_append, List.length_cons, List.length_nil, List.length_take]; omega))) rfl ?_
       refine wpl_on rfl rfl ?_
       refine wpl_q (q_fieldPo 1 Try.underlying61 rfl Try.ti31 rfl rfl rfl) rfl ?_
       refine wpl_on rfl rfl ?_
       refine wpl_q (q_ldWF Try.underlying31 rfl rfl (fun w h => show Seen w.cell? b26.1 _ 2 (rcs (playF m n l).1) from h.seenV) (cat_get (c := resC) (k := 2) (fun _ => rfl) (0, 0) hir rfl)) rfl ?_
       refine wpl_on rfl rfl ?_
       refine wpl_q (q_pure rfl) rfl ?_
       refine wpl_q (q_pure rfl) rfl ?_
       refine wpl_nil ?_
       refine ex_then ?_
       refine wpc_cond rfl (fun hc72 => ?_) (fun hc72 => ?_)
       ·
        have hz : ¬ ((l.getD i Stp.z).kd = 7 ∧ ((runF l (newF m n).1).1.getD i (0, 0)).2 = 0) := fun hh => by first | assumption | (rw [hP1, hh.2] at hc72; exact absurd hc72 (by decide))
        refine wpc_seq ?_
        refine wpc_seq ?_
        refine wpc_region ?_
        refine wpl_q (q_pure rfl) rfl ?_
        refine wpl_q (q_pure rfl) rfl ?_
        refine wpl_q (q_idxW Try.underlying53 Try.ti61 rfl rfl (by first | assumption | exact SV.nil | exact SV.slv (by assumption) (by omega) (by omega) | exact arv_sv (by first | decide | (simp only [maxLen]; omega))) (by first | omega | (simp only [maxLen]; omega) | (simp only [List.length_append, List.length_cons, List.length_nil, List.length_take, maxLen]; omega) | (simp only [List.length_append, List.length_cons, List.length_nil, List.length_take]; omega))) rfl ?_
        refine wpl_q (q_fieldPo 0 Try.underlying61 rfl Try.ti3 rfl rfl rfl) rfl ?_
        refine wpl_q (q_ldWF Try.underlying3 rfl rfl (fun w h => show Seen w.cell? b26.1 _ 2 (rcs (playF m n l).1) from h.seenV) (cat_get (c := resC) (k := 2) (fun _ => rfl) (0, 0) hir rfl)) rfl ?_
        refine wpl_q (q_pure rfl) rfl ?_
        refine wpl_nil ?_
        refine ex_then ?_
        refine wpc_cond rfl (fun hc78 => ?_) (fun hc78 => ?_)
        ·
         exfalso
         have h1 := run_zero l (newF m n).1 i hil hz
         rw [← hP1] at h1
         exact absurd hc78 (by rw [h1]; decide)
        ·
         try simp only [decide_eq_true_eq, decide_eq_false_iff_not, Bool.and_eq_true, Bool.or_eq_true, beq_iff_eq, bne_iff_ne, ne_eq, Bool.not_eq_true', Bool.not_eq_false', Decidable.not_not] at hc78
         refine wpc_skip ?_
         refine ex_then ?_
         refine wpc_exit ?_
         refine ex_then_exit ?_
         refine ex_block_hit ?_
         refine ex_then ?_
         refine wpc_region ?_
         refine wpl_q (q_pure rfl) rfl ?_
         refine wpl_q (q_addN (b := 1) rfl rfl (by first | omega | (simp only [maxLen]; omega) | (simp only [List.length_append, List.length_cons, List.length_nil, List.length_take, maxLen]; omega) | (simp only [List.length_append, List.length_cons, List.length_nil, List.length_take]; omega))) rfl ?_
         refine wpl_q (q_pure rfl) rfl ?_
         refine wpl_nil ?_
         refine ex_again ⟨i + 1, (by omega)⟩ ?_ ?_ ?_
         ·
          exact (by repeat (first | exact trivial | refine ⟨rfl, ?_⟩))
         ·
          exact fun w h => by first | exact h | exact h.sub SubC.h SubC.h | exact h.sub (by repeat (first | exact Sub.nil | exact Sub.refl _ | with_reducible refine Sub.keep ?_ | refine Sub.drop ?_)) (by repeat (first | exact Sub.nil | exact Sub.refl _ | with_reducible refine Sub.keep ?_ | refine Sub.drop ?_))
         ·
          (show l.length - (i + 1) < l.length - i); omega
       ·
        have he0 : ((playF m n l).1.getD i (0, 0)).2 = 0 := by simpa using hc72
        refine wpc_skip ?_
        refine ex_then ?_
        refine wpc_seq ?_
        refine wpc_region ?_
        refine wpl_q (q_pure rfl) rfl ?_
        refine wpl_nil ?_
        refine ex_then ?_
        refine wpc_block ?_
        refine wpc_loopc (ι := { x : Nat // (x ≤ i) }) [(2, _), (7, _), (8, _), (11, _), (66, _), (67, _), (68, _), (69, _), (70, _), (71, _)] (fun x Lc => (12, .int .i64 ((x.1 : Nat) : Int)) :: Lc) (fun x => Mem w [] [rRow b26.1 (playF m n l).1] []) (fun x => i - x.1) ⟨0, (Nat.zero_le _)⟩ (by repeat (first | exact trivial | refine ⟨rfl, ?_⟩)) ?_ ?_
        ·
         exact fun w h => h
        ·
         rintro ⟨k, hi0⟩; try dsimp only
         have hi0 : k ≤ i := hi0
         refine wpc_seq ?_
         refine wpc_seq ?_
         refine wpc_region ?_
         refine wpl_q (q_pure rfl) rfl ?_
         refine wpl_q (q_pure rfl) rfl ?_
         refine wpl_q (q_pure rfl) rfl ?_
         refine wpl_nil ?_
         refine ex_then ?_
         refine wpc_cond rfl (fun hc81 => ?_) (fun hc81 => ?_)
         ·
          simp only [decide_eq_true_eq] at hc81
          have hki : k < i := by omega
          have hkl : k < l.length := by omega
          have hkr : k < (playF m n l).1.length := by omega
          refine wpc_skip ?_
          refine ex_then ?_
          refine wpc_seq ?_
          refine wpc_block ?_
          refine wpc_seq ?_
          refine wpc_draw 40 (by kernel_rfl) (fun _ h => h.drew) ?_
          refine wpd_p 0 rfl (by kernel_rfl) trivial (q_pure rfl) rfl sk0 ?_
          refine wpd_p 1 rfl (by kernel_rfl) trivial (q_pure rfl) rfl sk0 ?_
          refine wpd_p 2 rfl (by kernel_rfl) trivial (q_idxW Try.underlying56 Try.ti58 rfl rfl (by first | assumption | exact SV.nil | exact SV.slv (by assumption) (by omega) (by omega) | exact arv_sv (by first | decide | (simp only [maxLen]; omega))) (by first | omega | (simp only [maxLen]; omega) | (simp only [List.length_append, List.length_cons, List.length_nil, List.length_take, maxLen]; omega) | (simp only [List.length_append, List.length_cons, List.length_nil, List.length_take]; omega))) rfl sk0 ?_
          refine wpd_p 3 rfl (by kernel_rfl) trivial (q_fieldPo 0 Try.underlying58 rfl Try.ti5 rfl rfl rfl) rfl sk0 ?_
          refine wpd_q 4 rfl (by kernel_rfl) trivial (q_ldWF Try.underlying5 rfl rfl (fun w h => h.seen_old hlv) (cat_get Stp.c_length Stp.z hkl rfl)) rfl (fun _ h => h) ?_
          refine wpd_p 5 rfl (by kernel_rfl) trivial (q8_eql (b := (7 : UInt8)) rfl rfl) rfl sk0 ?_
          refine wpd_p 6 rfl (by kernel_rfl) trivial (q_pure rfl) rfl sk0 ?_
          refine wpd_bool2 90 89 rfl rfl (fun hb90 => ?_) (fun hb90 => ?_)
          ·
           try simp only [decide_eq_true_eq, decide_eq_false_iff_not, Bool.and_eq_true, Bool.or_eq_true, beq_iff_eq, bne_iff_ne, ne_eq, Bool.not_eq_true', Bool.not_eq_false', Decidable.not_not] at hb90
           refine wpd_p 7 rfl (by kernel_rfl) ⟨_, rfl, rfl⟩ (q_pure rfl) rfl sk0 ?_
           refine wpd_p 8 rfl (by kernel_rfl) ⟨_, rfl, rfl⟩ (q_pure rfl) rfl sk0 ?_
           refine wpd_p 9 rfl (by kernel_rfl) ⟨_, rfl, rfl⟩ (q_idxW Try.underlying56 Try.ti58 rfl rfl (by first | assumption | exact SV.nil | exact SV.slv (by assumption) (by omega) (by omega) | exact arv_sv (by first | decide | (simp only [maxLen]; omega))) (by first | omega | (simp only [maxLen]; omega) | (simp only [List.length_append, List.length_cons, List.length_nil, List.length_take, maxLen]; omega) | (simp only [List.length_append, List.length_cons, List.length_nil, List.length_take]; omega))) rfl sk0 ?_
           refine wpd_p 10 rfl (by kernel_rfl) ⟨_, rfl, rfl⟩ (q_fieldPo 1 Try.underlying58 rfl Try.ti28 rfl rfl rfl) rfl sk0 ?_
           refine wpd_q 11 rfl (by kernel_rfl) ⟨_, rfl, rfl⟩ (q_ldWF Try.underlying28 rfl rfl (fun w h => h.seen_old hlv) (cat_get Stp.c_length Stp.z hkl rfl)) rfl (fun _ h => h) ?_
           refine wpd_p 12 rfl (by kernel_rfl) ⟨_, rfl, rfl⟩ (q_pure rfl) rfl sk0 ?_
           refine wpd_p 13 rfl (by kernel_rfl) ⟨_, rfl, rfl⟩ (q_pure rfl) rfl sk0 ?_
           refine wpd_p 14 rfl (by kernel_rfl) ⟨_, rfl, rfl⟩ (q_idxW Try.underlying56 Try.ti58 rfl rfl (by first | assumption | exact SV.nil | exact SV.slv (by assumption) (by omega) (by omega) | exact arv_sv (by first | decide | (simp only [maxLen]; omega))) (by first | omega | (simp only [maxLen]; omega) | (simp only [List.length_append, List.length_cons, List.length_nil, List.length_take, maxLen]; omega) | (simp only [List.length_append, List.length_cons, List.length_nil, List.length_take]; omega))) rfl sk0 ?_
           refine wpd_p 15 rfl (by kernel_rfl) ⟨_, rfl, rfl⟩ (q_fieldPo 1 Try.underlying58 rfl Try.ti28 rfl rfl rfl) rfl sk0 ?_
           refine wpd_q 16 rfl (by kernel_rfl) ⟨_, rfl, rfl⟩ (q_ldWF Try.underlying28 rfl rfl (fun w h => h.seen_old hlv) (cat_get Stp.c_length Stp.z hil rfl)) rfl (fun _ h => h) ?_
           refine wpd_p 17 rfl (by kernel_rfl) ⟨_, rfl, rfl⟩ (q32_eql rfl rfl) rfl sk0 ?_
           refine wpd_p 18 rfl (by kernel_rfl) trivial (q_pure rfl) rfl sk0 ?_
           refine wpd_p 19 rfl (by kernel_rfl) trivial (q_pure rfl) rfl sk0 ?_
           refine wpd_bool2 103 101 rfl rfl (fun hb103 => ?_) (fun hb103 => ?_)
           ·
            try simp only [decide_eq_true_eq, decide_eq_false_iff_not, Bool.and_eq_true, Bool.or_eq_true, beq_iff_eq, bne_iff_ne, ne_eq, Bool.not_eq_true', Bool.not_eq_false', Decidable.not_not] at hb103
            refine wpd_p 20 rfl (by kernel_rfl) ⟨_, rfl, rfl⟩ (q_pure rfl) rfl sk0 ?_
            refine wpd_p 21 rfl (by kernel_rfl) ⟨_, rfl, rfl⟩ (q_pure rfl) rfl sk0 ?_
            refine wpd_p 22 rfl (by kernel_rfl) ⟨_, rfl, rfl⟩ (q_idxW Try.underlying53 Try.ti61 rfl rfl (by first | assumption | exact SV.nil | exact SV.slv (by assumption) (by omega) (by omega) | exact arv_sv (by first | decide | (simp only [maxLen]; omega))) (by first | omega | (simp only [maxLen]; omega) | (simp only [List.length_append, List.length_cons, List.length_nil, List.length_take, maxLen]; omega) | (simp only [List.length_append, List.length_cons, List.length_nil, List.length_take]; omega))) rfl sk0 ?_
            refine wpd_p 23 rfl (by kernel_rfl) ⟨_, rfl, rfl⟩ (q_fieldPo 1 Try.underlying61 rfl Try.ti31 rfl rfl rfl) rfl sk0 ?_
            refine wpd_q 24 rfl (by kernel_rfl) ⟨_, rfl, rfl⟩ (q_ldWF Try.underlying31 rfl rfl (fun w h => show Seen w.cell? b26.1 _ 2 (rcs (playF m n l).1) from h.seenV) (cat_get (c := resC) (k := 2) (fun _ => rfl) (0, 0) hkr rfl)) rfl (fun _ h => h) ?_
            refine wpd_p 25 rfl (by kernel_rfl) ⟨_, rfl, rfl⟩ (q_pure rfl) rfl sk0 ?_
            refine wpd_p 26 rfl (by kernel_rfl) trivial (q_pure rfl) rfl sk0 ?_
            refine wpd_p 27 rfl (by kernel_rfl) trivial (q_pure rfl) rfl sk0 ?_
            refine wpd_bool2 111 109 rfl rfl (fun hb111 => ?_) (fun hb111 => ?_)
            ·
             try simp only [decide_eq_true_eq, decide_eq_false_iff_not, Bool.and_eq_true, Bool.or_eq_true, beq_iff_eq, bne_iff_ne, ne_eq, Bool.not_eq_true', Bool.not_eq_false', Decidable.not_not] at hb111
             refine wpd_p 28 rfl (by kernel_rfl) ⟨_, rfl, rfl⟩ (q_pure rfl) rfl sk0 ?_
             refine wpd_p 29 rfl (by kernel_rfl) ⟨_, rfl, rfl⟩ (q_pure rfl) rfl sk0 ?_
             refine wpd_p 30 rfl (by kernel_rfl) ⟨_, rfl, rfl⟩ (q_idxW Try.underlying53 Try.ti61 rfl rfl (by first | assumption | exact SV.nil | exact SV.slv (by assumption) (by omega) (by omega) | exact arv_sv (by first | decide | (simp only [maxLen]; omega))) (by first | omega | (simp only [maxLen]; omega) | (simp only [List.length_append, List.length_cons, List.length_nil, List.length_take, maxLen]; omega) | (simp only [List.length_append, List.length_cons, List.length_nil, List.length_take]; omega))) rfl sk0 ?_
             refine wpd_p 31 rfl (by kernel_rfl) ⟨_, rfl, rfl⟩ (q_fieldPo 0 Try.underlying61 rfl Try.ti3 rfl rfl rfl) rfl sk0 ?_
             refine wpd_q 32 rfl (by kernel_rfl) ⟨_, rfl, rfl⟩ (q_ldWF Try.underlying3 rfl rfl (fun w h => show Seen w.cell? b26.1 _ 2 (rcs (playF m n l).1) from h.seenV) (cat_get (c := resC) (k := 2) (fun _ => rfl) (0, 0) hkr rfl)) rfl (fun _ h => h) ?_
             refine wpd_p 33 rfl (by kernel_rfl) ⟨_, rfl, rfl⟩ (q_pure rfl) rfl sk0 ?_
             refine wpd_p 34 rfl (by kernel_rfl) ⟨_, rfl, rfl⟩ (q_pure rfl) rfl sk0 ?_
             refine wpd_p 35 rfl (by kernel_rfl) ⟨_, rfl, rfl⟩ (q_idxW Try.underlying53 Try.ti61 rfl rfl (by first | assumption | exact SV.nil | exact SV.slv (by assumption) (by omega) (by omega) | exact arv_sv (by first | decide | (simp only [maxLen]; omega))) (by first | omega | (simp only [maxLen]; omega) | (simp only [List.length_append, List.length_cons, List.length_nil, List.length_take, maxLen]; omega) | (simp only [List.length_append, List.length_cons, List.length_nil, List.length_take]; omega))) rfl sk0 ?_
             refine wpd_p 36 rfl (by kernel_rfl) ⟨_, rfl, rfl⟩ (q_fieldPo 0 Try.underlying61 rfl Try.ti3 rfl rfl rfl) rfl sk0 ?_
             refine wpd_q 37 rfl (by kernel_rfl) ⟨_, rfl, rfl⟩ (q_ldWF Try.underlying3 rfl rfl (fun w h => show Seen w.cell? b26.1 _ 2 (rcs (playF m n l).1) from h.seenV) (cat_get (c := resC) (k := 2) (fun _ => rfl) (0, 0) hir rfl)) rfl (fun _ h => h) ?_
             refine wpd_p 38 rfl (by kernel_rfl) ⟨_, rfl, rfl⟩ (q_pure rfl) rfl sk0 ?_
             refine wpd_p 39 rfl (by kernel_rfl) trivial (q_pure rfl) rfl sk0 ?_
             refine wpd_done (by kernel_rfl) ?_
             refine ex_then ?_
             refine wpc_cond rfl (fun hc123 => ?_) (fun hc123 => ?_)
             ·
              exfalso
              have h1 := once l (newF m n).1 k i hki hil (by simpa using hb90) hk7 (by simpa using hb103) (by rw [← hP1]; simpa using hb111) (by rw [← hP1]; exact he0)
              rw [← hP1] at h1
              have h2 := hc123
              simp only [decide_eq_true_eq, ge_iff_le] at h2
              omega
             ·
              try simp only [decide_eq_true_eq, decide_eq_false_iff_not, Bool.and_eq_true, Bool.or_eq_true, beq_iff_eq, bne_iff_ne, ne_eq, Bool.not_eq_true', Bool.not_eq_false', Decidable.not_not] at hc123
              refine wpc_skip ?_
              refine ex_block ?_
              refine ex_then ?_
              refine wpc_region ?_
              refine wpl_q (q_pure rfl) rfl ?_
              refine wpl_q (q_addN (b := 1) rfl rfl (by first | omega | (simp only [maxLen]; omega) | (simp only [List.length_append, List.length_cons, List.length_nil, List.length_take, maxLen]; omega) | (simp only [List.length_append, List.length_cons, List.length_nil, List.length_take]; omega))) rfl ?_
              refine wpl_q (q_pure rfl) rfl ?_
              refine wpl_nil ?_
              refine ex_again ⟨k + 1, (by omega)⟩ ?_ ?_ ?_
              ·
               exact (by repeat (first | exact trivial | refine ⟨rfl, ?_⟩))
              ·
               exact fun w h => by first | exact h | exact h.sub SubC.h SubC.h | exact h.sub (by repeat (first | exact Sub.nil | exact Sub.refl _ | with_reducible refine Sub.keep ?_ | refine Sub.drop ?_)) (by repeat (first | exact Sub.nil | exact Sub.refl _ | with_reducible refine Sub.keep ?_ | refine Sub.drop ?_))
              ·
               (show i - (k + 1) < i - k); omega
            ·
             try simp only [decide_eq_true_eq, decide_eq_false_iff_not, Bool.and_eq_true, Bool.or_eq_true, beq_iff_eq, bne_iff_ne, ne_eq, Bool.not_eq_true', Bool.not_eq_false', Decidable.not_not] at hb111
             refine wpd_off 28 rfl (by kernel_rfl) ⟨_, _, rfl, rfl, rfl⟩ rfl sk0 ?_
             refine wpd_off 29 rfl (by kernel_rfl) ⟨_, _, rfl, rfl, rfl⟩ rfl sk0 ?_
             refine wpd_off 30 rfl (by kernel_rfl) ⟨_, _, rfl, rfl, rfl⟩ rfl sk0 ?_
             refine wpd_off 31 rfl (by kernel_rfl) ⟨_, _, rfl, rfl, rfl⟩ rfl sk0 ?_
             refine wpd_off 32 rfl (by kernel_rfl) ⟨_, _, rfl, rfl, rfl⟩ rfl sk0 ?_
             refine wpd_off 33 rfl (by kernel_rfl) ⟨_, _, rfl, rfl, rfl⟩ rfl sk0 ?_
             refine wpd_off 34 rfl (by kernel_rfl) ⟨_, _, rfl, rfl, rfl⟩ rfl sk0 ?_
             refine wpd_off 35 rfl (by kernel_rfl) ⟨_, _, rfl, rfl, rfl⟩ rfl sk0 ?_
             refine wpd_off 36 rfl (by kernel_rfl) ⟨_, _, rfl, rfl, rfl⟩ rfl sk0 ?_
             refine wpd_off 37 rfl (by kernel_rfl) ⟨_, _, rfl, rfl, rfl⟩ rfl sk0 ?_
             refine wpd_off 38 rfl (by kernel_rfl) ⟨_, _, rfl, rfl, rfl⟩ rfl sk0 ?_
             refine wpd_p 39 rfl (by kernel_rfl) trivial (q_pure rfl) rfl sk0 ?_
             refine wpd_done (by kernel_rfl) ?_
             refine ex_then ?_
             refine wpc_cond_f rfl ?_
             refine wpc_skip ?_
             refine ex_block ?_
             refine ex_then ?_
             refine wpc_region ?_
             refine wpl_q (q_pure rfl) rfl ?_
             refine wpl_q (q_addN (b := 1) rfl rfl (by first | omega | (simp only [maxLen]; omega) | (simp only [List.length_append, List.length_cons, List.length_nil, List.length_take, maxLen]; omega) | (simp only [List.length_append, List.length_cons, List.length_nil, List.length_take]; omega))) rfl ?_
             refine wpl_q (q_pure rfl) rfl ?_
             refine wpl_nil ?_
             refine ex_again ⟨k + 1, (by omega)⟩ ?_ ?_ ?_
             ·
              exact (by repeat (first | exact trivial | refine ⟨rfl, ?_⟩))
             ·
              exact fun w h => by first | exact h | exact h.sub SubC.h SubC.h | exact h.sub (by repeat (first | exact Sub.nil | exact Sub.refl _ | with_reducible refine Sub.keep ?_ | refine Sub.drop ?_)) (by repeat (first | exact Sub.nil | exact Sub.refl _ | with_reducible refine Sub.keep ?_ | refine Sub.drop ?_))
             ·
              (show i - (k + 1) < i - k); omega
           ·
            try simp only [decide_eq_true_eq, decide_eq_false_iff_not, Bool.and_eq_true, Bool.or_eq_true, beq_iff_eq, bne_iff_ne, ne_eq, Bool.not_eq_true', Bool.not_eq_false', Decidable.not_not] at hb103
            refine wpd_off 20 rfl (by kernel_rfl) ⟨_, _, rfl, rfl, rfl⟩ rfl sk0 ?_
            refine wpd_off 21 rfl (by kernel_rfl) ⟨_, _, rfl, rfl, rfl⟩ rfl sk0 ?_
            refine wpd_off 22 rfl (by kernel_rfl) ⟨_, _, rfl, rfl, rfl⟩ rfl sk0 ?_
            refine wpd_off 23 rfl (by kernel_rfl) ⟨_, _, rfl, rfl, rfl⟩ rfl sk0 ?_
            refine wpd_off 24 rfl (by kernel_rfl) ⟨_, _, rfl, rfl, rfl⟩ rfl sk0 ?_
            refine wpd_off 25 rfl (by kernel_rfl) ⟨_, _, rfl, rfl, rfl⟩ rfl sk0 ?_
            refine wpd_p 26 rfl (by kernel_rfl) trivial (q_pure rfl) rfl sk0 ?_
            refine wpd_p 27 rfl (by kernel_rfl) trivial (q_pure rfl) rfl sk0 ?_
            refine wpd_off 28 rfl (by kernel_rfl) ⟨_, _, rfl, rfl, rfl⟩ rfl sk0 ?_
            refine wpd_off 29 rfl (by kernel_rfl) ⟨_, _, rfl, rfl, rfl⟩ rfl sk0 ?_
            refine wpd_off 30 rfl (by kernel_rfl) ⟨_, _, rfl, rfl, rfl⟩ rfl sk0 ?_
            refine wpd_off 31 rfl (by kernel_rfl) ⟨_, _, rfl, rfl, rfl⟩ rfl sk0 ?_
            refine wpd_off 32 rfl (by kernel_rfl) ⟨_, _, rfl, rfl, rfl⟩ rfl sk0 ?_
            refine wpd_off 33 rfl (by kernel_rfl) ⟨_, _, rfl, rfl, rfl⟩ rfl sk0 ?_
            refine wpd_off 34 rfl (by kernel_rfl) ⟨_, _, rfl, rfl, rfl⟩ rfl sk0 ?_
            refine wpd_off 35 rfl (by kernel_rfl) ⟨_, _, rfl, rfl, rfl⟩ rfl sk0 ?_
            refine wpd_off 36 rfl (by kernel_rfl) ⟨_, _, rfl, rfl, rfl⟩ rfl sk0 ?_
            refine wpd_off 37 rfl (by kernel_rfl) ⟨_, _, rfl, rfl, rfl⟩ rfl sk0 ?_
            refine wpd_off 38 rfl (by kernel_rfl) ⟨_, _, rfl, rfl, rfl⟩ rfl sk0 ?_
            refine wpd_p 39 rfl (by kernel_rfl) trivial (q_pure rfl) rfl sk0 ?_
            refine wpd_done (by kernel_rfl) ?_
            refine ex_then ?_
            refine wpc_cond_f rfl ?_
            refine wpc_skip ?_
            refine ex_block ?_
            refine ex_then ?_
            refine wpc_region ?_
            refine wpl_q (q_pure rfl) rfl ?_
            refine wpl_q (q_addN (b := 1) rfl rfl (by first | omega | (simp only [maxLen]; omega) | (simp only [List.length_append, List.length_cons, List.length_nil, List.length_take, maxLen]; omega) | (simp only [List.length_append, List.length_cons, List.length_nil, List.length_take]; omega))) rfl ?_
            refine wpl_q (q_pure rfl) rfl ?_
            refine wpl_nil ?_
            refine ex_again ⟨k + 1, (by omega)⟩ ?_ ?_ ?_
            ·
             exact (by repeat (first | exact trivial | refine ⟨rfl, ?_⟩))
            ·
             exact fun w h => by first | exact h | exact h.sub SubC.h SubC.h | exact h.sub (by repeat (first | exact Sub.nil | exact Sub.refl _ | with_reducible refine Sub.keep ?_ | refine Sub.drop ?_)) (by repeat (first | exact Sub.nil | exact Sub.refl _ | with_reducible refine Sub.keep ?_ | refine Sub.drop ?_))
            ·
             (show i - (k + 1) < i - k); omega
          ·
           try simp only [decide_eq_true_eq, decide_eq_false_iff_not, Bool.and_eq_true, Bool.or_eq_true, beq_iff_eq, bne_iff_ne, ne_eq, Bool.not_eq_true', Bool.not_eq_false', Decidable.not_not] at hb90
           refine wpd_off 7 rfl (by kernel_rfl) ⟨_, _, rfl, rfl, rfl⟩ rfl sk0 ?_
           refine wpd_off 8 rfl (by kernel_rfl) ⟨_, _, rfl, rfl, rfl⟩ rfl sk0 ?_
           refine wpd_off 9 rfl (by kernel_rfl) ⟨_, _, rfl, rfl, rfl⟩ rfl sk0 ?_
           refine wpd_off 10 rfl (by kernel_rfl) ⟨_, _, rfl, rfl, rfl⟩ rfl sk0 ?_
           refine wpd_off 11 rfl (by kernel_rfl) ⟨_, _, rfl, rfl, rfl⟩ rfl sk0 ?_
           refine wpd_off 12 rfl (by kernel_rfl) ⟨_, _, rfl, rfl, rfl⟩ rfl sk0 ?_
           refine wpd_off 13 rfl (by kernel_rfl) ⟨_, _, rfl, rfl, rfl⟩ rfl sk0 ?_
           refine wpd_off 14 rfl (by kernel_rfl) ⟨_, _, rfl, rfl, rfl⟩ rfl sk0 ?_
           refine wpd_off 15 rfl (by kernel_rfl) ⟨_, _, rfl, rfl, rfl⟩ rfl sk0 ?_
           refine wpd_off 16 rfl (by kernel_rfl) ⟨_, _, rfl, rfl, rfl⟩ rfl sk0 ?_
           refine wpd_off 17 rfl (by kernel_rfl) ⟨_, _, rfl, rfl, rfl⟩ rfl sk0 ?_
           refine wpd_p 18 rfl (by kernel_rfl) trivial (q_pure rfl) rfl sk0 ?_
           refine wpd_p 19 rfl (by kernel_rfl) trivial (q_pure rfl) rfl sk0 ?_
           refine wpd_off 20 rfl (by kernel_rfl) ⟨_, _, rfl, rfl, rfl⟩ rfl sk0 ?_
           refine wpd_off 21 rfl (by kernel_rfl) ⟨_, _, rfl, rfl, rfl⟩ rfl sk0 ?_
           refine wpd_off 22 rfl (by kernel_rfl) ⟨_, _, rfl, rfl, rfl⟩ rfl sk0 ?_
           refine wpd_off 23 rfl (by kernel_rfl) ⟨_, _, rfl, rfl, rfl⟩ rfl sk0 ?_
           refine wpd_off 24 rfl (by kernel_rfl) ⟨_, _, rfl, rfl, rfl⟩ rfl sk0 ?_
           refine wpd_off 25 rfl (by kernel_rfl) ⟨_, _, rfl, rfl, rfl⟩ rfl sk0 ?_
           refine wpd_p 26 rfl (by kernel_rfl) trivial (q_pure rfl) rfl sk0 ?_
           refine wpd_p 27 rfl (by kernel_rfl) trivial (q_pure rfl) rfl sk0 ?_
           refine wpd_off 28 rfl (by kernel_rfl) ⟨_, _, rfl, rfl, rfl⟩ rfl sk0 ?_
           refine wpd_off 29 rfl (by kernel_rfl) ⟨_, _, rfl, rfl, rfl⟩ rfl sk0 ?_
           refine wpd_off 30 rfl (by kernel_rfl) ⟨_, _, rfl, rfl, rfl⟩ rfl sk0 ?_
           refine wpd_off 31 rfl (by kernel_rfl) ⟨_, _, rfl, rfl, rfl⟩ rfl sk0 ?_
           refine wpd_off 32 rfl (by kernel_rfl) ⟨_, _, rfl, rfl, rfl⟩ rfl sk0 ?_
           refine wpd_off 33 rfl (by kernel_rfl) ⟨_, _, rfl, rfl, rfl⟩ rfl sk0 ?_
           refine wpd_off 34 rfl (by kernel_rfl) ⟨_, _, rfl, rfl, rfl⟩ rfl sk0 ?_
           refine wpd_off 35 rfl (by kernel_rfl) ⟨_, _, rfl, rfl, rfl⟩ rfl sk0 ?_
           refine wpd_off 36 rfl (by kernel_rfl) ⟨_, _, rfl, rfl, rfl⟩ rfl sk0 ?_
           refine wpd_off 37 rfl (by kernel_rfl) ⟨_, _, rfl, rfl, rfl⟩ rfl sk0 ?_
           refine wpd_off 38 rfl (by kernel_rfl) ⟨_, _, rfl, rfl, rfl⟩ rfl sk0 ?_
           refine wpd_p 39 rfl (by kernel_rfl) trivial (q_pure rfl) rfl sk0 ?_
           refine wpd_done (by kernel_rfl) ?_
           refine ex_then ?_
           refine wpc_cond_f rfl ?_
           refine wpc_skip ?_
           refine ex_block ?_
           refine ex_then ?_
           refine wpc_region ?_
           refine wpl_q (q_pure rfl) rfl ?_
           refine wpl_q (q_addN (b := 1) rfl rfl (by first | omega | (simp only [maxLen]; omega) | (simp only [List.length_append, List.length_cons, List.length_nil, List.length_take, maxLen]; omega) | (simp only [List.length_append, List.length_cons, List.length_nil, List.length_take]; omega))) rfl ?_
           refine wpl_q (q_pure rfl) rfl ?_
           refine wpl_nil ?_
           refine ex_again ⟨k + 1, (by omega)⟩ ?_ ?_ ?_
           ·
            exact (by repeat (first | exact trivial | refine ⟨rfl, ?_⟩))
           ·
            exact fun w h => by first | exact h | exact h.sub SubC.h SubC.h | exact h.sub (by repeat (first | exact Sub.nil | exact Sub.refl _ | with_reducible refine Sub.keep ?_ | refine Sub.drop ?_)) (by repeat (first | exact Sub.nil | exact Sub.refl _ | with_reducible refine Sub.keep ?_ | refine Sub.drop ?_))
           ·
            (show i - (k + 1) < i - k); omega
         ·
          try simp only [decide_eq_true_eq, decide_eq_false_iff_not, Bool.and_eq_true, Bool.or_eq_true, beq_iff_eq, bne_iff_ne, ne_eq, Bool.not_eq_true', Bool.not_eq_false', Decidable.not_not] at hc81
          refine wpc_exit ?_
          refine ex_then_exit ?_
          refine ex_then_exit ?_
          refine ex_block_hit ?_
          refine ex_block ?_
          refine ex_then ?_
          refine wpc_region ?_
          refine wpl_q (q_pure rfl) rfl ?_
          refine wpl_q (q_addN (b := 1) rfl rfl (by first | omega | (simp only [maxLen]; omega) | (simp only [List.length_append, List.length_cons, List.length_nil, List.length_take, maxLen]; omega) | (simp only [List.length_append, List.length_cons, List.length_nil, List.length_take]; omega))) rfl ?_
          refine wpl_q (q_pure rfl) rfl ?_
          refine wpl_nil ?_
          refine ex_again ⟨i + 1, (by omega)⟩ ?_ ?_ ?_
          ·
           exact (by repeat (first | exact trivial | refine ⟨rfl, ?_⟩))
          ·
           exact fun w h => by first | exact h | exact h.sub SubC.h SubC.h | exact h.sub (by repeat (first | exact Sub.nil | exact Sub.refl _ | with_reducible refine Sub.keep ?_ | refine Sub.drop ?_)) (by repeat (first | exact Sub.nil | exact Sub.refl _ | with_reducible refine Sub.keep ?_ | refine Sub.drop ?_))
          ·
           (show l.length - (i + 1) < l.length - i); omega
     ·
      try simp only [decide_eq_true_eq, decide_eq_false_iff_not, Bool.and_eq_true, Bool.or_eq_true, beq_iff_eq, bne_iff_ne, ne_eq, Bool.not_eq_true', Bool.not_eq_false', Decidable.not_not] at hc56
      refine wpc_exit ?_
      refine ex_then_exit ?_
      refine ex_then_exit ?_
      refine ex_block_hit ?_
      refine ex_then ?_
      refine wpc_seq ?_
      refine wpc_region ?_
      refine wpl_q (q_pure rfl) rfl ?_
      refine wpl_q (q_pure rfl) rfl ?_
      refine wpl_nil ?_
      refine ex_then ?_
      refine wpc_ret ?_
      refine ret1 (.inl rfl) rfl rfl ?_
      exact fun w h => ⟨rfl, h.below⟩

end Go.Proofs.Ytoaeklbenmlooaa
