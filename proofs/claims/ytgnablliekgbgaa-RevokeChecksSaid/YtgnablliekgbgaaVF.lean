/- The reference: the check of a list. -/
import Derived.Test.YtgnablliekgbgaaVE
import Derived.Test.YtgnablliekgbgaaVD
namespace Go.Proofs.Ytgnablliekgbgaa
set_option linter.unusedSimpArgs false
set_option linter.unusedVariables false
open Go Go.PL Go.RowKit
set_option maxRecDepth 100000 in
theorem refRvCheck (l : Rv) (w : World) (hl : l.seen w.cell?) (hnl : l.nm.length ≤ maxLen)  :
    Calls Try.prog 13 [.agg l.c.toArray].toArray w (Pur w (.int .i64 (chkR l))) := by
  haveI := hl.svs.one
  have lss := hl.s.sv.le
  have lcs := hl.c.sv.le
  have lps := hl.p.sv.le
  have sss := hl.s.sv
  have scs := hl.c.sv
  have sps := hl.p.sv
  simp only [maxLen] at lss lcs lps
  refine enter (m := 44) (R := Mem w [] [] []) Try.func13 rfl rfl (Nat.le_of_ble_eq_true rfl) (Mem.start w) ?_
  refine wpc_seq ?_
  refine wpc_region ?_
  refine wpl_t (t_box rfl l.c rfl) rfl (fun b1 => ?_)
  refine wpl_q (q_pure rfl) rfl ?_
  refine wpl_nil ?_
  refine ex_then ?_
  refine wpc_seq ?_
  refine wpc_seq ?_
  refine wpc_region ?_
  refine wpl_q (q_field Try.underlying30 rfl Try.ti25 rfl rfl _ rfl) rfl ?_
  refine wpl_q (q_ld Try.underlying25 rfl rfl (show l.c[4]? = some (l.sv) from rfl)) rfl ?_
  refine wpl_q (q_lenW Try.underlying25 rfl (by first | assumption | exact SV.nil | exact SV.slv (by assumption) (by omega) (by omega) | exact arv_sv (by first | decide | (simp only [maxLen]; omega)))) rfl ?_
  refine wpl_q (q_pure rfl) rfl ?_
  refine wpl_nil ?_
  refine ex_then ?_
  refine wpc_cond rfl (fun hc8 => ?_) (fun hc8 => ?_)
  ·
   have h5 : 500 < l.ss.length := by have := of_decide_eq_true hc8; omega
   refine wpc_seq ?_
   refine wpc_region ?_
   refine wpl_q (q_pure rfl) rfl ?_
   refine wpl_nil ?_
   refine ex_then ?_
   refine wpc_ret ?_
   refine ex_then_ret ?_
   refine ret1 (.inl rfl) rfl rfl ?_
   exact fun w h => ⟨by rw [chk_4 h5], h.below⟩
  ·
   have h5 : ¬ 500 < l.ss.length := by have := of_decide_eq_false hc8; omega
   refine wpc_skip ?_
   refine ex_then ?_
   refine wpc_seq ?_
   refine wpc_seq ?_
   refine wpc_region ?_
   refine wpl_q (q_field Try.underlying30 rfl Try.ti9 rfl rfl _ rfl) rfl ?_
   refine wpl_q (q_ld Try.underlying9 rfl rfl (show l.c[0]? = some (str l.nm) from rfl)) rfl ?_
   refine wpl_t (t_pur Try.hb33 rfl fun w h => refName l.nm w hnl) rfl (fun b11 => ?_)
   refine wpl_q (q_pure rfl) rfl ?_
   refine wpl_q (q_pure rfl) rfl ?_
   refine wpl_bool2 13 12 rfl rfl (fun hb13 => ?_) (fun hb13 => ?_)
   ·
    have hn : nameF l.nm = false := by simpa using hb13
    refine wpl_off rfl rfl rfl rfl ?_
    refine wpl_off rfl rfl rfl rfl ?_
    refine wpl_off rfl rfl rfl rfl ?_
    refine wpl_off rfl rfl rfl rfl ?_
    refine wpl_q (q_pure rfl) rfl ?_
    refine wpl_q (q_pure rfl) rfl ?_
    refine wpl_off rfl rfl rfl rfl ?_
    refine wpl_off rfl rfl rfl rfl ?_
    refine wpl_off rfl rfl rfl rfl ?_
    refine wpl_off rfl rfl rfl rfl ?_
    refine wpl_q (q_pure rfl) rfl ?_
    refine wpl_nil ?_
    refine ex_then ?_
    refine wpc_cond_t rfl ?_
    refine wpc_seq ?_
    refine wpc_region ?_
    refine wpl_q (q_pure rfl) rfl ?_
    refine wpl_nil ?_
    refine ex_then ?_
    refine wpc_ret ?_
    refine ex_then_ret ?_
    refine ret1 (.inl rfl) rfl rfl ?_
    exact fun w h => ⟨by rw [chk_8 h5 (okR_A (by unfold okA; first | (rw [hn]; rfl) | (rw [hn, hw]; rfl) | (rw [hn, hw, hg]; rfl)))], h.below⟩
   ·
    have hn : nameF l.nm = true := by simpa using hb13
    refine wpl_on rfl rfl ?_
    refine wpl_q (q_field Try.underlying30 rfl Try.ti24 rfl rfl _ rfl) rfl ?_
    refine wpl_on rfl rfl ?_
    refine wpl_q (q_ldP Try.underlying24 rfl Try.ti24 rfl l.win rfl rfl) rfl ?_
    refine wpl_on rfl rfl ?_
    refine wpl_t (t_pur Try.hb34 rfl fun w h => refCheck4 l.fr l.tt w) rfl (fun b16 => ?_)
    refine wpl_on rfl rfl ?_
    refine wpl_q (q_pure rfl) rfl ?_
    refine wpl_q (q_pure rfl) rfl ?_
    refine wpl_q (q_pure rfl) rfl ?_
    refine wpl_bool2 19 17 rfl rfl (fun hb19 => ?_) (fun hb19 => ?_)
    ·
     have hw : winF l.fr l.tt = false := by cases h : winF l.fr l.tt with | false => rfl | true => (rw [h] at hb19; cases hb19)
     refine wpl_off rfl rfl rfl rfl ?_
     refine wpl_off rfl rfl rfl rfl ?_
     refine wpl_off rfl rfl rfl rfl ?_
     refine wpl_off rfl rfl rfl rfl ?_
     refine wpl_q (q_pure rfl) rfl ?_
     refine wpl_nil ?_
     refine ex_then ?_
     refine wpc_cond_t rfl ?_
     refine wpc_seq ?_
     refine wpc_region ?_
     refine wpl_q (q_pure rfl) rfl ?_
     refine wpl_nil ?_
     refine ex_then ?_
     refine wpc_ret ?_
     refine ex_then_ret ?_
     refine ret1 (.inl rfl) rfl rfl ?_
     exact fun w h => ⟨by rw [chk_8 h5 (okR_A (by unfold okA; first | (rw [hn]; rfl) | (rw [hn, hw]; rfl) | (rw [hn, hw, hg]; rfl)))], h.below⟩
    ·
     have hw : winF l.fr l.tt = true := by cases h : winF l.fr l.tt with | true => rfl | false => (rw [h] at hb19; cases hb19)
     refine wpl_on rfl rfl ?_
     refine wpl_q (q_field Try.underlying30 rfl Try.ti28 rfl rfl _ rfl) rfl ?_
     refine wpl_on rfl rfl ?_
     refine wpl_q (q_ldP Try.underlying28 rfl Try.ti28 rfl l.sig rfl rfl) rfl ?_
     refine wpl_on rfl rfl ?_
     refine wpl_t (t_pur Try.hb35 rfl fun w h => goodSig l.ix l.cv l.pv l.chs l.ps w scs sps) rfl (fun b22 => ?_)
     refine wpl_on rfl rfl ?_
     refine wpl_q (q_pure rfl) rfl ?_
     refine wpl_q (q_pure rfl) rfl ?_
     refine wpl_nil ?_
     refine ex_then ?_
     refine wpc_cond rfl (fun hc24 => ?_) (fun hc24 => ?_)
     ·
      have hg : (gsigB l.ix l.chs.length l.ps.length) = false := by rw [Bool.not_eq_true'] at hc24; exact hc24
      refine wpc_seq ?_
      refine wpc_region ?_
      refine wpl_q (q_pure rfl) rfl ?_
      refine wpl_nil ?_
      refine ex_then ?_
      refine wpc_ret ?_
      refine ex_then_ret ?_
      refine ret1 (.inl rfl) rfl rfl ?_
      exact fun w h => ⟨by rw [chk_8 h5 (okR_A (by unfold okA; first | (rw [hn]; rfl) | (rw [hn, hw]; rfl) | (rw [hn, hw, hg]; rfl)))], h.below⟩
     ·
      have hg : (gsigB l.ix l.chs.length l.ps.length) = true := by rw [Bool.not_eq_false'] at hc24; exact hc24
      have hA : okA l = true := by unfold okA; rw [hn, hw, hg]; rfl
      refine wpc_skip ?_
      refine ex_then ?_
      refine wpc_seq ?_
      refine wpc_region ?_
      refine wpl_q (q_pure rfl) rfl ?_
      refine wpl_nil ?_
      refine ex_then ?_
      refine wpc_seq ?_
      refine wpc_seq ?_
      refine wpc_region ?_
      refine wpl_q (q_pure rfl) rfl ?_
      refine wpl_nil ?_
      refine ex_then ?_
      refine wpc_block ?_
      refine wpc_loopc (ι := { x : Nat // (x ≤ l.ss.length) ∧ (incF l.ss x) }) [(1, _)] (fun x Lc => (4, .int .i64 ((x.1 : Nat) : Int)) :: (3, .int .u64 ((lastN l.ss x.1).toNat : Int)) :: Lc) (fun x => Mem w [] [.blk b1 30 l.c] []) (fun x => l.ss.length - x.1) ⟨0, ⟨Nat.zero_le _, incF_0 _⟩⟩ (by repeat (first | exact trivial | refine ⟨rfl, ?_⟩)) ?_ ?_
      ·
       exact fun w h => h
      ·
       rintro ⟨i, ⟨hi0, hi1⟩⟩; try dsimp only
       have hi0 : i ≤ l.ss.length := hi0; have hi1 : incF l.ss i := hi1
       refine wpc_seq ?_
       refine wpc_seq ?_
       refine wpc_region ?_
       refine wpl_q (q_pure rfl) rfl ?_
       refine wpl_q (q_field Try.underlying30 rfl Try.ti25 rfl rfl _ rfl) rfl ?_
       refine wpl_q (q_ld Try.underlying25 rfl rfl (show l.c[4]? = some (l.sv) from rfl)) rfl ?_
       refine wpl_q (q_lenW Try.underlying25 rfl (by first | assumption | exact SV.nil | exact SV.slv (by assumption) (by omega) (by omega) | exact arv_sv (by first | decide | (simp only [maxLen]; omega)))) rfl ?_
       refine wpl_q (q_pure rfl) rfl ?_
       refine wpl_nil ?_
       refine ex_then ?_
       refine wpc_cond rfl (fun hc29 => ?_) (fun hc29 => ?_)
       ·
        simp only [decide_eq_true_eq] at hc29
        have hil : i < l.ss.length := by omega
        refine wpc_skip ?_
        refine ex_then ?_
        refine wpc_seq ?_
        refine wpc_block ?_
        refine wpc_seq ?_
        refine wpc_seq ?_
        refine wpc_region ?_
        refine wpl_q (q_field Try.underlying30 rfl Try.ti25 rfl rfl _ rfl) rfl ?_
        refine wpl_q (q_ld Try.underlying25 rfl rfl (show l.c[4]? = some (l.sv) from rfl)) rfl ?_
        refine wpl_q (q_pure rfl) rfl ?_
        refine wpl_q (q_idxW1 Try.underlying25 Try.ti22 rfl rfl (by first | assumption | exact SV.nil | exact SV.slv (by assumption) (by omega) (by omega) | exact arv_sv (by first | decide | (simp only [maxLen]; omega))) (by first | omega | (simp only [maxLen]; omega) | (simp only [List.length_append, List.length_cons, List.length_nil, List.length_take, maxLen]; omega) | (simp only [List.length_append, List.length_cons, List.length_nil, List.length_take]; omega))) rfl ?_
        refine wpl_q (q_ldW Try.underlying22 rfl rfl (fun w h => h.seen_old hl.s) (by first | exact v64s_get (by first | decide | omega | exact Nat.zero_lt_one | (simp; omega) | (simp; done) | (simp only [v8s_length, v32s_length, vis_length, vns_length, v64s_length]; omega)) | rfl)) rfl ?_
        refine wpl_q (q_pure rfl) rfl ?_
        refine wpl_q (q_pure rfl) rfl ?_
        refine wpl_nil ?_
        refine ex_then ?_
        refine wpc_cond rfl (fun hc38 => ?_) (fun hc38 => ?_)
        ·
         have hbad : ¬ incF l.ss (i + 1) := fun q => by
           have q2 := (incF_S.1 q).2
           have q3 := of_decide_eq_true hc38
           rw [UInt64.lt_iff_toNat_lt] at q2
           first | (rw [UInt64.le_iff_toNat_le] at q3; omega) | omega
         refine wpc_seq ?_
         refine wpc_region ?_
         refine wpl_q (q_pure rfl) rfl ?_
         refine wpl_nil ?_
         refine ex_then ?_
         refine wpc_ret ?_
         refine ex_then_ret ?_
         refine ex_block_ret ?_
         refine ex_then_ret ?_
         refine ex_then_ret ?_
         refine ex_block_ret ?_
         refine ex_then_ret ?_
         refine ret1 (.inl rfl) rfl rfl ?_
         exact fun w h => ⟨by rw [chk_8 h5 (okR_I (incF_no hbad (by omega)))], h.below⟩
        ·
         have hin : incF l.ss (i + 1) := incF_S.2 ⟨hi1, by
           have q3 := of_decide_eq_false hc38
           rw [UInt64.lt_iff_toNat_lt]
           first | (rw [UInt64.le_iff_toNat_le] at q3; omega) | omega⟩
         refine wpc_skip ?_
         refine ex_then ?_
         refine wpc_region ?_
         refine wpl_q (q_field Try.underlying30 rfl Try.ti25 rfl rfl _ rfl) rfl ?_
         refine wpl_q (q_ld Try.underlying25 rfl rfl (show l.c[4]? = some (l.sv) from rfl)) rfl ?_
         refine wpl_q (q_pure rfl) rfl ?_
         refine wpl_q (q_idxW1 Try.underlying25 Try.ti22 rfl rfl (by first | assumption | exact SV.nil | exact SV.slv (by assumption) (by omega) (by omega) | exact arv_sv (by first | decide | (simp only [maxLen]; omega))) (by first | omega | (simp only [maxLen]; omega) | (simp only [List.length_append, List.length_cons, List.length_nil, List.length_take, maxLen]; omega) | (simp only [List.length_append, List.length_cons, List.length_nil, List.length_take]; omega))) rfl ?_
         refine wpl_q (q_ldW Try.underlying22 rfl rfl (fun w h => h.seen_old hl.s) (by first | exact v64s_get (by first | decide | omega | exact Nat.zero_lt_one | (simp; omega) | (simp; done) | (simp only [v8s_length, v32s_length, vis_length, vns_length, v64s_length]; omega)) | rfl)) rfl ?_
         refine wpl_q (q_pure rfl) rfl ?_
         refine wpl_nil ?_
         refine ex_block ?_
         refine ex_then ?_
         refine wpc_region ?_
         refine wpl_q (q_pure rfl) rfl ?_
         refine wpl_q (q_addN (b := 1) rfl rfl (by first | omega | (simp only [maxLen]; omega) | (simp only [List.length_append, List.length_cons, List.length_nil, List.length_take, maxLen]; omega) | (simp only [List.length_append, List.length_cons, List.length_nil, List.length_take]; omega))) rfl ?_
         refine wpl_q (q_pure rfl) rfl ?_
         refine wpl_nil ?_
         refine ex_again ⟨i + 1, ⟨by show i + 1 ≤ l.ss.length; omega, hin⟩⟩ ?_ ?_ ?_
         ·
          exact (by repeat (first | exact trivial | refine ⟨rfl, ?_⟩))
         ·
          exact fun w h => by first | exact h | exact h.sub SubC.h SubC.h | exact h.sub (by repeat (first | exact Sub.nil | exact Sub.refl _ | with_reducible refine Sub.keep ?_ | refine Sub.drop ?_)) (by repeat (first | exact Sub.nil | exact Sub.refl _ | with_reducible refine Sub.keep ?_ | refine Sub.drop ?_))
         ·
          (show l.ss.length - (i + 1) < l.ss.length - i); omega
       ·
        simp only [decide_eq_false_iff_not] at hc29
        obtain rfl : i = l.ss.length := by omega
        refine wpc_exit ?_
        refine ex_then_exit ?_
        refine ex_then_exit ?_
        refine ex_block_hit ?_
        refine ex_then ?_
        refine wpc_seq ?_
        refine wpc_region ?_
        refine wpl_q (q_pure rfl) rfl ?_
        refine wpl_nil ?_
        refine ex_then ?_
        refine wpc_ret ?_
        refine ret1 (.inl rfl) rfl rfl ?_
        exact fun w h => ⟨by rw [chk_ok h5 (okR_ok hA hi1)], h.below⟩

end Go.Proofs.Ytgnablliekgbgaa
