/- The check of a list. -/
import Derived.Test.YtgnablliekgbgaaVC
namespace Go.Proofs.Ytgnablliekgbgaa
set_option linter.unusedSimpArgs false
set_option linter.unusedVariables false
open Go Go.PL Go.RowKit
set_option maxRecDepth 100000 in
theorem rvCheck (l : Rv) (w : World) (hl : l.seen w.cell?) (hnl : l.nm.length ≤ maxLen)  :
    Calls Try.prog 12 [.agg l.c.toArray].toArray w (Pur w (.int .i64 (chkR l))) := by
  haveI := hl.svs.one
  have lss := hl.s.sv.le
  have lcs := hl.c.sv.le
  have lps := hl.p.sv.le
  have sss := hl.s.sv
  have scs := hl.c.sv
  have sps := hl.p.sv
  simp only [maxLen] at lss lcs lps
  refine enter (m := 66) (R := Mem w [] [] []) Try.func12 rfl rfl (Nat.le_of_ble_eq_true rfl) (Mem.start w) ?_
  refine wpc_seq ?_
  refine wpc_region ?_
  refine wpl_t (t_box rfl l.c rfl) rfl (fun b1 => ?_)
  refine wpl_q (q_pure rfl) rfl ?_
  refine wpl_nil ?_
  refine ex_then ?_
  refine wpc_seq ?_
  refine wpc_seq ?_
  refine wpc_region ?_
  refine wpl_q (q_field Try.underlying30 rfl Try.ti25 rfl rfl _ rfl) rfl ?_
  refine wpl_q (q_ld Try.underlying25 rfl rfl (show l.c[4]? = some (l.sv) from rfl)) rfl ?_
  refine wpl_q (q_lenW Try.underlying25 rfl (by first | assumption | exact SV.nil | exact SV.slv (by assumption) (by omega) (by omega) | exact arv_sv (by first | decide | (simp only [maxLen]; omega)))) rfl ?_
  refine wpl_q (q_pure rfl) rfl ?_
  refine wpl_nil ?_
  refine ex_then ?_
  refine wpc_cond rfl (fun hc10 => ?_) (fun hc10 => ?_)
  ·
   have h5 : 500 < l.ss.length := by have := of_decide_eq_true hc10; omega
   refine wpc_seq ?_
   refine wpc_region ?_
   refine wpl_q (q_pure rfl) rfl ?_
   refine wpl_nil ?_
   refine ex_then ?_
   refine wpc_ret ?_
   refine ex_then_ret ?_
   refine ret1 (.inl rfl) rfl rfl ?_
   exact fun w h => ⟨by rw [chk_4 h5], h.below⟩
  ·
   have h5 : ¬ 500 < l.ss.length := by have := of_decide_eq_false hc10; omega
   refine wpc_skip ?_
   refine ex_then ?_
   refine wpc_cutc ({ x : Unit // True }) [(1, .pointer (some ⟨b1, 0, none⟩))] (fun x Lc => (3, .bool (nameF l.nm && winF l.fr l.tt)) :: Lc) (fun x => Mem w [] [.blk b1 30 l.c] []) ?_ ?_
   ·
    refine wpc_region ?_
    refine wpl_q (q_field Try.underlying30 rfl Try.ti9 rfl rfl _ rfl) rfl ?_
    refine wpl_q (q_ld Try.underlying9 rfl rfl (show l.c[0]? = some (str l.nm) from rfl)) rfl ?_
    refine wpl_t (t_pur Try.hb30 rfl fun w h => nameOk l.nm w hnl) rfl (fun b13 => ?_)
    refine wpl_q (q_pure rfl) rfl ?_
    refine wpl_bool2 14 13 rfl rfl (fun hb14 => ?_) (fun hb14 => ?_)
    ·
     have hn : nameF l.nm = true := hb14
     refine wpl_on rfl rfl ?_
     refine wpl_q (q_field Try.underlying30 rfl Try.ti24 rfl rfl _ rfl) rfl ?_
     refine wpl_on rfl rfl ?_
     refine wpl_q (q_ldP Try.underlying24 rfl Try.ti24 rfl l.win rfl rfl) rfl ?_
     refine wpl_on rfl rfl ?_
     refine wpl_t (t_pur Try.hb31 rfl fun w h => clockCheck l.fr l.tt w) rfl (fun b17 => ?_)
     refine wpl_on rfl rfl ?_
     refine wpl_q (q_pure rfl) rfl ?_
     refine wpl_q (q_pure rfl) rfl ?_
     refine wpl_re 19 rfl (congrArg Value.bool (show _ = (nameF l.nm && winF l.fr l.tt) by first | (rw [hn, Bool.true_and]; cases winF l.fr l.tt <;> rfl) | (rw [hn]; rfl))) ?_
     refine wpl_q (q_pure rfl) rfl ?_
     refine wpl_nil ?_
     refine ex_mid ⟨(), trivial⟩ ?_ ?_
     ·
      exact (by repeat (first | exact trivial | refine ⟨rfl, ?_⟩))
     ·
      exact fun w h => by first | exact h | exact h.sub SubC.h SubC.h | exact h.sub (by repeat (first | exact Sub.nil | exact Sub.refl _ | with_reducible refine Sub.keep ?_ | refine Sub.drop ?_)) (by repeat (first | exact Sub.nil | exact Sub.refl _ | with_reducible refine Sub.keep ?_ | refine Sub.drop ?_))
    ·
     have hn : nameF l.nm = false := hb14
     refine wpl_off rfl rfl rfl rfl ?_
     refine wpl_off rfl rfl rfl rfl ?_
     refine wpl_off rfl rfl rfl rfl ?_
     refine wpl_off rfl rfl rfl rfl ?_
     refine wpl_q (q_pure rfl) rfl ?_
     refine wpl_re 19 rfl (congrArg Value.bool (show _ = (nameF l.nm && winF l.fr l.tt) by first | (rw [hn, Bool.true_and]; cases winF l.fr l.tt <;> rfl) | (rw [hn]; rfl))) ?_
     refine wpl_q (q_pure rfl) rfl ?_
     refine wpl_nil ?_
     refine ex_mid ⟨(), trivial⟩ ?_ ?_
     ·
      exact (by repeat (first | exact trivial | refine ⟨rfl, ?_⟩))
     ·
      exact fun w h => by first | exact h | exact h.sub SubC.h SubC.h | exact h.sub (by repeat (first | exact Sub.nil | exact Sub.refl _ | with_reducible refine Sub.keep ?_ | refine Sub.drop ?_)) (by repeat (first | exact Sub.nil | exact Sub.refl _ | with_reducible refine Sub.keep ?_ | refine Sub.drop ?_))
   ·
    rintro ⟨_, _⟩; try dsimp only
    refine wpc_cutc ({ x : Unit // True }) [(1, .pointer (some ⟨b1, 0, none⟩))] (fun x Lc => (3, .bool (okA l)) :: Lc) (fun x => Mem w [] [.blk b1 30 l.c] []) ?_ ?_
    ·
     refine wpc_cutc ({ x : Unit // True }) [(1, .pointer (some ⟨b1, 0, none⟩)), (3, .bool (nameF l.nm && winF l.fr l.tt))] (fun x Lc => (37, .bool (sigB l.ix l.chs.length l.ps.length)) :: Lc) (fun x => Mem w [] [.blk b1 30 l.c] []) ?_ ?_
     ·
      refine wpc_region ?_
      refine wpl_q (q_field Try.underlying30 rfl Try.ti28 rfl rfl _ rfl) rfl ?_
      refine wpl_q (q_field Try.underlying28 rfl Try.ti3 rfl rfl _ rfl) rfl ?_
      refine wpl_q (q_ld Try.underlying3 rfl rfl (show l.c[5]? = some (.int .i64 l.ix) from rfl)) rfl ?_
      refine wpl_q (q_pure rfl) rfl ?_
      refine wpl_q (q_pure rfl) rfl ?_
      refine wpl_bool2 24 23 rfl rfl (fun hb24 => ?_) (fun hb24 => ?_)
      ·
       try simp only [decide_eq_true_eq, decide_eq_false_iff_not, Bool.and_eq_true, Bool.or_eq_true, beq_iff_eq, bne_iff_ne, ne_eq, Bool.not_eq_true', Bool.not_eq_false', Decidable.not_not] at hb24
       refine wpl_off rfl rfl rfl rfl ?_
       refine wpl_off rfl rfl rfl rfl ?_
       refine wpl_off rfl rfl rfl rfl ?_
       refine wpl_off rfl rfl rfl rfl ?_
       refine wpl_off rfl rfl rfl rfl ?_
       refine wpl_q (q_pure rfl) rfl ?_
       refine wpl_q (q_pure rfl) rfl ?_
       refine wpl_off rfl rfl rfl rfl ?_
       refine wpl_off rfl rfl rfl rfl ?_
       refine wpl_off rfl rfl rfl rfl ?_
       refine wpl_off rfl rfl rfl rfl ?_
       refine wpl_off rfl rfl rfl rfl ?_
       refine wpl_q (q_pure rfl) rfl ?_
       refine wpl_re 37 rfl (congrArg Value.bool (show _ = (sigB l.ix l.chs.length l.ps.length) from by
         (try simp only [bne_iff_ne, ne_eq, bne_eq_false_iff_eq, decide_eq_true_eq, decide_eq_false_iff_not, gt_iff_lt] at *)
         first
         | exact (show sigB l.ix l.chs.length l.ps.length = true by simp only [sigB, Bool.or_eq_true, decide_eq_true_eq]; omega).symm
         | (rw [Bool.eq_iff_iff]; simp only [sigB, Bool.or_eq_true, decide_eq_true_eq]; omega))) ?_
       refine wpl_nil ?_
       refine ex_mid ⟨(), trivial⟩ ?_ ?_
       ·
        exact (by repeat (first | exact trivial | refine ⟨rfl, ?_⟩))
       ·
        exact fun w h => by first | exact h | exact h.sub SubC.h SubC.h | exact h.sub (by repeat (first | exact Sub.nil | exact Sub.refl _ | with_reducible refine Sub.keep ?_ | refine Sub.drop ?_)) (by repeat (first | exact Sub.nil | exact Sub.refl _ | with_reducible refine Sub.keep ?_ | refine Sub.drop ?_))
      ·
       try simp only [decide_eq_true_eq, decide_eq_false_iff_not, Bool.and_eq_true, Bool.or_eq_true, beq_iff_eq, bne_iff_ne, ne_eq, Bool.not_eq_true', Bool.not_eq_false', Decidable.not_not] at hb24
       refine wpl_on rfl rfl ?_
       refine wpl_q (q_field Try.underlying30 rfl Try.ti28 rfl rfl _ rfl) rfl ?_
       refine wpl_on rfl rfl ?_
       refine wpl_q (q_field Try.underlying28 rfl Try.ti26 rfl rfl _ rfl) rfl ?_
       refine wpl_on rfl rfl ?_
       refine wpl_q (q_ld Try.underlying26 rfl rfl (show l.c[6]? = some (l.cv) from rfl)) rfl ?_
       refine wpl_on rfl rfl ?_
       refine wpl_q (q_lenW Try.underlying26 rfl (by first | assumption | exact SV.nil | exact SV.slv (by assumption) (by omega) (by omega) | exact arv_sv (by first | decide | (simp only [maxLen]; omega)))) rfl ?_
       refine wpl_on rfl rfl ?_
       refine wpl_q (q_pure rfl) rfl ?_
       refine wpl_q (q_pure rfl) rfl ?_
       refine wpl_q (q_pure rfl) rfl ?_
       refine wpl_bool2 31 29 rfl rfl (fun hb31 => ?_) (fun hb31 => ?_)
       ·
        try simp only [decide_eq_true_eq, decide_eq_false_iff_not, Bool.and_eq_true, Bool.or_eq_true, beq_iff_eq, bne_iff_ne, ne_eq, Bool.not_eq_true', Bool.not_eq_false', Decidable.not_not] at hb31
        refine wpl_off rfl rfl rfl rfl ?_
        refine wpl_off rfl rfl rfl rfl ?_
        refine wpl_off rfl rfl rfl rfl ?_
        refine wpl_off rfl rfl rfl rfl ?_
        refine wpl_off rfl rfl rfl rfl ?_
        refine wpl_q (q_pure rfl) rfl ?_
        refine wpl_re 37 rfl (congrArg Value.bool (show _ = (sigB l.ix l.chs.length l.ps.length) from by
          (try simp only [bne_iff_ne, ne_eq, bne_eq_false_iff_eq, decide_eq_true_eq, decide_eq_false_iff_not, gt_iff_lt] at *)
          first
          | exact (show sigB l.ix l.chs.length l.ps.length = true by simp only [sigB, Bool.or_eq_true, decide_eq_true_eq]; omega).symm
          | (rw [Bool.eq_iff_iff]; simp only [sigB, Bool.or_eq_true, decide_eq_true_eq]; omega))) ?_
        refine wpl_nil ?_
        refine ex_mid ⟨(), trivial⟩ ?_ ?_
        ·
         exact (by repeat (first | exact trivial | refine ⟨rfl, ?_⟩))
        ·
         exact fun w h => by first | exact h | exact h.sub SubC.h SubC.h | exact h.sub (by repeat (first | exact Sub.nil | exact Sub.refl _ | with_reducible refine Sub.keep ?_ | refine Sub.drop ?_)) (by repeat (first | exact Sub.nil | exact Sub.refl _ | with_reducible refine Sub.keep ?_ | refine Sub.drop ?_))
       ·
        try simp only [decide_eq_true_eq, decide_eq_false_iff_not, Bool.and_eq_true, Bool.or_eq_true, beq_iff_eq, bne_iff_ne, ne_eq, Bool.not_eq_true', Bool.not_eq_false', Decidable.not_not] at hb31
        refine wpl_on rfl rfl ?_
        refine wpl_q (q_field Try.underlying30 rfl Try.ti28 rfl rfl _ rfl) rfl ?_
        refine wpl_on rfl rfl ?_
        refine wpl_q (q_field Try.underlying28 rfl Try.ti26 rfl rfl _ rfl) rfl ?_
        refine wpl_on rfl rfl ?_
        refine wpl_q (q_ld Try.underlying26 rfl rfl (show l.c[7]? = some (l.pv) from rfl)) rfl ?_
        refine wpl_on rfl rfl ?_
        refine wpl_q (q_lenW Try.underlying26 rfl (by first | assumption | exact SV.nil | exact SV.slv (by assumption) (by omega) (by omega) | exact arv_sv (by first | decide | (simp only [maxLen]; omega)))) rfl ?_
        refine wpl_on rfl rfl ?_
        refine wpl_q (q_pure rfl) rfl ?_
        refine wpl_q (q_pure rfl) rfl ?_
        refine wpl_re 37 rfl (congrArg Value.bool (show _ = (sigB l.ix l.chs.length l.ps.length) from by
          (try simp only [bne_iff_ne, ne_eq, bne_eq_false_iff_eq, decide_eq_true_eq, decide_eq_false_iff_not, gt_iff_lt] at *)
          first
          | exact (show sigB l.ix l.chs.length l.ps.length = true by simp only [sigB, Bool.or_eq_true, decide_eq_true_eq]; omega).symm
          | (rw [Bool.eq_iff_iff]; simp only [sigB, Bool.or_eq_true, decide_eq_true_eq]; omega))) ?_
        refine wpl_nil ?_
        refine ex_mid ⟨(), trivial⟩ ?_ ?_
        ·
         exact (by repeat (first | exact trivial | refine ⟨rfl, ?_⟩))
        ·
         exact fun w h => by first | exact h | exact h.sub SubC.h SubC.h | exact h.sub (by repeat (first | exact Sub.nil | exact Sub.refl _ | with_reducible refine Sub.keep ?_ | refine Sub.drop ?_)) (by repeat (first | exact Sub.nil | exact Sub.refl _ | with_reducible refine Sub.keep ?_ | refine Sub.drop ?_))
     ·
      rintro ⟨_, _⟩; try dsimp only
      refine wpc_cond rfl (fun hc37 => ?_) (fun hc37 => ?_)
      ·
       have hs : (sigB l.ix l.chs.length l.ps.length) = true := hc37
       refine wpc_region ?_
       refine wpl_q (q_pure rfl) rfl ?_
       refine wpl_q (q_pure rfl) rfl ?_
       refine wpl_bool2 39 3 rfl rfl (fun hb39 => ?_) (fun hb39 => ?_)
       ·
        have hnw : (nameF l.nm && winF l.fr l.tt) = true := hb39
        refine wpl_on rfl rfl ?_
        refine wpl_q (q_field Try.underlying30 rfl Try.ti28 rfl rfl _ rfl) rfl ?_
        refine wpl_on rfl rfl ?_
        refine wpl_q (q_field Try.underlying28 rfl Try.ti26 rfl rfl _ rfl) rfl ?_
        refine wpl_on rfl rfl ?_
        refine wpl_q (q_ld Try.underlying26 rfl rfl (show l.c[7]? = some (l.pv) from rfl)) rfl ?_
        refine wpl_on rfl rfl ?_
        refine wpl_q (q_lenW Try.underlying26 rfl (by first | assumption | exact SV.nil | exact SV.slv (by assumption) (by omega) (by omega) | exact arv_sv (by first | decide | (simp only [maxLen]; omega)))) rfl ?_
        refine wpl_on rfl rfl ?_
        refine wpl_q (q_field Try.underlying30 rfl Try.ti28 rfl rfl _ rfl) rfl ?_
        refine wpl_on rfl rfl ?_
        refine wpl_q (q_ldP Try.underlying28 rfl Try.ti28 rfl l.sig rfl rfl) rfl ?_
        refine wpl_on rfl rfl ?_
        refine wpl_t (t_pur Try.hb32 rfl fun w h => check7 ((l.ps.length : Nat) : Int) l.ix l.cv l.pv l.chs l.ps w scs sps) rfl (fun b46 => ?_)
        refine wpl_on rfl rfl ?_
        refine wpl_q (q_pure rfl) rfl ?_
        refine wpl_q (q_pure rfl) rfl ?_
        refine wpl_re 48 rfl (congrArg Value.bool (show _ = okA l by unfold okA gsigB; rw [hs, hnw]; first | rfl | simp)) ?_
        refine wpl_q (q_pure rfl) rfl ?_
        refine wpl_nil ?_
        refine ex_mid ⟨(), trivial⟩ ?_ ?_
        ·
         exact (by repeat (first | exact trivial | refine ⟨rfl, ?_⟩))
        ·
         exact fun w h => by first | exact h | exact h.sub SubC.h SubC.h | exact h.sub (by repeat (first | exact Sub.nil | exact Sub.refl _ | with_reducible refine Sub.keep ?_ | refine Sub.drop ?_)) (by repeat (first | exact Sub.nil | exact Sub.refl _ | with_reducible refine Sub.keep ?_ | refine Sub.drop ?_))
       ·
        have hnw : (nameF l.nm && winF l.fr l.tt) = false := hb39
        refine wpl_off rfl rfl rfl rfl ?_
        refine wpl_off rfl rfl rfl rfl ?_
        refine wpl_off rfl rfl rfl rfl ?_
        refine wpl_off rfl rfl rfl rfl ?_
        refine wpl_off rfl rfl rfl rfl ?_
        refine wpl_off rfl rfl rfl rfl ?_
        refine wpl_off rfl rfl rfl rfl ?_
        refine wpl_off rfl rfl rfl rfl ?_
        refine wpl_q (q_pure rfl) rfl ?_
        refine wpl_re 48 rfl (congrArg Value.bool (show _ = okA l by unfold okA gsigB; rw [hs, hnw]; first | rfl | simp)) ?_
        refine wpl_q (q_pure rfl) rfl ?_
        refine wpl_nil ?_
        refine ex_mid ⟨(), trivial⟩ ?_ ?_
        ·
         exact (by repeat (first | exact trivial | refine ⟨rfl, ?_⟩))
        ·
         exact fun w h => by first | exact h | exact h.sub SubC.h SubC.h | exact h.sub (by repeat (first | exact Sub.nil | exact Sub.refl _ | with_reducible refine Sub.keep ?_ | refine Sub.drop ?_)) (by repeat (first | exact Sub.nil | exact Sub.refl _ | with_reducible refine Sub.keep ?_ | refine Sub.drop ?_))
      ·
       have hs : (sigB l.ix l.chs.length l.ps.length) = false := hc37
       refine wpc_re 3 rfl (congrArg Value.bool (show _ = okA l by unfold okA gsigB; rw [hs]; simp)) ?_
       refine wpc_skip ?_
       refine ex_mid ⟨(), trivial⟩ ?_ ?_
       ·
        exact (by repeat (first | exact trivial | refine ⟨rfl, ?_⟩))
       ·
        exact fun w h => by first | exact h | exact h.sub SubC.h SubC.h | exact h.sub (by repeat (first | exact Sub.nil | exact Sub.refl _ | with_reducible refine Sub.keep ?_ | refine Sub.drop ?_)) (by repeat (first | exact Sub.nil | exact Sub.refl _ | with_reducible refine Sub.keep ?_ | refine Sub.drop ?_))
    ·
     rintro ⟨_, _⟩; try dsimp only
     refine wpc_seq ?_
     refine wpc_region ?_
     refine wpl_q (q_pure rfl) rfl ?_
     refine wpl_nil ?_
     refine ex_then ?_
     refine wpc_seq ?_
     refine wpc_seq ?_
     refine wpc_region ?_
     refine wpl_q (q_field Try.underlying30 rfl Try.ti25 rfl rfl _ rfl) rfl ?_
     refine wpl_q (q_ld Try.underlying25 rfl rfl (show l.c[4]? = some (l.sv) from rfl)) rfl ?_
     refine wpl_q (q_lenW Try.underlying25 rfl (by first | assumption | exact SV.nil | exact SV.slv (by assumption) (by omega) (by omega) | exact arv_sv (by first | decide | (simp only [maxLen]; omega)))) rfl ?_
     refine wpl_re 3 rfl (congrArg Value.bool (show _ = (okA l && decide (incF l.ss 0)) by rw [decide_eq_true (incF_0 _), Bool.and_true])) ?_
     refine wpl_q (q_pure rfl) rfl ?_
     refine wpl_nil ?_
     refine ex_then ?_
     refine wpc_block ?_
     refine wpc_loopc (ι := { x : Nat // (x ≤ l.ss.length) }) [(50, _), (51, _)] (fun x Lc => (52, .int .i64 ((x.1 : Nat) : Int)) :: (4, .int .u64 ((lastN l.ss x.1).toNat : Int)) :: (3, .bool (okA l && decide (incF l.ss x.1))) :: Lc) (fun x => Mem w [] [.blk b1 30 l.c] []) (fun x => l.ss.length - x.1) ⟨0, Nat.zero_le _⟩ (by repeat (first | exact trivial | refine ⟨rfl, ?_⟩)) ?_ ?_
     ·
      exact fun w h => h
     ·
      rintro ⟨i, hi0⟩; try dsimp only
      have hi0 : i ≤ l.ss.length := hi0
      refine wpc_seq ?_
      refine wpc_region ?_
      refine wpl_q (q_pure rfl) rfl ?_
      refine wpl_nil ?_
      refine ex_then ?_
      refine wpc_seq ?_
      refine wpc_cond rfl (fun hc53 => ?_) (fun hc53 => ?_)
      ·
       simp only [decide_eq_true_eq] at hc53
       have hil : i < l.ss.length := by omega
       refine wpc_skip ?_
       refine ex_then ?_
       refine wpc_seq ?_
       refine wpc_block ?_
       refine wpc_seq ?_
       refine wpc_region ?_
       refine wpl_q (q_idxW1 Try.underlying25 Try.ti22 rfl rfl (by first | assumption | exact SV.nil | exact SV.slv (by assumption) (by omega) (by omega) | exact arv_sv (by first | decide | (simp only [maxLen]; omega))) (by first | omega | (simp only [maxLen]; omega) | (simp only [List.length_append, List.length_cons, List.length_nil, List.length_take, maxLen]; omega) | (simp only [List.length_append, List.length_cons, List.length_nil, List.length_take]; omega))) rfl ?_
       refine wpl_q (q_ldW Try.underlying22 rfl rfl (fun w h => h.seen_old hl.s) (by first | exact v64s_get (by first | decide | omega | exact Nat.zero_lt_one | (simp; omega) | (simp; done) | (simp only [v8s_length, v32s_length, vis_length, vns_length, v64s_length]; omega)) | rfl)) rfl ?_
       refine wpl_q (q_pure rfl) rfl ?_
       refine wpl_nil ?_
       refine ex_then ?_
       refine wpc_seq ?_
       refine wpc_region ?_
       refine wpl_q (q_pure rfl) rfl ?_
       refine wpl_q (q_pure rfl) rfl ?_
       refine wpl_bool2 57 3 rfl rfl (fun hb57 => ?_) (fun hb57 => ?_)
       ·
        have hk : (okA l && decide (incF l.ss i)) = true := hb57
        refine wpl_on rfl rfl ?_
        refine wpl_q (q_pure rfl) rfl ?_
        refine wpl_on rfl rfl ?_
        refine wpl_q (q_pure rfl) rfl ?_
        refine wpl_on rfl rfl ?_
        refine wpl_q (q_pure rfl) rfl ?_
        refine wpl_q (q_pure rfl) rfl ?_
        refine wpl_re 61 rfl (congrArg Value.bool (show _ = (okA l && decide (incF l.ss (i + 1))) by
          rw [decide_eq_decide.2 incF_S, Bool.decide_and, ← Bool.and_assoc, hk]
          first
          | rfl
          | (rw [Bool.true_and]; first | rfl | exact decide_eq_decide.2 (by first | exact Iff.rfl | (rw [UInt64.lt_iff_toNat_lt]; omega))))) ?_
        refine wpl_q (q_pure rfl) rfl ?_
        refine wpl_nil ?_
        refine ex_then ?_
        refine wpc_region ?_
        refine wpl_q (q_pure rfl) rfl ?_
        refine wpl_q (q_pure rfl) rfl ?_
        refine wpl_nil ?_
        refine ex_block ?_
        refine ex_then ?_
        refine wpc_region ?_
        refine wpl_q (q_addN (b := 1) rfl rfl (by first | omega | (simp only [maxLen]; omega) | (simp only [List.length_append, List.length_cons, List.length_nil, List.length_take, maxLen]; omega) | (simp only [List.length_append, List.length_cons, List.length_nil, List.length_take]; omega))) rfl ?_
        refine wpl_q (q_pure rfl) rfl ?_
        refine wpl_nil ?_
        refine ex_again ⟨i + 1, (show i + 1 ≤ l.ss.length by omega)⟩ ?_ ?_ ?_
        ·
         exact (by repeat (first | exact trivial | refine ⟨rfl, ?_⟩))
        ·
         exact fun w h => by first | exact h | exact h.sub SubC.h SubC.h | exact h.sub (by repeat (first | exact Sub.nil | exact Sub.refl _ | with_reducible refine Sub.keep ?_ | refine Sub.drop ?_)) (by repeat (first | exact Sub.nil | exact Sub.refl _ | with_reducible refine Sub.keep ?_ | refine Sub.drop ?_))
        ·
         (show l.ss.length - (i + 1) < l.ss.length - i); omega
       ·
        have hk : (okA l && decide (incF l.ss i)) = false := hb57
        refine wpl_off rfl rfl rfl rfl ?_
        refine wpl_off rfl rfl rfl rfl ?_
        refine wpl_off rfl rfl rfl rfl ?_
        refine wpl_q (q_pure rfl) rfl ?_
        refine wpl_re 61 rfl (congrArg Value.bool (show _ = (okA l && decide (incF l.ss (i + 1))) by
          rw [decide_eq_decide.2 incF_S, Bool.decide_and, ← Bool.and_assoc, hk]
          first
          | rfl
          | (rw [Bool.true_and]; first | rfl | exact decide_eq_decide.2 (by first | exact Iff.rfl | (rw [UInt64.lt_iff_toNat_lt]; omega))))) ?_
        refine wpl_q (q_pure rfl) rfl ?_
        refine wpl_nil ?_
        refine ex_then ?_
        refine wpc_region ?_
        refine wpl_q (q_pure rfl) rfl ?_
        refine wpl_q (q_pure rfl) rfl ?_
        refine wpl_nil ?_
        refine ex_block ?_
        refine ex_then ?_
        refine wpc_region ?_
        refine wpl_q (q_addN (b := 1) rfl rfl (by first | omega | (simp only [maxLen]; omega) | (simp only [List.length_append, List.length_cons, List.length_nil, List.length_take, maxLen]; omega) | (simp only [List.length_append, List.length_cons, List.length_nil, List.length_take]; omega))) rfl ?_
        refine wpl_q (q_pure rfl) rfl ?_
        refine wpl_nil ?_
        refine ex_again ⟨i + 1, (show i + 1 ≤ l.ss.length by omega)⟩ ?_ ?_ ?_
        ·
         exact (by repeat (first | exact trivial | refine ⟨rfl, ?_⟩))
        ·
         exact fun w h => by first | exact h | exact h.sub SubC.h SubC.h | exact h.sub (by repeat (first | exact Sub.nil | exact Sub.refl _ | with_reducible refine Sub.keep ?_ | refine Sub.drop ?_)) (by repeat (first | exact Sub.nil | exact Sub.refl _ | with_reducible refine Sub.keep ?_ | refine Sub.drop ?_))
        ·
         (show l.ss.length - (i + 1) < l.ss.length - i); omega
      ·
       simp only [decide_eq_false_iff_not] at hc53
       obtain rfl : i = l.ss.length := by omega
       refine wpc_exit ?_
       refine ex_then_exit ?_
       refine ex_then_exit ?_
       refine ex_block_hit ?_
       refine ex_then ?_
       refine wpc_seq ?_
       refine wpc_seq ?_
       refine wpc_region ?_
       refine wpl_q (q_pure rfl) rfl ?_
       refine wpl_q (q_pure rfl) rfl ?_
       refine wpl_nil ?_
       refine ex_then ?_
       refine wpc_cond rfl (fun hc65 => ?_) (fun hc65 => ?_)
       ·
        have hk : okR l = false := by rw [Bool.not_eq_true'] at hc65; exact hc65
        refine wpc_seq ?_
        refine wpc_region ?_
        refine wpl_q (q_pure rfl) rfl ?_
        refine wpl_nil ?_
        refine ex_then ?_
        refine wpc_ret ?_
        refine ex_then_ret ?_
        refine ret1 (.inl rfl) rfl rfl ?_
        exact fun w h => ⟨by rw [chk_8 h5 hk], h.below⟩
       ·
        have hk : okR l = true := by rw [Bool.not_eq_false'] at hc65; exact hc65
        refine wpc_skip ?_
        refine ex_then ?_
        refine wpc_seq ?_
        refine wpc_region ?_
        refine wpl_q (q_pure rfl) rfl ?_
        refine wpl_nil ?_
        refine ex_then ?_
        refine wpc_ret ?_
        refine ret1 (.inl rfl) rfl rfl ?_
        exact fun w h => ⟨by rw [chk_ok h5 hk], h.below⟩

end Go.Proofs.Ytgnablliekgbgaa
