/- The law RevokeChecks. -/
import Derived.Test.YtgnablliekgbgaaVO
import Derived.Test.YtgnablliekgbgaaVI
namespace Go.Proofs.Ytgnablliekgbgaa
set_option linter.unusedSimpArgs false
set_option linter.unusedVariables false
open Go Go.PL Go.RowKit

theorem big_no {l : Rv} (h : bigR l = false) : l.nm.length ≤ 500 ∧ l.ss.length ≤ 520 ∧ l.chs.length ≤ 60 ∧ l.ps.length ≤ 60 := by
  unfold bigR at h
  simp only [Bool.or_eq_false_iff, decide_eq_false_iff_not] at h
  omega

set_option maxRecDepth 100000 in
theorem lawChecks11 (a : Rv) (b : Rv) (s : UInt64) (w : World) (hla : a.seen w.cell?) (hna : a.nm.length ≤ maxLen) (hlb : b.seen w.cell?) (hnb : b.nm.length ≤ maxLen)  :
    Calls Try.prog 3 [.agg a.c.toArray, .agg b.c.toArray, .int .u64 s.toNat].toArray w (Pur w (.bool true)) := by
  haveI := hla.svs.one
  haveI := hlb.svs.one
  refine enter (m := 78) (R := Mem w [] [] []) Try.func3 rfl rfl (Nat.le_of_ble_eq_true rfl) (Mem.start w) ?_
  refine wpc_seq ?_
  refine wpc_region ?_
  refine wpl_t (t_box rfl a.c rfl) rfl (fun b3 => ?_)
  refine wpl_t (t_box rfl b.c rfl) rfl (fun b4 => ?_)
  refine wpl_q (q_pure rfl) rfl ?_
  refine wpl_nil ?_
  refine ex_then ?_
  refine wpc_seq ?_
  refine wpc_seq ?_
  refine wpc_region ?_
  refine wpl_q (q_ldN Try.underlying30 rfl Try.ti30 rfl LenC.h) rfl ?_
  refine wpl_t (t_pur Try.hb7 rfl fun w h => refRvGreat a w (hla.old h rfl) hna) rfl (fun b15 => ?_)
  refine wpl_q (q_pure rfl) rfl ?_
  refine wpl_bool2 16 15 rfl rfl (fun hb16 => ?_) (fun hb16 => ?_)
  ·
   refine wpl_off rfl rfl rfl rfl ?_
   refine wpl_off rfl rfl rfl rfl ?_
   refine wpl_q (q_pure rfl) rfl ?_
   refine wpl_nil ?_
   refine ex_then ?_
   refine wpc_cond_t rfl ?_
   refine wpc_seq ?_
   refine wpc_region ?_
   refine wpl_q (q_pure rfl) rfl ?_
   refine wpl_nil ?_
   refine ex_then ?_
   refine wpc_ret ?_
   refine ex_then_ret ?_
   refine ret1 (.inl rfl) rfl rfl ?_
   exact fun w h => ⟨by first | rfl | simp, h.below⟩
  ·
   obtain ⟨a1, a2, a3, a4⟩ := big_no (l := a) hb16
   refine wpl_on rfl rfl ?_
   refine wpl_q (q_ldN Try.underlying30 rfl Try.ti30 rfl LenC.h) rfl ?_
   refine wpl_on rfl rfl ?_
   refine wpl_t (t_pur Try.hb7 rfl fun w h => refRvGreat b w (hlb.old h rfl) hnb) rfl (fun b18 => ?_)
   refine wpl_q (q_pure rfl) rfl ?_
   refine wpl_nil ?_
   refine ex_then ?_
   refine wpc_cond rfl (fun hc19 => ?_) (fun hc19 => ?_)
   ·
    refine wpc_seq ?_
    refine wpc_region ?_
    refine wpl_q (q_pure rfl) rfl ?_
    refine wpl_nil ?_
    refine ex_then ?_
    refine wpc_ret ?_
    refine ex_then_ret ?_
    refine ret1 (.inl rfl) rfl rfl ?_
    exact fun w h => ⟨by first | rfl | simp, h.below⟩
   ·
    refine wpc_skip ?_
    refine ex_then ?_
    refine wpc_seq ?_
    refine wpc_region ?_
    refine wpl_q (q_ldN Try.underlying30 rfl Try.ti30 rfl LenC.h) rfl ?_
    refine wpl_tp (t_callP3 Try.hb8 rfl fun w h => refRvTwin a w (hla.old h rfl) hna a2 a3 a4) rfl (fun b21 p21 => ?_)
    haveI : OneC (a.re b21).c := Rv.svs.one (l := a.re b21) p21
    refine wpl_t (t_alloc Try.ti30 Rv.z.c rfl) rfl (fun b7 => ?_)
    refine wpl_t0 (t_stA Try.ti30 rfl rfl LenC.h OneC.h LenC.h) (fun _ => ?_)
    refine wpl_nil ?_
    refine ex_then ?_
    refine wpc_seq ?_
    refine wpc_region ?_
    refine wpl_q (q_ldN Try.underlying30 rfl Try.ti30 rfl LenC.h) rfl ?_
    refine wpl_q (q_pure rfl) rfl ?_
    refine wpl_t (t_pur Try.hb9 rfl fun w h => revoked a s w (hla.old h rfl) hna) rfl (fun b25 => ?_)
    refine wpl_q (q_pure rfl) rfl ?_
    refine wpl_q (q_pure rfl) rfl ?_
    refine wpl_q (q_pure rfl) rfl ?_
    refine wpl_q (q_pure rfl) rfl ?_
    refine wpl_q (q_pure rfl) rfl ?_
    refine wpl_nil ?_
    refine ex_then ?_
    refine wpc_seq ?_
    refine wpc_region ?_
    refine wpl_q (q_ldN Try.underlying30 rfl Try.ti30 rfl LenC.h) rfl ?_
    refine wpl_q (q_pure rfl) rfl ?_
    refine wpl_t (t_pur Try.hb10 rfl fun w h => refRevoked a s w (hla.old h rfl) hna) rfl (fun b31 => ?_)
    refine wpl_q (q_pure rfl) rfl ?_
    refine wpl_q (q_pure rfl) rfl ?_
    refine wpl_q (q_pure rfl) rfl ?_
    refine wpl_q (q_pure rfl) rfl ?_
    refine wpl_q (q_pure rfl) rfl ?_
    refine wpl_nil ?_
    refine ex_then ?_
    refine wpc_seq ?_
    refine wpc_region ?_
    refine wpl_q (q_ldN Try.underlying30 rfl Try.ti30 rfl LenC.h) rfl ?_
    refine wpl_tp (t_callP3 Try.hb11 rfl fun w h => rvTwin a w (hla.old h rfl) hna a2 a3 a4) rfl (fun b35 p35 => ?_)
    haveI : OneC (a.re b35).c := Rv.svs.one (l := a.re b35) p35
    refine wpl_t (t_alloc Try.ti30 Rv.z.c rfl) rfl (fun b12 => ?_)
    refine wpl_t0 (t_stA Try.ti30 rfl rfl LenC.h OneC.h LenC.h) (fun _ => ?_)
    refine wpl_nil ?_
    refine ex_then ?_
    refine wpc_seq ?_
    refine wpc_draw 99 (by kernel_rfl) (fun _ h => h.drew) ?_
    refine wpd_q 0 rfl (by kernel_rfl) trivial (q_ldN Try.underlying30 rfl Try.ti30 rfl LenC.h) rfl (fun _ h => h) ?_
    refine wpd_q 2 rfl (by kernel_rfl) trivial (q_ldN Try.underlying30 rfl Try.ti30 rfl LenC.h) rfl (fun _ h => h) ?_
    refine wpd_t 1 rfl (by kernel_rfl) trivial (t_pur Try.hb12 rfl fun w h => rvCheck a w (hla.old h rfl) hna) rfl (fun _ => sk0) (fun b37 => ?_)
    refine wpd_t 3 rfl (by kernel_rfl) trivial (t_pur Try.hb13 rfl fun w h => refRvCheck a w (hla.old h rfl) hna) rfl (fun _ => sk0) (fun b39 => ?_)
    refine wpd_p 4 rfl (by kernel_rfl) trivial (q_tru (q_eqI rfl rfl) rfl) rfl sk0 ?_
    refine wpd_p 5 rfl (by kernel_rfl) trivial (q_pure rfl) rfl sk0 ?_
    refine wpd_q 6 rfl (by kernel_rfl) ⟨_, rfl, rfl⟩ (q_ldN Try.underlying30 rfl Try.ti30 rfl LenC.h) rfl (fun _ h => h) ?_
    refine wpd_q 7 rfl (by kernel_rfl) ⟨_, rfl, rfl⟩ (q_ldN Try.underlying30 rfl Try.ti30 rfl LenC.h) rfl (fun _ h => h) ?_
    refine wpd_q 9 rfl (by kernel_rfl) ⟨_, rfl, rfl⟩ (q_ldN Try.underlying30 rfl Try.ti30 rfl LenC.h) rfl (fun _ h => h) ?_
    refine wpd_q 10 rfl (by kernel_rfl) ⟨_, rfl, rfl⟩ (q_ldN Try.underlying30 rfl Try.ti30 rfl LenC.h) rfl (fun _ h => h) ?_
    refine wpd_t 8 rfl (by kernel_rfl) ⟨_, rfl, rfl⟩ (t_pur Try.hb14 rfl fun w h => rvSame a b w (hla.old h rfl) (hlb.old h rfl)) rfl (fun _ => sk0) (fun b44 => ?_)
    refine wpd_t 11 rfl (by kernel_rfl) ⟨_, rfl, rfl⟩ (t_pur Try.hb15 rfl fun w h => refRvSame a b w (hla.old h rfl) (hlb.old h rfl)) rfl (fun _ => sk0) (fun b47 => ?_)
    refine wpd_p 12 rfl (by kernel_rfl) ⟨_, rfl, rfl⟩ (q_tru (q_beq Try.underlying4 rfl rfl) rfl) rfl sk0 ?_
    refine wpd_p 13 rfl (by kernel_rfl) trivial (q_pure rfl) rfl sk0 ?_
    refine wpd_p 14 rfl (by kernel_rfl) trivial (q_pure rfl) rfl sk0 ?_
    refine wpd_q 15 rfl (by kernel_rfl) ⟨_, rfl, rfl⟩ (q_ldN Try.underlying30 rfl Try.ti30 rfl LenC.h) rfl (fun _ h => h) ?_
    refine wpd_q 16 rfl (by kernel_rfl) ⟨_, rfl, rfl⟩ (q_ldN Try.underlying30 rfl Try.ti30 rfl LenC.h) rfl (fun _ h => h) ?_
    refine wpd_t 17 rfl (by kernel_rfl) ⟨_, rfl, rfl⟩ (t_pur (v := .bool true) Try.hb14 rfl fun w h => by
      have q := rvSame a (a.re b21) w (hla.old h rfl) (re_seen (h.seen_row (by repeat (first | exact List.mem_cons_self .. | apply List.mem_cons_of_mem))) (h.seen_row (by repeat (first | exact List.mem_cons_self .. | apply List.mem_cons_of_mem))) (h.seen_row (by repeat (first | exact List.mem_cons_self .. | apply List.mem_cons_of_mem))) hla.lc hla.lp)
      rwa [decide_eq_true (re_eqv a b21)] at q) rfl (fun _ => sk0) (fun b53 => ?_)
    refine wpd_p 18 rfl (by kernel_rfl) trivial (q_pure rfl) rfl sk0 ?_
    refine wpd_p 19 rfl (by kernel_rfl) trivial (q_pure rfl) rfl sk0 ?_
    refine wpd_p 20 rfl (by kernel_rfl) ⟨_, rfl, rfl⟩ (q_pure rfl) rfl sk0 ?_
    refine wpd_p 21 rfl (by kernel_rfl) ⟨_, rfl, rfl⟩ (q_pure rfl) rfl sk0 ?_
    refine wpd_p 22 rfl (by kernel_rfl) ⟨_, rfl, rfl⟩ (q_tru (q_beq Try.underlying4 rfl rfl) rfl) rfl sk0 ?_
    refine wpd_p 23 rfl (by kernel_rfl) trivial (q_pure rfl) rfl sk0 ?_
    refine wpd_p 24 rfl (by kernel_rfl) trivial (q_pure rfl) rfl sk0 ?_
    refine wpd_p 25 rfl (by kernel_rfl) ⟨_, rfl, rfl⟩ (q_pure rfl) rfl sk0 ?_
    refine wpd_p 26 rfl (by kernel_rfl) ⟨_, rfl, rfl⟩ (q_pure rfl) rfl sk0 ?_
    refine wpd_p 27 rfl (by kernel_rfl) ⟨_, rfl, rfl⟩ (q_tru (q_eqI rfl rfl) rfl) rfl sk0 ?_
    refine wpd_p 28 rfl (by kernel_rfl) trivial (q_pure rfl) rfl sk0 ?_
    refine wpd_p 29 rfl (by kernel_rfl) trivial (q_pure rfl) rfl sk0 ?_
    refine wpd_q 30 rfl (by kernel_rfl) ⟨_, rfl, rfl⟩ (q_ldN Try.underlying30 rfl Try.ti30 rfl LenC.h) rfl (fun _ h => h) ?_
    refine wpd_q 31 rfl (by kernel_rfl) ⟨_, rfl, rfl⟩ (q_ldN Try.underlying30 rfl Try.ti30 rfl LenC.h) rfl (fun _ h => h) ?_
    refine wpd_t 32 rfl (by kernel_rfl) ⟨_, rfl, rfl⟩ (t_pur (v := .bool true) Try.hb15 rfl fun w h => by
      have q := refRvSame a (a.re b35) w (hla.old h rfl) (re_seen (h.seen_row (by repeat (first | exact List.mem_cons_self .. | apply List.mem_cons_of_mem))) (h.seen_row (by repeat (first | exact List.mem_cons_self .. | apply List.mem_cons_of_mem))) (h.seen_row (by repeat (first | exact List.mem_cons_self .. | apply List.mem_cons_of_mem))) hla.lc hla.lp)
      rwa [decide_eq_true (re_eqv a b35)] at q) rfl (fun _ => sk0) (fun b68 => ?_)
    refine wpd_p 33 rfl (by kernel_rfl) trivial (q_pure rfl) rfl sk0 ?_
    refine wpd_p 34 rfl (by kernel_rfl) trivial (q_pure rfl) rfl sk0 ?_
    refine wpd_done (by kernel_rfl) ?_
    refine ex_then ?_
    refine wpc_seq ?_
    refine wpc_region ?_
    refine wpl_q (q_ldN Try.underlying30 rfl Try.ti30 rfl LenC.h) rfl ?_
    refine wpl_tp (t_callL [.row b35.1 a.ss.length 22 1 (v64s a.ss), .row b35.2.1 a.chs.length 62 16 (v8s a.chs.flatten)] [.blk b12 30 (a.re b35).c, .row b35.2.2 a.ps.length 62 16 (v8s a.ps.flatten), .blk b7 30 (a.re b21).c, .row b21.1 a.ss.length 22 1 (v64s a.ss), .row b21.2.1 a.chs.length 62 16 (v8s a.chs.flatten), .row b21.2.2 a.ps.length 62 16 (v8s a.ps.flatten), .blk b4 30 b.c, .blk b3 30 a.c] [.row b35.1 a.ss.length 22 1 (v64s a.ss), .row b35.2.1 a.chs.length 62 16 (v8s a.chs.flatten), .blk b12 30 (a.re b35).c, .row b35.2.2 a.ps.length 62 16 (v8s a.ps.flatten), .blk b7 30 (a.re b21).c, .row b21.1 a.ss.length 22 1 (v64s a.ss), .row b21.2.1 a.chs.length 62 16 (v8s a.chs.flatten), .row b21.2.2 a.ps.length 62 16 (v8s a.ps.flatten), .blk b4 30 b.c, .blk b3 30 a.c] (fun x => [.row b35.1 a.ss.length 22 1 (v64s x.1), .row b35.2.1 a.chs.length 62 16 (v8s x.2), .blk b12 30 (a.re b35).c, .row b35.2.2 a.ps.length 62 16 (v8s a.ps.flatten), .blk b7 30 (a.re b21).c, .row b21.1 a.ss.length 22 1 (v64s a.ss), .row b21.2.1 a.chs.length 62 16 (v8s a.chs.flatten), .row b21.2.2 a.ps.length 62 16 (v8s a.ps.flatten), .blk b4 30 b.c, .blk b3 30 a.c]) rfl inferInstance (fun _ => rfl) Try.hb16 rfl fun w h h2 => spoil (a.re b35) w h2 p35 hla.lc) rfl (fun b71 p71 => ?_)
    refine wpl_nil ?_
    refine ex_then ?_
    refine wpc_seq ?_
    refine wpc_region ?_
    refine wpl_q (q_pure rfl) rfl ?_
    refine wpl_q (q_pure rfl) rfl ?_
    refine wpl_on rfl rfl ?_
    refine wpl_q (q_ldN Try.underlying30 rfl Try.ti30 rfl LenC.h) rfl ?_
    refine wpl_on rfl rfl ?_
    refine wpl_q (q_ldN Try.underlying30 rfl Try.ti30 rfl LenC.h) rfl ?_
    refine wpl_on rfl rfl ?_
    refine wpl_t (t_pur (v := .bool true) Try.hb15 rfl fun w h => by
      have q := refRvSame a (a.re b21) w (hla.old h rfl) (re_seen (h.seen_row (by repeat (first | exact List.mem_cons_self .. | apply List.mem_cons_of_mem))) (h.seen_row (by repeat (first | exact List.mem_cons_self .. | apply List.mem_cons_of_mem))) (h.seen_row (by repeat (first | exact List.mem_cons_self .. | apply List.mem_cons_of_mem))) hla.lc hla.lp)
      rwa [decide_eq_true (re_eqv a b21)] at q) rfl (fun b76 => ?_)
    refine wpl_q (q_pure rfl) rfl ?_
    refine wpl_q (q_pure rfl) rfl ?_
    refine wpl_nil ?_
    refine ex_then ?_
    refine wpc_ret ?_
    refine ret1 (.inl rfl) rfl rfl ?_
    exact fun w h => ⟨by first | rfl | simp, h.below⟩

end Go.Proofs.Ytgnablliekgbgaa
