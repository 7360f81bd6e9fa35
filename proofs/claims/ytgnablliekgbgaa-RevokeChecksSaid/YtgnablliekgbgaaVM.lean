/- Copies of revocation lists. -/
import Derived.Test.YtgnablliekgbgaaVL
namespace Go.Proofs.Ytgnablliekgbgaa
set_option linter.unusedSimpArgs false
set_option linter.unusedVariables false
open Go Go.PL Go.RowKit
set_option maxRecDepth 100000 in
theorem rvTwin (l : Rv) (w : World) (hl : l.seen w.cell?) (hnl : l.nm.length ≤ maxLen) (h5 : l.ss.length ≤ 520) (h6 : l.chs.length ≤ 60) (h7 : l.ps.length ≤ 60) :
    Calls Try.prog 11 [.agg l.c.toArray].toArray w (GivesP w (fun x : V3 => SV x.1 l.ss.length ∧ SV x.2.1 l.chs.length ∧ SV x.2.2 l.ps.length) (fun x => .agg (l.re x).c.toArray) (fun x => [.row x.1 l.ss.length 22 1 (v64s l.ss), .row x.2.1 l.chs.length 62 16 (v8s l.chs.flatten), .row x.2.2 l.ps.length 62 16 (v8s l.ps.flatten)]) (fun _ => [])) := by
  haveI := hl.svs.one
  have lss := hl.s.sv.le
  have lcs := hl.c.sv.le
  have lps := hl.p.sv.le
  have sss := hl.s.sv
  have scs := hl.c.sv
  have sps := hl.p.sv
  simp only [maxLen] at lss lcs lps
  refine enter (m := 20) (R := Mem w [] [] []) Try.func11 rfl rfl (Nat.le_of_ble_eq_true rfl) (Mem.start w) ?_
  refine wpc_seq ?_
  refine wpc_region ?_
  refine wpl_t (t_box rfl l.c rfl) rfl (fun b1 => ?_)
  refine wpl_t (t_alloc Try.ti30 Rv.z.c rfl) rfl (fun b2 => ?_)
  refine wpl_nil ?_
  refine ex_then ?_
  refine wpc_seq ?_
  refine wpc_region ?_
  refine wpl_q (q_field Try.underlying30 rfl Try.ti25 rfl rfl _ rfl) rfl ?_
  refine wpl_q (q_ld Try.underlying25 rfl rfl (show l.c[4]? = some (l.sv) from rfl)) rfl ?_
  refine wpl_tp (t_callP1 Try.hb28 rfl fun w h => clone64 l.sv l.ss w (h.seen_old hl.s) (by omega)) rfl (fun b5 p5 => ?_)
  haveI : OneC (l.ws b5).c := Rv.svs.one (l := l.ws b5) ⟨p5, scs, sps⟩
  refine wpl_q (q_field Try.underlying30 rfl Try.ti25 rfl rfl _ rfl) rfl ?_
  refine wpl_t0 (t_st1 Try.ti25 rfl rfl (SV.one p5) (show 4 < 8 by decide) _ (Rv.s_s _ _)) (fun _ => ?_)
  refine wpl_nil ?_
  refine ex_then ?_
  refine wpc_cutc ({ x : Value × Value // (SV x.1 l.chs.length) ∧ (SV x.2 l.ps.length) }) [(1, .pointer (some ⟨b1, 0, none⟩)), (2, .pointer (some ⟨b2, 0, none⟩))] (fun x Lc => Lc) (fun x => Mem w [] [.row x.1.1 l.chs.length 62 16 (v8s l.chs.flatten), .row x.1.2 l.ps.length 62 16 (v8s l.ps.flatten), .row b5 l.ss.length 22 1 (v64s l.ss), .blk b2 30 Rv.z.c, .blk b1 30 (l.re (b5, x.1.1, x.1.2)).c] []) ?_ ?_
  ·
   refine wpc_draw 10 (by kernel_rfl) (fun _ h => h.drew) ?_
   refine wpd_p 0 rfl (by kernel_rfl) trivial (q_field Try.underlying30 rfl Try.ti28 rfl rfl _ rfl) rfl sk0 ?_
   refine wpd_p 1 rfl (by kernel_rfl) trivial (q_field Try.underlying28 rfl Try.ti26 rfl rfl _ rfl) rfl sk0 ?_
   refine wpd_q 2 rfl (by kernel_rfl) trivial (q_ld Try.underlying26 rfl rfl rfl) rfl (fun _ h => h) ?_
   refine wpd_p 4 rfl (by kernel_rfl) trivial (q_field Try.underlying30 rfl Try.ti28 rfl rfl _ rfl) rfl sk0 ?_
   refine wpd_p 5 rfl (by kernel_rfl) trivial (q_field Try.underlying28 rfl Try.ti26 rfl rfl _ rfl) rfl sk0 ?_
   refine wpd_q 6 rfl (by kernel_rfl) trivial (q_ld Try.underlying26 rfl rfl rfl) rfl (fun _ h => h) ?_
   refine wpd_tp 3 rfl (by kernel_rfl) trivial (t_callP1 Try.hb29 rfl fun w h => cloneS l.cv l.chs w (h.seen_old hl.c) hl.lc (by omega)) rfl (fun _ => (fun w h => .inr (h.sub SubC.h SubC.h))) (fun b10 p10 => ?_)
   refine wpd_p 8 rfl (by kernel_rfl) trivial (q_field Try.underlying30 rfl Try.ti28 rfl rfl _ rfl) rfl (fun w h => .inr (h.sub SubC.h SubC.h)) ?_
   refine wpd_p 9 rfl (by kernel_rfl) trivial (q_field Try.underlying28 rfl Try.ti26 rfl rfl _ rfl) rfl (fun w h => .inr (h.sub SubC.h SubC.h)) ?_
   refine wpd_tp 7 rfl (by kernel_rfl) trivial (t_callP1 Try.hb29 rfl fun w h => cloneS l.pv l.ps w (h.seen_old hl.p) hl.lp (by omega)) rfl (fun _ => (fun w h => .inr (h.sub SubC.h SubC.h))) (fun b14 p14 => ?_)
   refine wpd_t0 10 rfl (by kernel_rfl) trivial (t_st1 Try.ti26 rfl rfl (by first | exact SV.one p10 | exact SV.one p14) (by first | (show 6 < 8; decide) | (show 7 < 8; decide)) _ (by first | exact Rv.s_c _ _ | exact Rv.s_p _ _)) (fun _ => skk rfl) (fun _ => ?_)
   refine wpd_p 11 rfl (by kernel_rfl) trivial (q_field Try.underlying30 rfl Try.ti28 rfl rfl _ rfl) rfl (skk rfl) ?_
   refine wpd_p 12 rfl (by kernel_rfl) trivial (q_field Try.underlying28 rfl Try.ti26 rfl rfl _ rfl) rfl (skk rfl) ?_
   refine wpd_t0 13 rfl (by kernel_rfl) trivial (t_st1 Try.ti26 rfl rfl (by first | exact SV.one p10 | exact SV.one p14) (by first | (show 6 < 8; decide) | (show 7 < 8; decide)) _ (by first | exact Rv.s_c _ _ | exact Rv.s_p _ _)) (fun _ => skk rfl) (fun _ => ?_)
   refine wpd_done (by kernel_rfl) ?_
   refine ex_mid ⟨(b10, b14), ⟨p10, p14⟩⟩ ?_ ?_
   ·
    exact (by repeat (first | exact trivial | refine ⟨rfl, ?_⟩))
   ·
    exact fun w h => by first | exact h.sel | (rw [Rv.wpc] at h; exact h.sel)
  ·
   rintro ⟨⟨c1, c2⟩, ⟨hi0, hi1⟩⟩; try dsimp only
   have hi0 : SV c1 l.chs.length := hi0; have hi1 : SV c2 l.ps.length := hi1
   haveI : OneC (l.re (b5, c1, c2)).c := Rv.svs.one (l := l.re (b5, c1, c2)) ⟨p5, hi0, hi1⟩
   refine wpc_seq ?_
   refine wpc_region ?_
   refine wpl_q (q_ldN Try.underlying30 rfl Try.ti30 rfl LenC.h) rfl ?_
   refine wpl_t0 (t_stA Try.ti30 rfl rfl LenC.h OneC.h LenC.h) (fun _ => ?_)
   refine wpl_nil ?_
   refine ex_then ?_
   refine wpc_ret ?_
   refine retv1 (.inl rfl) rfl (rv_agg Try.underlying30 rfl Try.ti30 rfl (fun w h => h.atB) rfl) ?_
   exact fun w h => ⟨(b5, c1, c2), ⟨p5, hi0, hi1⟩, rfl, h.below, h.sel.made (Sub.refl _) .nil⟩

end Go.Proofs.Ytgnablliekgbgaa
