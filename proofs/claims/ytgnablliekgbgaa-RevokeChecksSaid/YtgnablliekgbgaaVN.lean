/- The reference: copies of revocation lists. -/
import Derived.Test.YtgnablliekgbgaaVL
namespace Go.Proofs.Ytgnablliekgbgaa
set_option linter.unusedSimpArgs false
set_option linter.unusedVariables false
open Go Go.PL Go.RowKit
theorem built_sig {v1 v2 : Value} {n1 n2 : Nat} (h1 : SV v1 n1) (h2 : SV v2 n2) (idx : Int) : Try.prog.built 28 [(0, .int .i64 idx), (1, v1), (2, v2)] = some #[.int .i64 idx, v1, v2] := by
  obtain ⟨a1, c1, rfl, _⟩ := h1
  obtain ⟨a2, c2, rfl, _⟩ := h2
  kernel_rfl


theorem sig_one {v1 v2 : Value} {n1 n2 : Nat} (h1 : SV v1 n1) (h2 : SV v2 n2) (idx : Int) : ∀ u ∈ [Value.int .i64 idx, v1, v2], u.oneCell' = true := by
  intro u hu
  simp only [List.mem_cons, List.not_mem_nil, or_false] at hu
  rcases hu with rfl | rfl | rfl
  · rfl
  · exact h1.one
  · exact h2.one

set_option maxRecDepth 100000 in
theorem twinSig (idx : Int) (cv pv : Value) (chs ps : List (List UInt8)) (w : World) (hcv : Seen w.cell? cv chs.length 16 (v8s chs.flatten)) (hlchs : ∀ x ∈ chs, x.length = 16) (hpv : Seen w.cell? pv ps.length 16 (v8s ps.flatten)) (hlps : ∀ x ∈ ps, x.length = 16) (hnc : chs.length ≤ 200) (hnp : ps.length ≤ 200) :
    Calls Try.prog 25 [.agg #[.int .i64 idx, cv, pv]].toArray w (GivesP w (fun x : Value × Value => SV x.1 chs.length ∧ SV x.2 ps.length) (fun x : Value × Value => .agg #[.int .i64 idx, x.1, x.2]) (fun x => [.row x.1 chs.length 62 16 (v8s chs.flatten), .row x.2 ps.length 62 16 (v8s ps.flatten)]) (fun _ => [])) := by
  have scv := hcv.sv
  have spv := hpv.sv
  have lcv := scv.le
  have lpv := spv.le
  simp only [maxLen] at lcv lpv
  haveI : OneC [.int .i64 idx, cv, pv] := OneC.cons rfl (OneC.cons (SV.one scv) (OneC.cons (SV.one spv) oneC_nil))
  refine enter (m := 14) (R := Mem w [] [] []) Try.func25 rfl rfl (Nat.le_of_ble_eq_true rfl) (Mem.start w) ?_
  refine wpc_seq ?_
  refine wpc_region ?_
  refine wpl_t (t_box rfl [.int .i64 idx, cv, pv] rfl) rfl (fun b1 => ?_)
  refine wpl_t (t_alloc Try.ti28 [.int .i64 0, .slice none 0 0, .slice none 0 0] rfl) rfl (fun b2 => ?_)
  refine wpl_nil ?_
  refine ex_then ?_
  refine wpc_seq ?_
  refine wpc_draw 11 (by kernel_rfl) (fun _ h => h.drew) ?_
  refine wpd_p 0 rfl (by kernel_rfl) trivial (q_field Try.underlying28 rfl Try.ti3 rfl rfl _ rfl) rfl sk0 ?_
  refine wpd_q 1 rfl (by kernel_rfl) trivial (q_ld Try.underlying3 rfl rfl (by first | exact vns_get (by first | decide | omega | exact Nat.zero_lt_one | (simp; omega) | (simp; done) | (simp only [v8s_length, v32s_length, vis_length, vns_length, v64s_length]; omega)) | rfl)) rfl (fun _ h => h) ?_
  refine wpd_p 3 rfl (by kernel_rfl) trivial (q_field Try.underlying28 rfl Try.ti26 rfl rfl _ rfl) rfl sk0 ?_
  refine wpd_q 4 rfl (by kernel_rfl) trivial (q_ld Try.underlying26 rfl rfl rfl) rfl (fun _ h => h) ?_
  refine wpd_p 7 rfl (by kernel_rfl) trivial (q_field Try.underlying28 rfl Try.ti26 rfl rfl _ rfl) rfl sk0 ?_
  refine wpd_q 8 rfl (by kernel_rfl) trivial (q_ld Try.underlying26 rfl rfl rfl) rfl (fun _ h => h) ?_
  refine wpd_two 2 6 (by kernel_rfl) ?_ ?_
  ·
   refine wpa_tp 2 rfl trivial (t_bs0W Try.underlying26 Try.ti62) rfl (fun _ => (fun w h => .inr (h.sub SubC.h SubC.h))) (fun b5 p5 => ?_)
   refine wpd_two 5 6 (by kernel_rfl) ?_ ?_
   ·
    refine wpa_tp 5 rfl trivial (t_ap0 Try.underlying26 Try.ti62 rfl (by decide) rfl rfl (fun w h => h.seen_old hcv) (v8s_one _) (by first | omega | (simp only [maxLen]; omega) | (simp only [List.length_append, List.length_cons, List.length_nil, List.length_take, maxLen]; omega) | (simp only [List.length_append, List.length_cons, List.length_nil, List.length_take]; omega)) (by first | omega | (simp only [maxLen]; omega) | (simp only [List.length_append, List.length_cons, List.length_nil, List.length_take, maxLen]; omega) | (simp only [List.length_append, List.length_cons, List.length_nil, List.length_take]; omega))) rfl (fun _ => (fun w h => .inr (h.sub SubC.h SubC.h))) (fun b8 p8 => ?_)
    refine wpd_tp 6 rfl (by kernel_rfl) trivial (t_bs0W Try.underlying26 Try.ti62) rfl (fun _ => (fun w h => .inr (h.sub SubC.h SubC.h))) (fun b9 p9 => ?_)
    refine wpd_tp 9 rfl (by kernel_rfl) trivial (t_ap0 Try.underlying26 Try.ti62 rfl (by decide) rfl rfl (fun w h => h.seen_old hpv) (v8s_one _) (by first | omega | (simp only [maxLen]; omega) | (simp only [List.length_append, List.length_cons, List.length_nil, List.length_take, maxLen]; omega) | (simp only [List.length_append, List.length_cons, List.length_nil, List.length_take]; omega)) (by first | omega | (simp only [maxLen]; omega) | (simp only [List.length_append, List.length_cons, List.length_nil, List.length_take, maxLen]; omega) | (simp only [List.length_append, List.length_cons, List.length_nil, List.length_take]; omega))) rfl (fun _ => (fun w h => .inr (h.sub SubC.h SubC.h))) (fun b12 p12 => ?_)
    refine wpd_p 10 rfl (by kernel_rfl) trivial (q_build (cs := [.int .i64 idx, b8, b12]) rfl (built_sig p8 p12 idx)) rfl (fun w h => .inr (h.sub SubC.h SubC.h)) ?_
    refine wpd_t0 11 rfl (by kernel_rfl) trivial (t_stA Try.ti28 rfl rfl rfl (sig_one p8 p12 idx) rfl) (fun _ => skk rfl) (fun _ => ?_)
    refine wpd_done (by kernel_rfl) ?_
    refine ex_then ?_
    refine wpc_ret ?_
    refine retv1 (.inl rfl) rfl (rv_agg Try.underlying28 rfl Try.ti28 rfl (fun w h => h.atB) rfl) ?_
    exact fun w h => ⟨(b8, b12), ⟨p8, p12⟩, rfl, h.below, by first | exact h.made (.keep (.keep .nil)) .nil | exact h.swap.made (.keep (.keep .nil)) .nil | exact h.sel.made (Sub.refl _) .nil⟩
   ·
    refine wpa_tp 6 rfl trivial (t_bs0W Try.underlying26 Try.ti62) rfl (fun _ => (fun w h => .inr (h.sub SubC.h SubC.h))) (fun b9 p9 => ?_)
    refine wpd_tp 5 rfl (by kernel_rfl) trivial (t_ap0 Try.underlying26 Try.ti62 rfl (by decide) rfl rfl (fun w h => h.seen_old hcv) (v8s_one _) (by first | omega | (simp only [maxLen]; omega) | (simp only [List.length_append, List.length_cons, List.length_nil, List.length_take, maxLen]; omega) | (simp only [List.length_append, List.length_cons, List.length_nil, List.length_take]; omega)) (by first | omega | (simp only [maxLen]; omega) | (simp only [List.length_append, List.length_cons, List.length_nil, List.length_take, maxLen]; omega) | (simp only [List.length_append, List.length_cons, List.length_nil, List.length_take]; omega))) rfl (fun _ => (fun w h => .inr (h.sub SubC.h SubC.h))) (fun b8 p8 => ?_)
    refine wpd_tp 9 rfl (by kernel_rfl) trivial (t_ap0 Try.underlying26 Try.ti62 rfl (by decide) rfl rfl (fun w h => h.seen_old hpv) (v8s_one _) (by first | omega | (simp only [maxLen]; omega) | (simp only [List.length_append, List.length_cons, List.length_nil, List.length_take, maxLen]; omega) | (simp only [List.length_append, List.length_cons, List.length_nil, List.length_take]; omega)) (by first | omega | (simp only [maxLen]; omega) | (simp only [List.length_append, List.length_cons, List.length_nil, List.length_take, maxLen]; omega) | (simp only [List.length_append, List.length_cons, List.length_nil, List.length_take]; omega))) rfl (fun _ => (fun w h => .inr (h.sub SubC.h SubC.h))) (fun b12 p12 => ?_)
    refine wpd_p 10 rfl (by kernel_rfl) trivial (q_build (cs := [.int .i64 idx, b8, b12]) rfl (built_sig p8 p12 idx)) rfl (fun w h => .inr (h.sub SubC.h SubC.h)) ?_
    refine wpd_t0 11 rfl (by kernel_rfl) trivial (t_stA Try.ti28 rfl rfl rfl (sig_one p8 p12 idx) rfl) (fun _ => skk rfl) (fun _ => ?_)
    refine wpd_done (by kernel_rfl) ?_
    refine ex_then ?_
    refine wpc_ret ?_
    refine retv1 (.inl rfl) rfl (rv_agg Try.underlying28 rfl Try.ti28 rfl (fun w h => h.atB) rfl) ?_
    exact fun w h => ⟨(b8, b12), ⟨p8, p12⟩, rfl, h.below, by first | exact h.made (.keep (.keep .nil)) .nil | exact h.swap.made (.keep (.keep .nil)) .nil | exact h.sel.made (Sub.refl _) .nil⟩
  ·
   refine wpa_tp 6 rfl trivial (t_bs0W Try.underlying26 Try.ti62) rfl (fun _ => (fun w h => .inr (h.sub SubC.h SubC.h))) (fun b9 p9 => ?_)
   refine wpd_tp 2 rfl (by kernel_rfl) trivial (t_bs0W Try.underlying26 Try.ti62) rfl (fun _ => (fun w h => .inr (h.sub SubC.h SubC.h))) (fun b5 p5 => ?_)
   refine wpd_tp 5 rfl (by kernel_rfl) trivial (t_ap0 Try.underlying26 Try.ti62 rfl (by decide) rfl rfl (fun w h => h.seen_old hcv) (v8s_one _) (by first | omega | (simp only [maxLen]; omega) | (simp only [List.length_append, List.length_cons, List.length_nil, List.length_take, maxLen]; omega) | (simp only [List.length_append, List.length_cons, List.length_nil, List.length_take]; omega)) (by first | omega | (simp only [maxLen]; omega) | (simp only [List.length_append, List.length_cons, List.length_nil, List.length_take, maxLen]; omega) | (simp only [List.length_append, List.length_cons, List.length_nil, List.length_take]; omega))) rfl (fun _ => (fun w h => .inr (h.sub SubC.h SubC.h))) (fun b8 p8 => ?_)
   refine wpd_tp 9 rfl (by kernel_rfl) trivial (t_ap0 Try.underlying26 Try.ti62 rfl (by decide) rfl rfl (fun w h => h.seen_old hpv) (v8s_one _) (by first | omega | (simp only [maxLen]; omega) | (simp only [List.length_append, List.length_cons, List.length_nil, List.length_take, maxLen]; omega) | (simp only [List.length_append, List.length_cons, List.length_nil, List.length_take]; omega)) (by first | omega | (simp only [maxLen]; omega) | (simp only [List.length_append, List.length_cons, List.length_nil, List.length_take, maxLen]; omega) | (simp only [List.length_append, List.length_cons, List.length_nil, List.length_take]; omega))) rfl (fun _ => (fun w h => .inr (h.sub SubC.h SubC.h))) (fun b12 p12 => ?_)
   refine wpd_p 10 rfl (by kernel_rfl) trivial (q_build (cs := [.int .i64 idx, b8, b12]) rfl (built_sig p8 p12 idx)) rfl (fun w h => .inr (h.sub SubC.h SubC.h)) ?_
   refine wpd_t0 11 rfl (by kernel_rfl) trivial (t_stA Try.ti28 rfl rfl rfl (sig_one p8 p12 idx) rfl) (fun _ => skk rfl) (fun _ => ?_)
   refine wpd_done (by kernel_rfl) ?_
   refine ex_then ?_
   refine wpc_ret ?_
   refine retv1 (.inl rfl) rfl (rv_agg Try.underlying28 rfl Try.ti28 rfl (fun w h => h.atB) rfl) ?_
   exact fun w h => ⟨(b8, b12), ⟨p8, p12⟩, rfl, h.below, by first | exact h.made (.keep (.keep .nil)) .nil | exact h.swap.made (.keep (.keep .nil)) .nil | exact h.sel.made (Sub.refl _) .nil⟩

set_option maxRecDepth 100000 in
theorem refRvTwin (l : Rv) (w : World) (hl : l.seen w.cell?) (hnl : l.nm.length ≤ maxLen) (h5 : l.ss.length ≤ 520) (h6 : l.chs.length ≤ 60) (h7 : l.ps.length ≤ 60) :
    Calls Try.prog 8 [.agg l.c.toArray].toArray w (GivesP w (fun x : V3 => SV x.1 l.ss.length ∧ SV x.2.1 l.chs.length ∧ SV x.2.2 l.ps.length) (fun x => .agg (l.re x).c.toArray) (fun x => [.row x.1 l.ss.length 22 1 (v64s l.ss), .row x.2.1 l.chs.length 62 16 (v8s l.chs.flatten), .row x.2.2 l.ps.length 62 16 (v8s l.ps.flatten)]) (fun _ => [])) := by
  haveI := hl.svs.one
  have lss := hl.s.sv.le
  have lcs := hl.c.sv.le
  have lps := hl.p.sv.le
  have sss := hl.s.sv
  have scs := hl.c.sv
  have sps := hl.p.sv
  simp only [maxLen] at lss lcs lps
  refine enter (m := 13) (R := Mem w [] [] []) Try.func8 rfl rfl (Nat.le_of_ble_eq_true rfl) (Mem.start w) ?_
  refine wpc_seq ?_
  refine wpc_region ?_
  refine wpl_t (t_box rfl l.c rfl) rfl (fun b1 => ?_)
  refine wpl_t (t_alloc Try.ti30 Rv.z.c rfl) rfl (fun b2 => ?_)
  refine wpl_nil ?_
  refine ex_then ?_
  refine wpc_seq ?_
  refine wpc_region ?_
  refine wpl_tp (t_bs0W Try.underlying25 Try.ti22) rfl (fun b3 p3 => ?_)
  refine wpl_q (q_field Try.underlying30 rfl Try.ti25 rfl rfl _ rfl) rfl ?_
  refine wpl_q (q_ld Try.underlying25 rfl rfl (show l.c[4]? = some (l.sv) from rfl)) rfl ?_
  refine wpl_tp (t_ap0 Try.underlying25 Try.ti22 rfl (by decide) rfl rfl (fun w h => h.seen_old hl.s) (v64s_one _) (by first | omega | (simp only [maxLen]; omega) | (simp only [List.length_append, List.length_cons, List.length_nil, List.length_take, maxLen]; omega) | (simp only [List.length_append, List.length_cons, List.length_nil, List.length_take]; omega)) (by first | omega | (simp only [maxLen]; omega) | (simp only [List.length_append, List.length_cons, List.length_nil, List.length_take, maxLen]; omega) | (simp only [List.length_append, List.length_cons, List.length_nil, List.length_take]; omega))) rfl (fun b6 p6 => ?_)
  haveI : OneC (l.ws b6).c := Rv.svs.one (l := l.ws b6) ⟨p6, scs, sps⟩
  refine wpl_q (q_field Try.underlying30 rfl Try.ti25 rfl rfl _ rfl) rfl ?_
  refine wpl_t0 (t_st1 Try.ti25 rfl rfl (SV.one p6) (show 4 < 8 by decide) _ (Rv.s_s _ _)) (fun _ => ?_)
  refine wpl_nil ?_
  refine ex_then ?_
  refine wpc_seq ?_
  refine wpc_region ?_
  refine wpl_q (q_field Try.underlying30 rfl Try.ti28 rfl rfl _ rfl) rfl ?_
  refine wpl_q (q_ldP Try.underlying28 rfl Try.ti28 rfl l.sig rfl rfl) rfl ?_
  refine wpl_tp (t_callP2 Try.hb25 rfl fun w h => twinSig l.ix l.cv l.pv l.chs l.ps w (h.seen_old hl.c) hl.lc (h.seen_old hl.p) hl.lp (by omega) (by omega)) rfl (fun b10 p10 => ?_)
  haveI : OneC (l.re (b6, b10.1, b10.2)).c := Rv.svs.one (l := l.re (b6, b10.1, b10.2)) ⟨p6, p10.1, p10.2⟩
  refine wpl_q (q_field Try.underlying30 rfl Try.ti28 rfl rfl _ rfl) rfl ?_
  refine wpl_t0 (t_stP Try.ti28 rfl rfl (by first | (with_reducible exact key_len _ _ (by (first | with_reducible assumption | exact L16.h))) | with_reducible rfl | (simp only [v8s_length, v32s_length, vis_length, vns_length, v64s_length, List.length_replicate]; first | done | with_reducible assumption | omega) | (rw [v8s_length]; (first | with_reducible assumption | exact L16.h)) | rfl) (OneC.cons rfl (OneC.cons (SV.one p10.1) (OneC.cons (SV.one p10.2) oneC_nil))).h (by show 5 + 3 ≤ 8; decide) (l.re (b6, b10.1, b10.2)).c rfl) (fun _ => ?_)
  refine wpl_nil ?_
  refine ex_then ?_
  refine wpc_seq ?_
  refine wpc_region ?_
  refine wpl_q (q_ldN Try.underlying30 rfl Try.ti30 rfl LenC.h) rfl ?_
  refine wpl_t0 (t_stA Try.ti30 rfl rfl LenC.h OneC.h LenC.h) (fun _ => ?_)
  refine wpl_nil ?_
  refine ex_then ?_
  refine wpc_ret ?_
  refine retv1 (.inl rfl) rfl (rv_agg Try.underlying30 rfl Try.ti30 rfl (fun w h => h.atB) rfl) ?_
  exact fun w h => ⟨(b6, b10.1, b10.2), ⟨p6, p10.1, p10.2⟩, rfl, h.below, h.sel.made (Sub.refl _) .nil⟩

end Go.Proofs.Ytgnablliekgbgaa
