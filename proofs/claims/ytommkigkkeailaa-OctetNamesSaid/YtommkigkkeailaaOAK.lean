/- Decode. -/
import Derived.Test.YtommkigkkeailaaOAJ
namespace Go.Proofs.Ytommkigkkeailaa
set_option linter.unusedSimpArgs false
set_option linter.unusedVariables false
open Go Go.PL Go.RowKit
set_option maxRecDepth 100000 in
theorem decode0 (av : Value) (xs : List UInt8) (w : World) (hav : Seen w.cell? av xs.length 1 (v8s xs))  :
    Calls Try.prog 35 [av].toArray w (GivesP w (fun y : HT => y.tr = (decP xs).1 ∧ y.sv) (fun y => .tuple #[.agg y.c.toArray, .int .i64 (decP xs).2]) (fun y => y.ents) (fun _ => [])) := by
  have sav := hav.sv
  have lav := sav.le
  simp only [maxLen] at lav
  have sav := hav.sv
  refine enterD (m := 28) (R := Mem w [] [] []) Try.func35 rfl rfl (Nat.le_of_ble_eq_true rfl) (Mem.start w) ?_
  refine wpc_seq ?_
  refine wpc_region ?_
  refine wpl_t (t_alloc Try.ti25 HT.z.c rfl) rfl (fun b2 => ?_)
  refine wpl_t (t_alloc Try.ti29 [.int .i64 0] rfl) rfl (fun b3 => ?_)
  refine wpl_nil ?_
  refine ex_then ?_
  refine wpc_seq ?_
  refine wpc_seq ?_
  refine wpc_region ?_
  refine wpl_q (q_pure rfl) rfl ?_
  refine wpl_q (q_lenW Try.underlying22 rfl (by first | assumption | exact SV.nil | exact SV.slv (by assumption) (by omega) (by omega) | exact arv_sv (by first | decide | (simp only [maxLen]; omega)))) rfl ?_
  refine wpl_q (q_pure rfl) rfl ?_
  refine wpl_nil ?_
  refine ex_then ?_
  refine wpc_cond rfl (fun hc7 => ?_) (fun hc7 => ?_)
  ·
   simp only [decide_eq_true_eq] at hc7
   have hR : decP xs = (Tr.z, 4) := by rw [decP, if_pos (by omega)]
   refine wpc_seq ?_
   refine wpc_region ?_
   refine wpl_q (q_ldN Try.underlying25 rfl Try.ti25 rfl LenC.h) rfl ?_
   refine wpl_t0 (t_stA Try.ti25 rfl rfl LenC.h OneC.h LenC.h) (fun _ => ?_)
   refine wpl_t0 (t_st1 Try.ti29 rfl rfl rfl (by first | decide | omega | exact Nat.zero_lt_one | (simp; omega) | (simp; done) | (simp only [v8s_length, v32s_length, vis_length, vns_length, v64s_length]; omega)) [.int .i64 4] rfl) (fun _ => ?_)
   refine wpl_nil ?_
   refine ex_then ?_
   refine wpc_ret ?_
   refine ex_then_ret ?_
   refine retD0 (.inl rfl) rfl (rv_agg Try.underlying25 rfl Try.ti25 rfl (fun w h => h.atB) LenC.h) (rv_one Try.underlying29 rfl rfl (fun w h => h.cell_blk (by repeat (first | exact List.mem_cons_self .. | apply List.mem_cons_of_mem)) rfl)) ?_
   exact fun w1 h => ⟨HT.z, ⟨by rw [hR]; rfl, SV.nil, SV.nil⟩, by rw [hR], h.below, madeT (tg := 0) (bv := nl) (lv := nl) (bs := []) (l := []) (show Mem w [] [.row nl 0 5 1 [], .row nl 0 25 3 []] [] w1 from ((h.nilRow 25 3).nilRow 5 1).sel)⟩
  ·
   simp only [decide_eq_false_iff_not] at hc7
   have hlx : ¬ 65536 < xs.length := by omega
   refine wpc_skip ?_
   refine ex_then ?_
   refine wpc_seq ?_
   refine wpc_region ?_
   refine wpl_q (q_fn (us := []) (vs := [.pointer (some ⟨b2, 0, none⟩), .pointer (some ⟨b3, 0, none⟩)]) rfl rfl) rfl ?_
   refine wpl_defer rfl (d := dcl b2 b3) rfl ?_
   refine wpl_nil ?_
   refine ex_then ?_
   refine wpc_seq ?_
   refine wpc_region ?_
   refine wpl_q (q_pure rfl) rfl ?_
   refine wpl_q (q_build (cs := [av]) rfl (built_rd sav)) rfl ?_
   refine wpl_t (t_box rfl [av] rfl) rfl (fun b12 => ?_)
   refine wpl_q (q_pure rfl) rfl ?_
   refine wpl_nil ?_
   refine ex_then ?_
   refine wpc_seq ?_
   refine wpc_region ?_
   refine wpl_q (q_pure rfl) rfl ?_
   refine wpl_tp (t_callXQ [.blk b12 85 [av]] [.blk b2 25 HT.z.c, .blk b3 29 [.int .i64 0]] [.blk b12 85 [av], .blk b2 25 HT.z.c, .blk b3 29 [.int .i64 0]] (fun x => .blk b12 85 [x.2.1] :: .blk b2 25 HT.z.c :: .blk b3 29 [.int .i64 0] :: x.1.ents) rfl (fun x _ => List.Perm.cons _ (List.perm_append_comm (l₁ := x.1.ents) (l₂ := [.blk b2 25 HT.z.c, .blk b3 29 [.int .i64 0]]))) Try.hb57 rfl (fun w1 h h2 => value 12 1 b12 av xs w1 h2 (hav.mono (rdo_nil h (by repeat (first | exact List.mem_cons_self .. | apply List.mem_cons_of_mem)))) rfl (by omega)) (fun a w1 hs hb hm => panD (t := HT.z) hs rfl rfl rfl hm (by
     have hR : decP xs = (Tr.z, 12) := by rw [decP, if_neg hlx, hb]
     exact fun w1 h => ⟨HT.z, ⟨by rw [hR]; rfl, SV.nil, SV.nil⟩, by rw [hR], h.below, madeT (tg := 0) (bv := nl) (lv := nl) (bs := []) (l := []) (show Mem w [] [.row nl 0 5 1 [], .row nl 0 25 3 []] [] w1 from ((h.nilRow 25 3).nilRow 5 1).sel)⟩))) rfl (fun b14 p14 => ?_)
   haveI := p14.2.1.one
   have hts := takeP_size _ _ _ _ p14.1
   have htl := takeP_le p14.1
   have svr := (p14.2.2 _ hav).sv
   have hdl : (xs.drop b14.2.2).length = xs.length - b14.2.2 := List.length_drop
   have hsm : Sm b14.1.tr := by unfold Sm; omega
   have hdp : b14.1.tr.dep ≤ 1000000 := by omega
   refine wpl_t0 (t_stA Try.ti25 rfl rfl LenC.h OneC.h LenC.h) (fun _ => ?_)
   refine wpl_nil ?_
   refine ex_then ?_
   refine wpc_seq ?_
   refine wpc_region ?_
   refine wpl_q (q_pure rfl) rfl ?_
   refine wpl_q (q_pure rfl) rfl ?_
   refine wpl_q (q_field Try.underlying85 rfl Try.ti22 rfl rfl _ rfl) rfl ?_
   refine wpl_q (q_ld Try.underlying22 rfl rfl rfl) rfl ?_
   refine wpl_q (q_lenW Try.underlying22 rfl (by first | assumption | exact SV.nil | exact SV.slv (by assumption) (by omega) (by omega) | exact arv_sv (by first | decide | (simp only [maxLen]; omega)))) rfl ?_
   refine wpl_q (q_pure rfl) rfl ?_
   refine wpl_q (q_pure rfl) rfl ?_
   refine wpl_bool2 21 20 rfl rfl (fun hb21 => ?_) (fun hb21 => ?_)
   ·
    have heq : b14.2.2 = xs.length := by first | (simp only [beq_iff_eq] at hb21; omega) | (simp only [decide_eq_true_eq] at hb21; omega)
    refine wpl_on rfl rfl ?_
    refine wpl_q (q_ldN Try.underlying25 rfl Try.ti25 rfl LenC.h) rfl ?_
    refine wpl_on rfl rfl ?_
    refine wpl_t (t_pur Try.hb30 rfl fun w h => check b14.1 w (Mem.hseen h) hsm (by omega)) rfl (fun b23 => ?_)
    refine wpl_on rfl rfl ?_
    refine wpl_q (q_pure rfl) rfl ?_
    refine wpl_q (q_pure rfl) rfl ?_
    refine wpl_tp (t_callXQ [] (.blk b2 25 b14.1.c :: .blk b3 29 [.int .i64 0] :: b14.1.ents) (.blk b2 25 b14.1.c :: .blk b3 29 [.int .i64 0] :: b14.1.ents) (fun _ => .blk b2 25 b14.1.c :: .blk b3 29 [.int .i64 0] :: b14.1.ents) rfl (fun _ _ => .refl _) Try.hb58 rfl (fun w1 _ _ => must _ w1) (fun a w1 hs hb hm => panD (t := b14.1) hs rfl rfl rfl hm (by
      have hR : decP xs = (Tr.z, 12) := (by first | (rw [decP, if_neg hlx, p14.1]; exact if_neg (fun h => hne h.1)) | (rw [decP, if_neg hlx, p14.1]; exact if_neg (fun h => (show ¬ checkF b14.1.tr = 0 by simpa using hb) h.2)))
      exact fun w1 h => ⟨HT.z, ⟨by rw [hR]; rfl, SV.nil, SV.nil⟩, by rw [hR], h.below, madeT (tg := 0) (bv := nl) (lv := nl) (bs := []) (l := []) (show Mem w [] [.row nl 0 5 1 [], .row nl 0 25 3 []] [] w1 from ((h.nilRow 25 3).nilRow 5 1).sel)⟩))) rfl (fun b26 p26 => ?_)
    have hck : checkF b14.1.tr = 0 := by simpa using p26
    have hR : decP xs = (b14.1.tr, 0) := by rw [decP, if_neg hlx, p14.1]; exact if_pos ⟨heq, hck⟩
    refine wpl_nil ?_
    refine ex_then ?_
    refine wpc_seq ?_
    refine wpc_region ?_
    refine wpl_q (q_ldN Try.underlying25 rfl Try.ti25 rfl LenC.h) rfl ?_
    refine wpl_t0 (t_stA Try.ti25 rfl rfl LenC.h OneC.h LenC.h) (fun _ => ?_)
    refine wpl_t0 (t_st1 Try.ti29 rfl rfl rfl (by first | decide | omega | exact Nat.zero_lt_one | (simp; omega) | (simp; done) | (simp only [v8s_length, v32s_length, vis_length, vns_length, v64s_length]; omega)) [.int .i64 0] rfl) (fun _ => ?_)
    refine wpl_nil ?_
    refine ex_then ?_
    refine wpc_ret ?_
    refine retD1 (.inl rfl) rfl (rv_agg Try.underlying25 rfl Try.ti25 rfl (fun w h => h.atB) LenC.h) (rv_one Try.underlying29 rfl rfl (fun w h => h.cell_blk (by repeat (first | exact List.mem_cons_self .. | apply List.mem_cons_of_mem)) rfl)) ?_
    exact fun w1 h => ⟨b14.1, ⟨by rw [hR], p14.2.1⟩, by rw [hR], h.below, h.made SubC.h .nil⟩
   ·
    have hne : b14.2.2 ≠ xs.length := by first | (simp only [beq_eq_false_iff_ne, ne_eq] at hb21; omega) | (simp only [decide_eq_false_iff_not] at hb21; omega)
    refine wpl_off rfl rfl rfl rfl ?_
    refine wpl_off rfl rfl rfl rfl ?_
    refine wpl_off rfl rfl rfl rfl ?_
    refine wpl_q (q_pure rfl) rfl ?_
    refine wpl_tp (t_callXQ [] (.blk b2 25 b14.1.c :: .blk b3 29 [.int .i64 0] :: b14.1.ents) (.blk b2 25 b14.1.c :: .blk b3 29 [.int .i64 0] :: b14.1.ents) (fun _ => .blk b2 25 b14.1.c :: .blk b3 29 [.int .i64 0] :: b14.1.ents) rfl (fun _ _ => .refl _) Try.hb58 rfl (fun w1 _ _ => must _ w1) (fun a w1 hs hb hm => panD (t := b14.1) hs rfl rfl rfl hm (by
      have hR : decP xs = (Tr.z, 12) := (by first | (rw [decP, if_neg hlx, p14.1]; exact if_neg (fun h => hne h.1)) | (rw [decP, if_neg hlx, p14.1]; exact if_neg (fun h => (show ¬ checkF b14.1.tr = 0 by simpa using hb) h.2)))
      exact fun w1 h => ⟨HT.z, ⟨by rw [hR]; rfl, SV.nil, SV.nil⟩, by rw [hR], h.below, madeT (tg := 0) (bv := nl) (lv := nl) (bs := []) (l := []) (show Mem w [] [.row nl 0 5 1 [], .row nl 0 25 3 []] [] w1 from ((h.nilRow 25 3).nilRow 5 1).sel)⟩))) rfl (fun b26 p26 => ?_)
    cases p26

theorem decode (av : Value) (xs : List UInt8) (w : World) (hav : Seen w.cell? av xs.length 1 (v8s xs)) : Calls Try.prog 35 [av].toArray w (GivesP w (fun y : HT => y.tr = (decF xs).1 ∧ y.sv) (fun y => .tuple #[.agg y.c.toArray, .int .i64 (decF xs).2]) (fun y => y.ents) (fun _ => [])) := by
  have h := decode0 av xs w hav
  rw [decP_eq] at h
  exact h

end Go.Proofs.Ytommkigkkeailaa
