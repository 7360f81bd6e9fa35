/- Lists as values. -/
import Derived.Test.YtommkigkkeailaaOK
namespace Go.Proofs.Ytommkigkkeailaa
set_option linter.unusedSimpArgs false
set_option linter.unusedVariables false
open Go Go.PL Go.RowKit
set_option maxRecDepth 100000 in
theorem refSeq (tg : UInt8) (lv : Value) (l : List HT) (w : World) (hlv : Seen w.cell? lv l.length 3 (hcs l)) (hhl : HSeenL w.cell? l) (hsm : Sm (Tr.nd tg [] (trs l))) :
    Calls Try.prog 26 [.int .u8 tg.toNat, lv].toArray w (GivesP w (fun y : HT => y.tr = Tr.nd tg [] (trs l) ∧ y.sv) (fun y => .agg y.c.toArray) (fun y => y.ents) (fun _ => [])) := by
  have slv := hlv.sv
  have llv := slv.le
  simp only [maxLen] at llv
  have ht : HSeen w.cell? (.nd tg nl [] lv l) := ⟨seen_nil _ 5 1, hlv, hhl⟩
  have hln := sm_len (tg := tg) (bv := nl) (lv := lv) (bs := []) (l := l) hsm
  refine enter (m := 26) (R := Mem w [] [] []) Try.func26 rfl rfl (Nat.le_of_ble_eq_true rfl) (Mem.start w) ?_
  refine wpc_seq ?_
  refine wpc_region ?_
  refine wpl_t (t_alloc Try.ti25 [.int .u8 0, nl, nl] rfl) rfl (fun b4 => ?_)
  refine wpl_nil ?_
  refine ex_then ?_
  refine wpc_seq ?_
  refine wpc_region ?_
  refine wpl_q (q_pure rfl) rfl ?_
  refine wpl_q (q_build (cs := [.int .u8 (tg.toNat : Int), nl, nl]) rfl (built_o0 tg)) rfl ?_
  refine wpl_t (t_alloc Try.ti25 [.int .u8 0, nl, nl] rfl) rfl (fun b5 => ?_)
  refine wpl_t0 (t_stA Try.ti25 rfl rfl LenC.h OneC.h LenC.h) (fun _ => ?_)
  refine wpl_nil ?_
  refine ex_then ?_
  refine wpc_seq ?_
  refine wpc_seq ?_
  refine wpc_region ?_
  refine wpl_q (q_pure rfl) rfl ?_
  refine wpl_nil ?_
  refine ex_then ?_
  refine wpc_block ?_
  refine wpc_loopc (ι := { x : Nat × List HT × Value // (x.1 ≤ l.length) ∧ (x.2.1.length = x.1) ∧ (trs x.2.1 = trs (l.take x.1)) ∧ (SV x.2.2 x.2.1.length) }) [(1, _), (4, _), (5, _)] (fun x Lc => (6, .int .i64 ((x.1.1 : Nat) : Int)) :: Lc) (fun x => Mem w [] (.blk b5 25 [.int .u8 (tg.toNat : Int), nl, x.1.2.2] :: .blk b4 25 [.int .u8 0, nl, nl] :: .row x.1.2.2 x.1.2.1.length 25 3 (hcs x.1.2.1) :: entsL x.1.2.1) []) (fun x => l.length - x.1.1) ⟨(0, [], nl), ⟨Nat.zero_le _, rfl, rfl, SV.nil⟩⟩ (by repeat (first | exact trivial | refine ⟨rfl, ?_⟩)) ?_ ?_
  ·
   exact fun w1 h => by
     have h2 : Mem w [] [.blk b5 25 [.int .u8 (tg.toNat : Int), nl, nl], .blk b4 25 [.int .u8 0, nl, nl], .row nl 0 25 3 []] [] w1 := (h.nilRow 25 3).sel
     exact h2
  ·
   rintro ⟨⟨i, ns, nv⟩, ⟨hi0, hi1, hi2, hi3⟩⟩; try dsimp only
   have hi0 : i ≤ l.length := hi0; have hi1 : ns.length = i := hi1; have hi2 : trs ns = trs (l.take i) := hi2; have hi3 : SV nv ns.length := hi3
   refine wpc_seq ?_
   refine wpc_seq ?_
   refine wpc_region ?_
   refine wpl_q (q_pure rfl) rfl ?_
   refine wpl_q (q_pure rfl) rfl ?_
   refine wpl_q (q_lenW Try.underlying23 rfl (by first | assumption | exact SV.nil | exact SV.slv (by assumption) (by omega) (by omega) | exact arv_sv (by first | decide | (simp only [maxLen]; omega)))) rfl ?_
   refine wpl_q (q_pure rfl) rfl ?_
   refine wpl_nil ?_
   refine ex_then ?_
   refine wpc_cond rfl (fun hc12 => ?_) (fun hc12 => ?_)
   ·
    simp only [decide_eq_true_eq] at hc12
    have hil : i < l.length := by omega
    have hx := HSeenL_iff.1 hhl _ (getD_memH hil)
    haveI := hx.sv.one
    haveI := oneH (t := tg) SV.nil hi3
    refine wpc_skip ?_
    refine ex_then ?_
    refine wpc_seq ?_
    refine wpc_block ?_
    refine wpc_draw 8 (by kernel_rfl) (fun _ h => h.drew) ?_
    refine wpd_p 0 rfl (by kernel_rfl) trivial (q_field Try.underlying25 rfl Try.ti23 rfl rfl _ rfl) rfl sk0 ?_
    refine wpd_q 1 rfl (by kernel_rfl) trivial (q_ld Try.underlying23 rfl rfl rfl) rfl (fun _ h => h) ?_
    refine wpd_p 2 rfl (by kernel_rfl) trivial (q_pure rfl) rfl sk0 ?_
    refine wpd_p 3 rfl (by kernel_rfl) trivial (q_pure rfl) rfl sk0 ?_
    refine wpd_p 4 rfl (by kernel_rfl) trivial (q_idxW Try.underlying23 Try.ti25 rfl rfl (by first | assumption | exact SV.nil | exact SV.slv (by assumption) (by omega) (by omega) | exact arv_sv (by first | decide | (simp only [maxLen]; omega))) (by first | omega | (simp only [maxLen]; omega) | (simp only [List.length_append, List.length_cons, List.length_nil, List.length_take, maxLen]; omega) | (simp only [List.length_append, List.length_cons, List.length_nil, List.length_take]; omega))) rfl sk0 ?_
    refine wpd_qB 5 [6, 7, 8] rfl (by kernel_rfl) trivial (q_ldWN Try.underlying25 rfl Try.ti25 rfl (fun w h => h.seen_old hlv) (l.getD i HT.z).c (cat_part HT.c_length HT.z hil) (HT.c_length _)) rfl (fun _ h => h) ?_
    refine wpd_tp 6 rfl (by kernel_rfl) trivial (t_callE (fun y : HT => .blk b5 25 [.int .u8 (tg.toNat : Int), nl, nv] :: .blk b4 25 [.int .u8 0, nl, nl] :: .row nv ns.length 25 3 (hcs ns) :: (y.ents ++ entsL ns)) (fun y => List.perm_append_comm_assoc y.ents [.blk b5 25 [.int .u8 (tg.toNat : Int), nl, nv], .blk b4 25 [.int .u8 0, nl, nl], .row nv ns.length 25 3 (hcs ns)] (entsL ns)) Try.hb13 rfl fun w h => refTwin (l.getD i HT.z) w (hx.old h) (hsm.kid (bv := nl) (lv := lv) hil)) rfl (fun _ => (fun w h => .inr (h.sub SubC.h SubC.h))) (fun b21 p21 => ?_)
    haveI := p21.2.one
    have sb23 := p21.2
    refine wpd_tp 7 rfl (by kernel_rfl) trivial (t_bsG [.agg b21.c.toArray] b21.c Try.underlying23 Try.ti25 rfl (by decide) rfl (by decide) (by decide) rfl (by intro v hv; rw [List.mem_singleton] at hv; subst hv; exact HT.c_length _) (List.append_nil _)) rfl (fun _ => (fun w h => .inr (h.sub SubC.h SubC.h))) (fun b22 p22 => ?_)
    refine wpd_tp 8 rfl (by kernel_rfl) trivial (t_apW Try.underlying23 Try.ti25 rfl (by decide) rfl rfl (fun w h => by first | exact h.seenV | exact h.seenA (by first | decide | (simp only [maxLen]; omega)) (by first | with_reducible rfl | (simp only [v8s_length, v32s_length, vis_length, vns_length, v64s_length, List.length_replicate]; first | done | with_reducible assumption | omega) | (rw [v8s_length]; (first | with_reducible assumption | with_reducible exact shortF_length _ | with_reducible exact stepF_length _ _ _ | with_reducible exact sumF_length _ | with_reducible exact climbF_length _ (by first | with_reducible assumption | with_reducible exact shortF_length _ | with_reducible exact beginF_length _ _ | with_reducible exact getD_mem_len (by assumption) (by omega)) _ _ _ | with_reducible exact beginF_length _ _ | with_reducible exact chainF_length _ _ _ | with_reducible exact recF_length _ _ | with_reducible exact publicF_length _ | with_reducible exact getD_mem_len (by assumption) (by omega) | (with_reducible exact List.length_replicate))) | rfl) | exact h.seen_old (by assumption) | exact h.seen_oldL (by assumption) (by assumption) | exact h.seen_fact (by repeat (first | exact List.mem_cons_self .. | apply List.mem_cons_of_mem))) OneC.h (by first | omega | (simp only [maxLen]; omega) | (simp only [List.length_append, List.length_cons, List.length_nil, List.length_take, maxLen]; omega) | (simp only [List.length_append, List.length_cons, List.length_nil, List.length_take]; omega)) (by first | omega | (simp only [maxLen]; omega) | (simp only [List.length_append, List.length_cons, List.length_nil, List.length_take, maxLen]; omega) | (simp only [List.length_append, List.length_cons, List.length_nil, List.length_take]; omega)) (hcs (ns ++ [b21])) (cat_snoc HT.c ns b21)) rfl (fun _ => skk rfl) (fun b23 p23 => ?_)
    refine wpd_p 9 rfl (by kernel_rfl) trivial (q_field Try.underlying25 rfl Try.ti23 rfl rfl _ rfl) rfl (skk rfl) ?_
    refine wpd_t0 10 rfl (by kernel_rfl) trivial (t_st1 Try.ti23 rfl rfl (SV.one (by first | assumption | exact SV.nil | exact SV.slv (by assumption) (by omega) (by omega) | exact arv_sv (by first | decide | (simp only [maxLen]; omega)))) (by first | decide | omega | exact Nat.zero_lt_one | (simp; omega) | (simp; done) | (simp only [v8s_length, v32s_length, vis_length, vns_length, v64s_length]; omega)) [.int .u8 (tg.toNat : Int), nl, b23] rfl) (fun _ => skk rfl) (fun _ => ?_)
    refine wpd_done (by kernel_rfl) ?_
    refine ex_block ?_
    refine ex_then ?_
    refine wpc_region ?_
    refine wpl_q (q_pure rfl) rfl ?_
    refine wpl_q (q_addN (b := 1) rfl rfl (by first | omega | (simp only [maxLen]; omega) | (simp only [List.length_append, List.length_cons, List.length_nil, List.length_take, maxLen]; omega) | (simp only [List.length_append, List.length_cons, List.length_nil, List.length_take]; omega))) rfl ?_
    refine wpl_q (q_pure rfl) rfl ?_
    refine wpl_nil ?_
    refine ex_again ⟨(i + 1, ns ++ [b21], b23), ⟨by omega, by rw [snoc_len, hi1], by rw [trs_append, hi2, trs_takeS hil, ← p21.1]; rfl, by rw [snoc_len]; exact p23⟩⟩ ?_ ?_ ?_
    ·
     exact (by repeat (first | exact trivial | refine ⟨rfl, ?_⟩))
    ·
     exact fun w h => by
       dsimp only
       rw [snoc_len]
       have h2 := h.sub (M' := .blk b5 25 [.int .u8 (tg.toNat : Int), nl, b23] :: .blk b4 25 [.int .u8 0, nl, nl] :: .row b23 (ns.length + 1) 25 3 (hcs (ns ++ [b21])) :: (b21.ents ++ entsL ns)) (S' := []) SubC.h .nil
       exact h2.perm ((((entsL_snoc ns b21).cons _).cons _).cons _)
    ·
     (show l.length - (i + 1) < l.length - i); omega
   ·
    simp only [decide_eq_false_iff_not] at hc12
    obtain rfl : i = l.length := by omega
    rw [List.take_length] at hi2
    haveI := oneH (t := tg) SV.nil hi3
    refine wpc_exit ?_
    refine ex_then_exit ?_
    refine ex_then_exit ?_
    refine ex_block_hit ?_
    refine ex_then ?_
    refine wpc_seq ?_
    refine wpc_region ?_
    refine wpl_q (q_ldN Try.underlying25 rfl Try.ti25 rfl LenC.h) rfl ?_
    refine wpl_t0 (t_stA Try.ti25 rfl rfl LenC.h OneC.h LenC.h) (fun _ => ?_)
    refine wpl_nil ?_
    refine ex_then ?_
    refine wpc_ret ?_
    refine retv1 (.inl rfl) rfl (rv_agg Try.underlying25 rfl Try.ti25 rfl (fun w h => h.atB) (by first | with_reducible rfl | (simp only [v8s_length, v32s_length, vis_length, vns_length, v64s_length, List.length_replicate]; first | done | with_reducible assumption | omega) | (rw [v8s_length]; (first | with_reducible assumption | with_reducible exact shortF_length _ | with_reducible exact stepF_length _ _ _ | with_reducible exact sumF_length _ | with_reducible exact climbF_length _ (by first | with_reducible assumption | with_reducible exact shortF_length _ | with_reducible exact beginF_length _ _ | with_reducible exact getD_mem_len (by assumption) (by omega)) _ _ _ | with_reducible exact beginF_length _ _ | with_reducible exact chainF_length _ _ _ | with_reducible exact recF_length _ _ | with_reducible exact publicF_length _ | with_reducible exact getD_mem_len (by assumption) (by omega) | (with_reducible exact List.length_replicate))) | rfl)) ?_
    exact fun w1 h => ⟨.nd tg nl [] nv ns, ⟨by show Tr.nd tg [] (trs ns) = _; rw [hi2], SV.nil, hi3⟩, rfl, h.below, madeT (bv := nl) (bs := []) (by
      have h2 : Mem w [] (.row nl 0 5 1 [] :: .row nv ns.length 25 3 (hcs ns) :: entsL ns) [] w1 := (h.nilRow 5 1).sub SubC.h .nil
      exact h2)⟩

end Go.Proofs.Ytommkigkkeailaa
