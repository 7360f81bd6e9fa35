/- The encoder walked. -/
import Derived.Test.YtommkigkkeailaaOW
namespace Go.Proofs.Ytommkigkkeailaa
set_option linter.unusedSimpArgs false
set_option linter.unusedVariables false
open Go Go.PL Go.RowKit
set_option maxRecDepth 100000 in
theorem put_step (v : Value) (xs : List UInt8) (t : HT) (w : World) (hrow : (Ent.row v xs.length 5 1 (v8s xs)).at w) (sv : SV v xs.length) (ht : HSeen (rdO (nums [.row v xs.length 5 1 (v8s xs)]) w) t) (hsm : Sm t.tr) (hxl : xs.length + t.tr.siz ≤ 3000000) (ih : ∀ x ∈ t.kids, ∀ (v : Value) (xs : List UInt8) (w : World), (Ent.row v xs.length 5 1 (v8s xs)).at w → SV v xs.length → HSeen (rdO (nums [.row v xs.length 5 1 (v8s xs)]) w) x → Sm x.tr → xs.length + x.tr.siz ≤ 3000000 → Calls Try.prog 54 [v, .agg x.c.toArray].toArray w (GivesR w (.row v xs.length 5 1 (v8s xs)) (xs.length + x.tr.siz) 5 1 (v8s (xs ++ enc x.tr)))) :
    Calls Try.prog 54 [v, .agg t.c.toArray].toArray w (GivesR w (.row v xs.length 5 1 (v8s xs)) (xs.length + t.tr.siz) 5 1 (v8s (xs ++ enc t.tr))) := by
  obtain ⟨tg, bv, bs, lv, l⟩ := t
  have hb := ht.1
  have hk := ht.2.1
  have svb := hb.sv
  have svl := hk.sv
  have lb := svb.le
  have ll := svl.le
  simp only [maxLen] at lb ll
  have hs3 := content_le hsm
  have hxl : xs.length + (1 + wideF (bs.length + sizL (trs l)) + (bs.length + sizL (trs l))) ≤ 3000000 := hxl
  refine enter (m := 78) (R := Mem w (nums [(.row v xs.length 5 1 (v8s xs))]) [(.row v xs.length 5 1 (v8s xs))] []) Try.func54 rfl rfl (Nat.le_of_ble_eq_true rfl) (Mem.startR w hrow) ?_
  refine wpc_seq ?_
  refine wpc_region ?_
  refine wpl_t (t_box rfl [.int .u8 (tg.toNat : Int), bv, lv] rfl) rfl (fun b3 => ?_)
  refine wpl_q (q_pure rfl) rfl ?_
  refine wpl_nil ?_
  refine ex_then ?_
  refine wpc_seq ?_
  refine wpc_region ?_
  refine wpl_q (q_field Try.underlying25 rfl Try.ti22 rfl rfl _ rfl) rfl ?_
  refine wpl_q (q_ld Try.underlying22 rfl rfl rfl) rfl ?_
  refine wpl_q (q_lenW Try.underlying22 rfl (by first | assumption | exact SV.nil | exact SV.slv (by assumption) (by omega) (by omega) | exact arv_sv (by first | decide | (simp only [maxLen]; omega)))) rfl ?_
  refine wpl_q (q_pure rfl) rfl ?_
  refine wpl_nil ?_
  refine ex_then ?_
  refine wpc_seq ?_
  refine wpc_seq ?_
  refine wpc_region ?_
  refine wpl_q (q_field Try.underlying25 rfl Try.ti23 rfl rfl _ rfl) rfl ?_
  refine wpl_q (q_ld Try.underlying23 rfl rfl rfl) rfl ?_
  refine wpl_q (q_lenW Try.underlying23 rfl (by first | assumption | exact SV.nil | exact SV.slv (by assumption) (by omega) (by omega) | exact arv_sv (by first | decide | (simp only [maxLen]; omega)))) rfl ?_
  refine wpl_q (q_pure rfl) rfl ?_
  refine wpl_nil ?_
  refine ex_then ?_
  refine wpc_block ?_
  refine wpc_loopc (ι := { x : Nat // (x ≤ l.length) }) [(0, _), (3, _), (16, _), (17, _)] (fun x Lc => (18, .int .i64 ((x.1 : Nat) : Int)) :: (5, .int .i64 ((bs.length + sizL (trs (l.take x.1)) : Nat) : Int)) :: Lc) (fun x => Mem w (nums [.row v xs.length 5 1 (v8s xs)]) [.blk b3 25 [.int .u8 (tg.toNat : Int), bv, lv], (.row v xs.length 5 1 (v8s xs))] []) (fun x => l.length - x.1) ⟨0, (Nat.zero_le _)⟩ (by repeat (first | exact trivial | refine ⟨rfl, ?_⟩)) ?_ ?_
  ·
   exact fun w h => h.sub SubC.h .nil
  ·
   rintro ⟨i, hi0⟩; try dsimp only
   have hi0 : i ≤ l.length := hi0
   refine wpc_seq ?_
   refine wpc_region ?_
   refine wpl_q (q_pure rfl) rfl ?_
   refine wpl_nil ?_
   refine ex_then ?_
   refine wpc_seq ?_
   refine wpc_cond rfl (fun hc19 => ?_) (fun hc19 => ?_)
   ·
    simp only [decide_eq_true_eq] at hc19
    have hil : i < l.length := by omega
    haveI := (ht.kid hil).sv.one
    have hs1 := sizL_take hil
    have hs2 := sizL_kid hil
    refine wpc_skip ?_
    refine ex_then ?_
    refine wpc_seq ?_
    refine wpc_block ?_
    refine wpc_seq ?_
    refine wpc_region ?_
    refine wpl_q (q_idxW Try.underlying23 Try.ti25 rfl rfl (by first | assumption | exact SV.nil | exact SV.slv (by assumption) (by omega) (by omega) | exact arv_sv (by first | decide | (simp only [maxLen]; omega))) (by first | omega | (simp only [maxLen]; omega) | (simp only [List.length_append, List.length_cons, List.length_nil, List.length_take, maxLen]; omega) | (simp only [List.length_append, List.length_cons, List.length_nil, List.length_take]; omega))) rfl ?_
    refine wpl_q (q_ldWN Try.underlying25 rfl Try.ti25 rfl (fun w h => hk.mono (rdo_old h)) (l.getD i HT.z).c (cat_part HT.c_length HT.z hil) (HT.c_length _)) rfl ?_
    refine wpl_t (t_alloc Try.ti25 HT.z.c rfl) rfl (fun b7 => ?_)
    refine wpl_t0 (t_stA Try.ti25 rfl rfl LenC.h OneC.h LenC.h) (fun _ => ?_)
    refine wpl_nil ?_
    refine ex_then ?_
    refine wpc_region ?_
    refine wpl_q (q_pure rfl) rfl ?_
    refine wpl_q (q_ldN Try.underlying25 rfl Try.ti25 rfl LenC.h) rfl ?_
    refine wpl_t (t_pur (v := .int .i64 (((l.getD i HT.z).tr.siz : Nat) : Int)) Try.hb47 rfl fun w h => size (l.getD i HT.z) w ((ht.kid hil).mono (rdo_old h)) (hsm.kid hil)) rfl (fun b24 => ?_)
    refine wpl_q (q_addN rfl rfl (by first | omega | (simp only [maxLen]; omega) | (simp only [List.length_append, List.length_cons, List.length_nil, List.length_take, maxLen]; omega) | (simp only [List.length_append, List.length_cons, List.length_nil, List.length_take]; omega))) rfl ?_
    refine wpl_re 25 rfl (congrArg (fun n : Nat => Value.int .i64 (n : Int)) (show bs.length + sizL (trs (l.take i)) + (l.getD i HT.z).tr.siz = bs.length + sizL (trs (l.take (i + 1))) by omega)) ?_
    refine wpl_q (q_pure rfl) rfl ?_
    refine wpl_nil ?_
    refine ex_block ?_
    refine ex_then ?_
    refine wpc_region ?_
    refine wpl_q (q_addN (b := 1) rfl rfl (by first | omega | (simp only [maxLen]; omega) | (simp only [List.length_append, List.length_cons, List.length_nil, List.length_take, maxLen]; omega) | (simp only [List.length_append, List.length_cons, List.length_nil, List.length_take]; omega))) rfl ?_
    refine wpl_q (q_pure rfl) rfl ?_
    refine wpl_nil ?_
    refine ex_again ⟨i + 1, (by omega)⟩ ?_ ?_ ?_
    ·
     exact (by repeat (first | exact trivial | refine ⟨rfl, ?_⟩))
    ·
     exact fun w h => h.sub SubC.h .nil
    ·
     (show l.length - (i + 1) < l.length - i); omega
   ·
    simp only [decide_eq_false_iff_not] at hc19
    obtain rfl : i = l.length := by omega
    rw [List.take_length]
    have hw := wideF_le (bs.length + sizL (trs l)) (by omega)
    refine wpc_exit ?_
    refine ex_then_exit ?_
    refine ex_then_exit ?_
    refine ex_block_hit ?_
    refine ex_then ?_
    refine wpc_seq ?_
    refine wpc_region ?_
    refine wpl_q (q_pure rfl) rfl ?_
    refine wpl_q (q_field Try.underlying25 rfl Try.ti5 rfl rfl _ rfl) rfl ?_
    refine wpl_q (q_ld Try.underlying5 rfl rfl (by first | exact v8s_get (by first | decide | omega | exact Nat.zero_lt_one | (simp; omega) | (simp; done) | (simp only [v8s_length, v32s_length, vis_length, vns_length, v64s_length]; omega)) | rfl)) rfl ?_
    refine wpl_tp (t_bsV (v8s [_]) Try.underlying22 Try.ti5 rfl rfl (by decide) (by decide) rfl (v8s_one _)) rfl (fun b30 p30 => ?_)
    refine wpl_tp (t_apW Try.underlying22 Try.ti5 rfl (by decide) rfl rfl (fun w h => by first | exact h.seenV | exact h.seenA (by first | decide | (simp only [maxLen]; omega)) (by first | with_reducible rfl | (simp only [v8s_length, v32s_length, vis_length, vns_length, v64s_length, List.length_replicate]; first | done | with_reducible assumption | omega) | (rw [v8s_length]; (first | with_reducible assumption | with_reducible exact shortF_length _ | with_reducible exact stepF_length _ _ _ | with_reducible exact sumF_length _ | with_reducible exact climbF_length _ (by first | with_reducible assumption | with_reducible exact shortF_length _ | with_reducible exact beginF_length _ _ | with_reducible exact getD_mem_len (by assumption) (by omega)) _ _ _ | with_reducible exact beginF_length _ _ | with_reducible exact chainF_length _ _ _ | with_reducible exact recF_length _ _ | with_reducible exact publicF_length _ | with_reducible exact getD_mem_len (by assumption) (by omega) | (with_reducible exact List.length_replicate))) | rfl) | exact h.seen_old (by assumption) | exact h.seen_oldL (by assumption) (by assumption) | exact h.seen_fact (by repeat (first | exact List.mem_cons_self .. | apply List.mem_cons_of_mem))) OneC.h (by first | omega | (simp only [maxLen]; omega) | (simp only [List.length_append, List.length_cons, List.length_nil, List.length_take, maxLen]; omega) | (simp only [List.length_append, List.length_cons, List.length_nil, List.length_take]; omega)) (by first | omega | (simp only [maxLen]; omega) | (simp only [List.length_append, List.length_cons, List.length_nil, List.length_take, maxLen]; omega) | (simp only [List.length_append, List.length_cons, List.length_nil, List.length_take]; omega)) (v8s (xs ++ [tg])) (v8s_append _ _).symm) rfl (fun b31 p31 => ?_)
    refine wpl_q (q_pure rfl) rfl ?_
    refine wpl_nil ?_
    refine ex_then ?_
    refine wpc_cutc ({ x : Value × List UInt8 // (x.2 = xs ++ (tg :: lenB (bs.length + sizL (trs l)))) ∧ (x.2.length = xs.length + 1 + wideF (bs.length + sizL (trs l))) ∧ (SV x.1 x.2.length) }) [(3, .pointer (some ⟨b3, 0, none⟩))] (fun x Lc => (0, x.1.1) :: Lc) (fun x => Mem w (nums [.row v xs.length 5 1 (v8s xs)]) [.blk b3 25 [.int .u8 (tg.toNat : Int), bv, lv], .row x.1.1 (x.1.2.length) 5 1 (v8s (x.1.2))] []) ?_ ?_
    ·
     refine wpc_seq ?_
     refine wpc_region ?_
     refine wpl_q (q_pure rfl) rfl ?_
     refine wpl_t (t_pur (v := .int .i64 ((wideF (bs.length + sizL (trs l)) : Nat) : Int)) Try.hb62 rfl fun w h => wide (bs.length + sizL (trs l)) w (by omega)) rfl (fun b33 => ?_)
     have hwp : 1 ≤ wideF (bs.length + sizL (trs l)) := by unfold wideF; split <;> omega
     refine wpl_q (q_subN (b := 1) rfl rfl (by omega) (by first | omega | (simp only [maxLen]; omega) | (simp only [List.length_append, List.length_cons, List.length_nil, List.length_take, maxLen]; omega) | (simp only [List.length_append, List.length_cons, List.length_nil, List.length_take]; omega))) rfl ?_
     refine wpl_q (q_pure rfl) rfl ?_
     refine wpl_nil ?_
     refine ex_then ?_
     refine wpc_seq ?_
     refine wpc_region ?_
     refine wpl_q (q_pure rfl) rfl ?_
     refine wpl_q (q_pure rfl) rfl ?_
     refine wpl_nil ?_
     refine ex_then ?_
     refine wpc_cond rfl (fun hc36 => ?_) (fun hc36 => ?_)
     ·
      try simp only [beq_iff_eq] at hc36
      try simp only [decide_eq_true_eq] at hc36
      have hn : (bs.length + sizL (trs l)) < 128 := by
        rcases Nat.lt_or_ge (bs.length + sizL (trs l)) 128 with h | h
        · exact h
        · have h1 := wide_k (n := (bs.length + sizL (trs l))) (by omega)
          have h2 := wide_ge (n := (bs.length + sizL (trs l))) (by omega)
          omega
      have hlb : lenB (bs.length + sizL (trs l)) = [of8 (((bs.length + sizL (trs l)) : Nat) : Int)] := by rw [lenB_num (by omega), if_pos hn]
      have hy1 : ((xs ++ [tg]) ++ [of8 (((bs.length + sizL (trs l)) : Nat) : Int)]).length = xs.length + 1 + 1 := by simp
      refine wpc_region ?_
      refine wpl_q (q_pure rfl) rfl ?_
      refine wpl_q (q_pure rfl) rfl ?_
      refine wpl_q (q8_conv Try.underlying3 Try.underlying5 rfl) rfl ?_
      refine wpl_tp (t_bsV (v8s [_]) Try.underlying22 Try.ti5 rfl rfl (by decide) (by decide) rfl (v8s_one _)) rfl (fun b40 p40 => ?_)
      refine wpl_tp (t_apW Try.underlying22 Try.ti5 rfl (by decide) rfl rfl (fun w h => by first | exact h.seenV | exact h.seenA (by first | decide | (simp only [maxLen]; omega)) (by first | with_reducible rfl | (simp only [v8s_length, v32s_length, vis_length, vns_length, v64s_length, List.length_replicate]; first | done | with_reducible assumption | omega) | (rw [v8s_length]; (first | with_reducible assumption | with_reducible exact shortF_length _ | with_reducible exact stepF_length _ _ _ | with_reducible exact sumF_length _ | with_reducible exact climbF_length _ (by first | with_reducible assumption | with_reducible exact shortF_length _ | with_reducible exact beginF_length _ _ | with_reducible exact getD_mem_len (by assumption) (by omega)) _ _ _ | with_reducible exact beginF_length _ _ | with_reducible exact chainF_length _ _ _ | with_reducible exact recF_length _ _ | with_reducible exact publicF_length _ | with_reducible exact getD_mem_len (by assumption) (by omega) | (with_reducible exact List.length_replicate))) | rfl) | exact h.seen_old (by assumption) | exact h.seen_oldL (by assumption) (by assumption) | exact h.seen_fact (by repeat (first | exact List.mem_cons_self .. | apply List.mem_cons_of_mem))) OneC.h (by first | omega | (simp only [maxLen]; omega) | (simp only [List.length_append, List.length_cons, List.length_nil, List.length_take, maxLen]; omega) | (simp only [List.length_append, List.length_cons, List.length_nil, List.length_take]; omega)) (by first | omega | (simp only [maxLen]; omega) | (simp only [List.length_append, List.length_cons, List.length_nil, List.length_take, maxLen]; omega) | (simp only [List.length_append, List.length_cons, List.length_nil, List.length_take]; omega)) (v8s ((xs ++ [tg]) ++ [of8 (((bs.length + sizL (trs l)) : Nat) : Int)])) (v8s_append _ _).symm) rfl (fun b41 p41 => ?_)
      refine wpl_q (q_pure rfl) rfl ?_
      refine wpl_nil ?_
      refine ex_mid ⟨(b41, (xs ++ [tg]) ++ [of8 (((bs.length + sizL (trs l)) : Nat) : Int)]), ⟨by rw [hlb]; simp, by rw [hy1]; omega, by rw [hy1]; exact p41⟩⟩ ?_ ?_
      ·
       exact (by repeat (first | exact trivial | refine ⟨rfl, ?_⟩))
      ·
       exact fun w h => by
         dsimp only
         rw [hy1]
         exact h.sel
     ·
      try simp only [beq_eq_false_iff_ne, ne_eq] at hc36
      try simp only [decide_eq_false_iff_not] at hc36
      have hn : ¬ (bs.length + sizL (trs l)) < 128 := fun h => hc36 (by have := wide_1 h; omega)
      have hk : wideF (bs.length + sizL (trs l)) - 1 = kB (bs.length + sizL (trs l)) := wide_k hn
      have hkg := wide_ge hn
      have hlb : lenB (bs.length + sizL (trs l)) = of8 ((128 + kB (bs.length + sizL (trs l)) : Nat) : Int) :: numK (kB (bs.length + sizL (trs l))) (bs.length + sizL (trs l)) := by rw [lenB_num (by omega), if_neg hn]
      have hy2 : ((xs ++ [tg] ++ [of8 ((128 + kB (bs.length + sizL (trs l)) : Nat) : Int)]) ++ numK (kB (bs.length + sizL (trs l))) (bs.length + sizL (trs l))).length = xs.length + 1 + 1 + (kB (bs.length + sizL (trs l)) - 0) := by rw [List.length_append, numK_len]; simp
      have e0 : numK (kB (bs.length + sizL (trs l)) - 0) ((bs.length + sizL (trs l)) / 2 ^ (8 * 0)) = numK (kB (bs.length + sizL (trs l))) (bs.length + sizL (trs l)) := by rw [Nat.sub_zero, Nat.mul_zero, Nat.pow_zero, Nat.div_one]
      refine wpc_seq ?_
      refine wpc_region ?_
      refine wpl_q (q_pure rfl) rfl ?_
      refine wpl_q (q_pure rfl) rfl ?_
      refine wpl_q (q_addN (a := 128) rfl rfl (by first | omega | (simp only [maxLen]; omega) | (simp only [List.length_append, List.length_cons, List.length_nil, List.length_take, maxLen]; omega) | (simp only [List.length_append, List.length_cons, List.length_nil, List.length_take]; omega))) rfl ?_
      refine wpl_re 44 rfl (congrArg (fun n : Nat => Value.int .i64 (n : Int)) (show 128 + (wideF (bs.length + sizL (trs l)) - 1) = 128 + kB (bs.length + sizL (trs l)) by omega)) ?_
      refine wpl_q (q8_conv Try.underlying3 Try.underlying5 rfl) rfl ?_
      refine wpl_tp (t_bsV (v8s [_]) Try.underlying22 Try.ti5 rfl rfl (by decide) (by decide) rfl (v8s_one _)) rfl (fun b46 p46 => ?_)
      refine wpl_tp (t_apW Try.underlying22 Try.ti5 rfl (by decide) rfl rfl (fun w h => by first | exact h.seenV | exact h.seenA (by first | decide | (simp only [maxLen]; omega)) (by first | with_reducible rfl | (simp only [v8s_length, v32s_length, vis_length, vns_length, v64s_length, List.length_replicate]; first | done | with_reducible assumption | omega) | (rw [v8s_length]; (first | with_reducible assumption | with_reducible exact shortF_length _ | with_reducible exact stepF_length _ _ _ | with_reducible exact sumF_length _ | with_reducible exact climbF_length _ (by first | with_reducible assumption | with_reducible exact shortF_length _ | with_reducible exact beginF_length _ _ | with_reducible exact getD_mem_len (by assumption) (by omega)) _ _ _ | with_reducible exact beginF_length _ _ | with_reducible exact chainF_length _ _ _ | with_reducible exact recF_length _ _ | with_reducible exact publicF_length _ | with_reducible exact getD_mem_len (by assumption) (by omega) | (with_reducible exact List.length_replicate))) | rfl) | exact h.seen_old (by assumption) | exact h.seen_oldL (by assumption) (by assumption) | exact h.seen_fact (by repeat (first | exact List.mem_cons_self .. | apply List.mem_cons_of_mem))) OneC.h (by first | omega | (simp only [maxLen]; omega) | (simp only [List.length_append, List.length_cons, List.length_nil, List.length_take, maxLen]; omega) | (simp only [List.length_append, List.length_cons, List.length_nil, List.length_take]; omega)) (by first | omega | (simp only [maxLen]; omega) | (simp only [List.length_append, List.length_cons, List.length_nil, List.length_take, maxLen]; omega) | (simp only [List.length_append, List.length_cons, List.length_nil, List.length_take]; omega)) (v8s (xs ++ [tg] ++ [of8 ((128 + kB (bs.length + sizL (trs l)) : Nat) : Int)])) (v8s_append _ _).symm) rfl (fun b47 p47 => ?_)
      refine wpl_q (q_pure rfl) rfl ?_
      refine wpl_nil ?_
      refine ex_then ?_
      refine wpc_seq ?_
      refine wpc_region ?_
      refine wpl_q (q_pure rfl) rfl ?_
      refine wpl_q (q_subN (b := 1) rfl rfl (by omega) (by first | omega | (simp only [maxLen]; omega) | (simp only [List.length_append, List.length_cons, List.length_nil, List.length_take, maxLen]; omega) | (simp only [List.length_append, List.length_cons, List.length_nil, List.length_take]; omega))) rfl ?_
      refine wpl_re 49 rfl (congrArg (Value.int .i64) (show ((wideF (bs.length + sizL (trs l)) - 1 - 1 : Nat) : Int) = ((kB (bs.length + sizL (trs l)) : Nat) : Int) - 1 by omega)) ?_
      refine wpl_q (q_pure rfl) rfl ?_
      refine wpl_nil ?_
      refine ex_then ?_
      refine wpc_block ?_
      refine wpc_loopc (ι := { x : Nat × Value // (x.1 ≤ kB (bs.length + sizL (trs l))) ∧ (SV x.2 (xs.length + 1 + 1 + (kB (bs.length + sizL (trs l)) - x.1))) }) [(3, _), (5, _)] (fun x Lc => (9, .int .i64 (((x.1.1 : Nat) : Int) - 1)) :: (0, x.1.2) :: Lc) (fun x => Mem w (nums [.row v xs.length 5 1 (v8s xs)]) [.blk b3 25 [.int .u8 (tg.toNat : Int), bv, lv], .row x.1.2 (xs.length + 1 + 1 + (kB (bs.length + sizL (trs l)) - x.1.1)) 5 1 (v8s (((xs ++ [tg] ++ [of8 ((128 + kB (bs.length + sizL (trs l)) : Nat) : Int)]) ++ numK (kB (bs.length + sizL (trs l)) - x.1.1) ((bs.length + sizL (trs l)) / 2 ^ (8 * x.1.1)))))] []) (fun x => x.1.1) ⟨(kB (bs.length + sizL (trs l)), b47), ⟨Nat.le_refl _, by rw [Nat.sub_self]; exact p47⟩⟩ (by repeat (first | exact trivial | refine ⟨rfl, ?_⟩)) ?_ ?_
      ·
       exact fun w h => by
         dsimp only
         rw [numK_all, Nat.sub_self, List.append_nil]
         exact h.sel
      ·
       rintro ⟨⟨s, v3⟩, ⟨hi0, hi1⟩⟩; try dsimp only
       have hi0 : s ≤ kB (bs.length + sizL (trs l)) := hi0; have hi1 : SV v3 (xs.length + 1 + 1 + (kB (bs.length + sizL (trs l)) - s)) := hi1
       refine wpc_seq ?_
       refine wpc_seq ?_
       refine wpc_region ?_
       refine wpl_q (q_pure rfl) rfl ?_
       refine wpl_q (q_pure rfl) rfl ?_
       refine wpl_nil ?_
       refine ex_then ?_
       refine wpc_cond rfl (fun hc51 => ?_) (fun hc51 => ?_)
       ·
        simp only [decide_eq_true_eq] at hc51
        obtain ⟨m, rfl⟩ : ∃ m, s = m + 1 := ⟨s - 1, by omega⟩
        refine wpc_re 9 rfl (congrArg (Value.int .i64) (show (((m + 1 : Nat) : Int) - 1) = ((m : Nat) : Int) by omega)) ?_
        refine wpc_skip ?_
        refine ex_then ?_
        refine wpc_seq ?_
        refine wpc_block ?_
        refine wpc_region ?_
        refine wpl_q (q_pure rfl) rfl ?_
        refine wpl_q (q_pure rfl) rfl ?_
        refine wpl_q (q_pure rfl) rfl ?_
        refine wpl_q (q_mulN (a := 8) rfl rfl (by first | omega | (simp only [maxLen]; omega) | (simp only [List.length_append, List.length_cons, List.length_nil, List.length_take, maxLen]; omega) | (simp only [List.length_append, List.length_cons, List.length_nil, List.length_take]; omega))) rfl ?_
        refine wpl_q (q_shrN rfl rfl (by first | decide | omega)) rfl ?_
        refine wpl_q (q8_conv Try.underlying3 Try.underlying5 rfl) rfl ?_
        refine wpl_tp (t_bsV (v8s [_]) Try.underlying22 Try.ti5 rfl rfl (by decide) (by decide) rfl (v8s_one _)) rfl (fun b60 p60 => ?_)
        refine wpl_tp (t_apW Try.underlying22 Try.ti5 rfl (by decide) rfl rfl (fun w h => by first | exact h.seenV | exact h.seenA (by first | decide | (simp only [maxLen]; omega)) (by first | with_reducible rfl | (simp only [v8s_length, v32s_length, vis_length, vns_length, v64s_length, List.length_replicate]; first | done | with_reducible assumption | omega) | (rw [v8s_length]; (first | with_reducible assumption | with_reducible exact shortF_length _ | with_reducible exact stepF_length _ _ _ | with_reducible exact sumF_length _ | with_reducible exact climbF_length _ (by first | with_reducible assumption | with_reducible exact shortF_length _ | with_reducible exact beginF_length _ _ | with_reducible exact getD_mem_len (by assumption) (by omega)) _ _ _ | with_reducible exact beginF_length _ _ | with_reducible exact chainF_length _ _ _ | with_reducible exact recF_length _ _ | with_reducible exact publicF_length _ | with_reducible exact getD_mem_len (by assumption) (by omega) | (with_reducible exact List.length_replicate))) | rfl) | exact h.seen_old (by assumption) | exact h.seen_oldL (by assumption) (by assumption) | exact h.seen_fact (by repeat (first | exact List.mem_cons_self .. | apply List.mem_cons_of_mem))) OneC.h (by first | omega | (simp only [maxLen]; omega) | (simp only [List.length_append, List.length_cons, List.length_nil, List.length_take, maxLen]; omega) | (simp only [List.length_append, List.length_cons, List.length_nil, List.length_take]; omega)) (by first | omega | (simp only [maxLen]; omega) | (simp only [List.length_append, List.length_cons, List.length_nil, List.length_take, maxLen]; omega) | (simp only [List.length_append, List.length_cons, List.length_nil, List.length_take]; omega)) (v8s ((xs ++ [tg] ++ [of8 ((128 + kB (bs.length + sizL (trs l)) : Nat) : Int)]) ++ numK (kB (bs.length + sizL (trs l)) - m) ((bs.length + sizL (trs l)) / 2 ^ (8 * m)))) (by have q := num_step (bs.length + sizL (trs l)) (kB (bs.length + sizL (trs l))) (m + 1) (by omega) hi0; rw [Nat.add_sub_cancel] at q; rw [q, ← List.append_assoc]; exact (v8s_append _ _).symm)) rfl (fun b61 p61 => ?_)
        refine wpl_q (q_pure rfl) rfl ?_
        refine wpl_nil ?_
        refine ex_block ?_
        refine ex_then ?_
        refine wpc_region ?_
        refine wpl_q (q_pure rfl) rfl ?_
        first | refine wpl_q (qop_eq (q_pure rfl) (congrArg (Value.int .i64) (wk_i64 (by omega) (by omega)))) rfl ?_ | refine wpl_q (q_pure rfl) rfl ?_
        refine wpl_q (q_pure rfl) rfl ?_
        refine wpl_nil ?_
        refine ex_again ⟨(m, b61), ⟨by omega, by show SV b61 (xs.length + 1 + 1 + (kB (bs.length + sizL (trs l)) - m)); rw [show kB (bs.length + sizL (trs l)) - m = (kB (bs.length + sizL (trs l)) - (m + 1)) + 1 by omega]; exact p61⟩⟩ ?_ ?_ ?_
        ·
         exact (by repeat (first | exact trivial | refine ⟨rfl, ?_⟩))
        ·
         exact fun w h => by
           dsimp only
           rw [show xs.length + 1 + 1 + (kB (bs.length + sizL (trs l)) - (m + 1)) + 1 = xs.length + 1 + 1 + (kB (bs.length + sizL (trs l)) - m) by omega] at h
           exact h.sel
        ·
         show m < m + 1; omega
       ·
        simp only [decide_eq_false_iff_not] at hc51
        obtain rfl : s = 0 := by omega
        refine wpc_exit ?_
        refine ex_then_exit ?_
        refine ex_then_exit ?_
        refine ex_block_hit ?_
        refine ex_mid ⟨(v3, (xs ++ [tg] ++ [of8 ((128 + kB (bs.length + sizL (trs l)) : Nat) : Int)]) ++ numK (kB (bs.length + sizL (trs l))) (bs.length + sizL (trs l))), ⟨by rw [hlb]; simp, by rw [hy2]; omega, by rw [hy2]; exact hi1⟩⟩ ?_ ?_
        ·
         exact (by repeat (first | exact trivial | refine ⟨rfl, ?_⟩))
        ·
         exact fun w h => by
           dsimp only
           rw [e0] at h
           rw [hy2]
           exact h.sel
    ·
     rintro ⟨⟨v2, ys⟩, ⟨hi0, hi1, hi2⟩⟩; try dsimp only
     have hi0 : ys = xs ++ (tg :: lenB (bs.length + sizL (trs l))) := hi0; have hi1 : ys.length = xs.length + 1 + wideF (bs.length + sizL (trs l)) := hi1; have hi2 : SV v2 ys.length := hi2
     refine wpc_seq ?_
     refine wpc_region ?_
     refine wpl_q (q_pure rfl) rfl ?_
     refine wpl_q (q_field Try.underlying25 rfl Try.ti22 rfl rfl _ rfl) rfl ?_
     refine wpl_q (q_ld Try.underlying22 rfl rfl rfl) rfl ?_
     refine wpl_tp (t_apW Try.underlying22 Try.ti5 rfl (by decide) rfl rfl (fun w h => hb.mono (rdo_old h)) (v8s_one _) (by first | omega | (simp only [maxLen]; omega) | (simp only [List.length_append, List.length_cons, List.length_nil, List.length_take, maxLen]; omega) | (simp only [List.length_append, List.length_cons, List.length_nil, List.length_take]; omega)) (by first | omega | (simp only [maxLen]; omega) | (simp only [List.length_append, List.length_cons, List.length_nil, List.length_take, maxLen]; omega) | (simp only [List.length_append, List.length_cons, List.length_nil, List.length_take]; omega)) (v8s (ys ++ bs)) (v8s_append _ _).symm) rfl (fun b65 p65 => ?_)
     refine wpl_q (q_pure rfl) rfl ?_
     refine wpl_nil ?_
     refine ex_then ?_
     refine wpc_seq ?_
     refine wpc_seq ?_
     refine wpc_region ?_
     refine wpl_q (q_field Try.underlying25 rfl Try.ti23 rfl rfl _ rfl) rfl ?_
     refine wpl_q (q_ld Try.underlying23 rfl rfl rfl) rfl ?_
     refine wpl_q (q_lenW Try.underlying23 rfl (by first | assumption | exact SV.nil | exact SV.slv (by assumption) (by omega) (by omega) | exact arv_sv (by first | decide | (simp only [maxLen]; omega)))) rfl ?_
     refine wpl_q (q_pure rfl) rfl ?_
     refine wpl_nil ?_
     refine ex_then ?_
     refine wpc_block ?_
     refine wpc_loopc (ι := { x : Nat × Value × List UInt8 // (x.1 ≤ l.length) ∧ (x.2.2 = xs ++ (tg :: (lenB (bs.length + sizL (trs l)) ++ (bs ++ encL (trs (l.take x.1)))))) ∧ (x.2.2.length = xs.length + 1 + wideF (bs.length + sizL (trs l)) + bs.length + sizL (trs (l.take x.1))) ∧ (SV x.2.1 x.2.2.length) }) [(67, _), (68, _)] (fun x Lc => (69, .int .i64 ((x.1.1 : Nat) : Int)) :: (0, x.1.2.1) :: Lc) (fun x => Mem w (nums [.row v xs.length 5 1 (v8s xs)]) [.blk b3 25 [.int .u8 (tg.toNat : Int), bv, lv], .row x.1.2.1 (x.1.2.2.length) 5 1 (v8s (x.1.2.2))] []) (fun x => l.length - x.1.1) ⟨(0, b65, ys ++ bs), ⟨Nat.zero_le _, by rw [hi0]; simp [encL, trs], by rw [List.length_append, hi1]; rfl, by rw [List.length_append]; exact p65⟩⟩ (by repeat (first | exact trivial | refine ⟨rfl, ?_⟩)) ?_ ?_
     ·
      exact fun w h => by
        dsimp only
        rw [List.length_append]
        exact h.sel
     ·
      rintro ⟨⟨i, v4, zs⟩, ⟨hi0, hi1, hi2, hi3⟩⟩; try dsimp only
      have hi0 : i ≤ l.length := hi0; have hi1 : zs = xs ++ (tg :: (lenB (bs.length + sizL (trs l)) ++ (bs ++ encL (trs (l.take i))))) := hi1; have hi2 : zs.length = xs.length + 1 + wideF (bs.length + sizL (trs l)) + bs.length + sizL (trs (l.take i)) := hi2; have hi3 : SV v4 zs.length := hi3
      refine wpc_seq ?_
      refine wpc_region ?_
      refine wpl_q (q_pure rfl) rfl ?_
      refine wpl_nil ?_
      refine ex_then ?_
      refine wpc_seq ?_
      refine wpc_cond rfl (fun hc70 => ?_) (fun hc70 => ?_)
      ·
       simp only [decide_eq_true_eq] at hc70
       have hil : i < l.length := by omega
       haveI := (ht.kid hil).sv.one
       have hs1 := sizL_take hil
       have hs2 := sizL_kid hil
       refine wpc_skip ?_
       refine ex_then ?_
       refine wpc_seq ?_
       refine wpc_block ?_
       refine wpc_seq ?_
       refine wpc_region ?_
       refine wpl_q (q_idxW Try.underlying23 Try.ti25 rfl rfl (by first | assumption | exact SV.nil | exact SV.slv (by assumption) (by omega) (by omega) | exact arv_sv (by first | decide | (simp only [maxLen]; omega))) (by first | omega | (simp only [maxLen]; omega) | (simp only [List.length_append, List.length_cons, List.length_nil, List.length_take, maxLen]; omega) | (simp only [List.length_append, List.length_cons, List.length_nil, List.length_take]; omega))) rfl ?_
       refine wpl_q (q_ldWN Try.underlying25 rfl Try.ti25 rfl (fun w h => hk.mono (rdo_old h)) (l.getD i HT.z).c (cat_part HT.c_length HT.z hil) (HT.c_length _)) rfl ?_
       refine wpl_t (t_alloc Try.ti25 HT.z.c rfl) rfl (fun b11 => ?_)
       refine wpl_t0 (t_stA Try.ti25 rfl rfl LenC.h OneC.h LenC.h) (fun _ => ?_)
       refine wpl_nil ?_
       refine ex_then ?_
       refine wpc_region ?_
       refine wpl_q (q_pure rfl) rfl ?_
       refine wpl_q (q_ldN Try.underlying25 rfl Try.ti25 rfl LenC.h) rfl ?_
       refine wpl_tp (t_callR (m := zs.length) (m' := zs.length + (l.getD i HT.z).tr.siz) (ys := v8s (zs ++ enc (l.getD i HT.z).tr)) Try.hb54 rfl fun w h hr => ih (l.getD i HT.z) (getD_memH hil) v4 zs w hr hi3 ((ht.kid hil).mono (rdo_nums h (by simp))) (hsm.kid hil) (by omega)) rfl (fun b75 p75 => ?_)
       refine wpl_q (q_pure rfl) rfl ?_
       refine wpl_nil ?_
       refine ex_block ?_
       refine ex_then ?_
       refine wpc_region ?_
       refine wpl_q (q_addN (b := 1) rfl rfl (by first | omega | (simp only [maxLen]; omega) | (simp only [List.length_append, List.length_cons, List.length_nil, List.length_take, maxLen]; omega) | (simp only [List.length_append, List.length_cons, List.length_nil, List.length_take]; omega))) rfl ?_
       refine wpl_q (q_pure rfl) rfl ?_
       refine wpl_nil ?_
       refine ex_again ⟨(i + 1, b75, zs ++ enc (l.getD i HT.z).tr), ⟨by omega, by rw [hi1, encL_take hil]; simp, by rw [List.length_append, enc_len _ (hsm.kid hil), hi2]; dsimp only; omega, by rw [List.length_append, enc_len _ (hsm.kid hil)]; exact p75⟩⟩ ?_ ?_ ?_
       ·
        exact (by repeat (first | exact trivial | refine ⟨rfl, ?_⟩))
       ·
        exact fun w h => by
          dsimp only
          rw [List.length_append, enc_len _ (hsm.kid hil)]
          exact h.sel
       ·
        (show l.length - (i + 1) < l.length - i); omega
      ·
       simp only [decide_eq_false_iff_not] at hc70
       obtain rfl : i = l.length := by omega
       rw [List.take_length] at hi1 hi2
       refine wpc_exit ?_
       refine ex_then_exit ?_
       refine ex_then_exit ?_
       refine ex_block_hit ?_
       refine ex_then ?_
       refine wpc_seq ?_
       refine wpc_region ?_
       refine wpl_q (q_pure rfl) rfl ?_
       refine wpl_q (q_pure rfl) rfl ?_
       refine wpl_nil ?_
       refine ex_then ?_
       refine wpc_ret ?_
       refine ret1 (.inl rfl) rfl rfl ?_
       have hz1 : zs = xs ++ enc (HT.nd tg bv bs lv l).tr := hi1
       have hz2 : zs.length = xs.length + (HT.nd tg bv bs lv l).tr.siz := by rw [hi2]; show _ = xs.length + (1 + wideF (bs.length + sizL (trs l)) + (bs.length + sizL (trs l))); omega
       exact fun w1 h => ⟨v4, by rw [← hz2]; exact hi3, rfl, by rw [hz2, hz1] at h; exact h.sub SubC.h .nil⟩

end Go.Proofs.Ytommkigkkeailaa
