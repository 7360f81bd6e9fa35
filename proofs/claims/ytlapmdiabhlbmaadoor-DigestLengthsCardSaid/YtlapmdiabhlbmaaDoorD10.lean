/- Join is Sum of the whole; the reference: Short, All, Same. -/
import Derived.Test.YtlapmdiabhlbmaaDoorD9
namespace Go.Proofs.YtlapmdiabhlbmaaDoor
set_option linter.unusedSimpArgs false
set_option linter.unusedVariables false
open Go Go.PL Go.RowKit

theorem lenN_eq (ps : List (List UInt8)) : ∀ i, i ≤ ps.length → lenN ps i = of64 ((ps.take i).flatten.length : Nat)
  | 0, _ => by simp [lenN, of64]
  | i + 1, h => by
    rw [lenN, lenN_eq ps i (by omega), take_succ_flat ps i (by omega), List.length_append]
    apply UInt64.toNat_inj.1
    have h1 := of64_toNat (((ps.take i).flatten.length : Nat) : Int)
    have h2 := of64_toNat (((ps.getD i []).length : Nat) : Int)
    have h3 := of64_toNat ((((ps.take i).flatten.length + (ps.getD i []).length : Nat) : Nat) : Int)
    rw [UInt64.toNat_add]
    omega
theorem setLen_eq (buf : List UInt8) (x : UInt64) (h : buf.length = 64) : ∀ i, i ≤ 8 → setLen buf x i = buf.take 56 ++ lenB x i ++ buf.drop (56 + i)
  | 0, _ => by simp [setLen, lenB]
  | i + 1, hi => by
    rw [setLen, setLen_eq buf x h i (by omega)]
    have hl : (buf.take 56 ++ lenB x i).length = 56 + i := by simp [lenB_length]; omega
    have hd : buf.drop (56 + i) = buf.getD (56 + i) 0 :: buf.drop (56 + (i + 1)) := by
      rw [List.drop_eq_getElem_cons (by omega), List.getD_eq_getElem?_getD, List.getElem?_eq_getElem (by omega)]; rfl
    rw [List.set_append_right (56 + i) _ (by omega), hl, Nat.sub_self, hd, List.set_cons_zero, lenB]
    simp [show 56 - 8 * i = 8 * (7 - i) by omega]
theorem blocks_pad (ps : List (List UInt8)) : blocksF ps = chunksF (padF ps.flatten) := by
  unfold blocksF
  rw [lenN_eq ps _ (Nat.le_refl _), List.take_length]
  generalize ps.flatten = a
  have hc : a ++ [(128 : UInt8)] ++ List.replicate (zc a.length) 0 = cF a ++ List.replicate (56 - (cF a).length % 64) 0 ∧ (cF a).length % 64 ≤ 56 := by
    by_cases h : (a ++ [(128 : UInt8)]).length % 64 > 56
    · rw [cF_full a h]
      have hl : (a ++ [(128 : UInt8)] ++ List.replicate (64 - (a ++ [(128 : UInt8)]).length % 64) (0 : UInt8)).length % 64 = 0 := by
        rw [List.length_append, List.length_replicate]; omega
      refine ⟨?_, by omega⟩
      rw [hl, List.append_assoc, List.append_assoc, List.append_assoc, List.replicate_append_replicate]
      congr 3
      simp [zc] at h ⊢; omega
    · rw [cF_room a h]
      refine ⟨?_, by omega⟩
      congr 2
      simp [zc] at h ⊢; omega
  unfold padF
  rw [hc.1]
  generalize cF a = c at hc
  obtain ⟨_, hr⟩ := hc
  rw [setLen_eq _ _ (bufF_length c) 8 (by omega), List.append_assoc c]
  have hx : c.length % 64 + (List.replicate (56 - c.length % 64) (0 : UInt8) ++ lenB (of64 (a.length : Nat) * 8) 8).length = 64 := by
    rw [List.length_append, List.length_replicate, lenB_length]; omega
  rw [(put_full c _ hx).1, hx]
  congr 2
  have e1 : (bufF c).drop (56 + 8) = [] := List.drop_of_length_le (by rw [bufF_length]; omega)
  rw [e1, List.append_nil, List.append_nil, ← List.append_assoc]
  congr 1
  rw [buf_take]
  unfold bufF
  have e3 : (c.drop (64 * (c.length / 64))).length = c.length % 64 := by rw [List.length_drop]; omega
  rw [List.take_append, List.take_of_length_le (by omega), e3, List.take_replicate]
  congr 2; omega
theorem join_sum (ps : List (List UInt8)) : joinF ps = sumF ps.flatten := by unfold joinF sumF; rw [blocks_pad]
def shortF (bs : List UInt8) : List UInt8 := (sumF bs).take 16
theorem shortF_length (bs : List UInt8) : (shortF bs).length = 16 := by rw [shortF, List.length_take, sumF_length]; rfl
theorem one_flat (bs : List UInt8) : [bs].flatten = bs := by simp
theorem copy_step (h s : List UInt8) (i : Nat) (hi : i < 16) (hh : h.length = 32) (hs : s = h.take i ++ List.replicate (16 - i) 0) : s.set i (h.getD i 0) = h.take (i + 1) ++ List.replicate (16 - (i + 1)) 0 := by
  subst hs
  have e : List.replicate (16 - i) (0 : UInt8) = 0 :: List.replicate (16 - (i + 1)) 0 := by
    rw [show 16 - i = (16 - (i + 1)) + 1 by omega, List.replicate_succ]
  rw [e, List.set_append_right _ _ (by rw [List.length_take]; omega), List.length_take, show i - min i h.length = 0 by omega, List.set_cons_zero]
  have e2 : h.take (i + 1) = h.take i ++ [h.getD i 0] := by
    rw [List.take_add_one, List.getD_eq_getElem?_getD, List.getElem?_eq_getElem (by omega)]; rfl
  rw [e2, List.append_assoc]; rfl

set_option maxRecDepth 100000 in
theorem refShort (bv : Value) (bs : List UInt8) (w : World) (hbv : Seen w.cell? bv bs.length 1 (v8s bs)) (hlb : bs.length ≤ 1000000000) :
    Calls Tryd.prog 14 [bv].toArray w (Pur w (.agg (v8s (shortF bs)).toArray)) := by
  have sbv := hbv.sv
  have lbv := sbv.le
  simp only [maxLen] at lbv
  refine enter (m := 18) (R := Mem w [] [] []) Tryd.func14 rfl rfl (Nat.le_of_ble_eq_true rfl) (Mem.start w) ?_
  refine wpc_seq ?_
  refine wpc_region ?_
  refine wpl_t (t_alloc Tryd.ti29 (v8s (List.replicate 16 0)) (by rfl)) rfl (fun b2 => ?_)
  refine wpl_nil ?_
  refine ex_then ?_
  refine wpc_seq ?_
  refine wpc_region ?_
  refine wpl_q (q_pure rfl) rfl ?_
  refine wpl_t (t_pur Tryd.hb12 rfl fun w h => refSum _ bs w (by first | exact h.seen_old hbv) (by omega)) rfl (fun b7 => ?_)
  refine wpl_t (t_alloc Tryd.ti26 (v8s (List.replicate 32 0)) (by rfl)) rfl (fun b3 => ?_)
  refine wpl_t0 (t_stA Tryd.ti26 rfl rfl ((v8s_length _).trans (sumF_length bs)) (v8s_one _) ((v8s_length _).trans rfl)) (fun _ => ?_)
  refine wpl_nil ?_
  refine ex_then ?_
  refine wpc_seq ?_
  refine wpc_region ?_
  refine wpl_t (t_alloc Tryd.ti29 (v8s (List.replicate 16 0)) (by rfl)) rfl (fun b4 => ?_)
  refine wpl_nil ?_
  refine ex_then ?_
  refine wpc_seq ?_
  refine wpc_seq ?_
  refine wpc_region ?_
  refine wpl_q (q_pure rfl) rfl ?_
  refine wpl_nil ?_
  refine ex_then ?_
  refine wpc_block ?_
  refine wpc_loopc (ι := { x : Nat // (x ≤ 16) }) [(2, _), (3, _), (4, _)] (fun x Lc => (5, .int .i64 ((x.1 : Nat) : Int)) :: Lc) (fun x => Mem w [] [.blk b4 29 (v8s ((sumF bs).take x.1 ++ List.replicate (16 - x.1) 0)), .blk b3 26 (v8s (sumF bs)), .blk b2 29 (v8s (List.replicate 16 0))] []) (fun x => 16 - x.1) ⟨0, by first | omega | assumption | decide | exact SV.nil | (simp; done) | (dsimp only; omega)⟩ (by repeat (first | exact trivial | refine ⟨rfl, ?_⟩)) ?_ ?_
  · exact fun w h => h
  · rintro ⟨i, hi0⟩; dsimp only
    have hi0 : i ≤ 16 := hi0
    have hsl := sumF_length bs
    have hll : ((sumF bs).take i ++ List.replicate (16 - i) 0).length = 16 := by rw [List.length_append, List.length_take, List.length_replicate]; omega
    refine wpc_seq ?_
    refine wpc_seq ?_
    refine wpc_region ?_
    refine wpl_q (q_pure rfl) rfl ?_
    refine wpl_q (q_pure rfl) rfl ?_
    refine wpl_nil ?_
    refine ex_then ?_
    refine wpc_cond rfl (fun hc9 => ?_) (fun hc9 => ?_)
    ·
      try simp only [decide_eq_true_eq, decide_eq_false_iff_not, Bool.and_eq_true, Bool.or_eq_true, beq_iff_eq, bne_iff_ne, ne_eq, Bool.not_eq_true', Bool.not_eq_false', Decidable.not_not] at hc9
      refine wpc_skip ?_
      refine ex_then ?_
      refine wpc_seq ?_
      refine wpc_block ?_
      refine wpc_region ?_
      refine wpl_q (q_pure rfl) rfl ?_
      refine wpl_q (q_pure rfl) rfl ?_
      refine wpl_q (q_idxA1 Tryd.underlying26 Tryd.ti5 rfl rfl (by omega)) rfl ?_
      refine wpl_q (q_ld Tryd.underlying5 rfl rfl (by first | exact v8s_get (by first | decide | omega | (simp; omega) | (simp only [v8s_length, v32s_length, vis_length, v64s_length]; omega)) | rfl)) rfl ?_
      refine wpl_q (q_idxA1 Tryd.underlying29 Tryd.ti5 rfl rfl (by omega)) rfl ?_
      refine wpl_t0 (t_st1 Tryd.ti5 rfl rfl rfl (by first | decide | omega | (simp; omega) | (simp only [v8s_length, v32s_length, vis_length, v64s_length]; omega)) _ (by first | exact v8s_set _ | rfl)) (fun _ => ?_)
      refine wpl_nil ?_
      refine ex_block ?_
      refine ex_then ?_
      refine wpc_region ?_
      refine wpl_q (q_pure rfl) rfl ?_
      refine wpl_q (q_addN (b := 1) rfl rfl (by first | omega | (simp only [maxLen]; omega))) rfl ?_
      refine wpl_q (q_pure rfl) rfl ?_
      refine wpl_nil ?_
      refine ex_again ⟨i + 1, by first | omega | assumption | decide | exact SV.nil | (simp; done) | (dsimp only; omega)⟩ ?_ ?_ ?_
      · exact (by repeat (first | exact trivial | refine ⟨rfl, ?_⟩))
      · exact fun w h => by
          rw [copy_step (sumF bs) _ i (by omega) hsl rfl] at h; exact h
      · (show 16 - (i + 1) < 16 - i); omega
    ·
      simp only [decide_eq_false_iff_not] at hc9
      obtain rfl : i = 16 := by omega
      have e16 : (sumF bs).take 16 ++ List.replicate (16 - 16) 0 = shortF bs := by simp [shortF]
      simp only [e16]
      refine wpc_exit ?_
      refine ex_then_exit ?_
      refine ex_then_exit ?_
      refine ex_block_hit ?_
      refine ex_then ?_
      refine wpc_seq ?_
      refine wpc_region ?_
      refine wpl_q (q_ldN Tryd.underlying29 rfl Tryd.ti29 rfl ((v8s_length _).trans (shortF_length bs))) rfl ?_
      refine wpl_t0 (t_stA Tryd.ti29 rfl rfl ((v8s_length _).trans (shortF_length bs)) (v8s_one _) ((v8s_length _).trans rfl)) (fun _ => ?_)
      refine wpl_nil ?_
      refine ex_then ?_
      refine wpc_ret ?_
      refine retv1 (.inl rfl) rfl (rv_agg Tryd.underlying29 rfl Tryd.ti29 rfl (fun w h => h.atB) ((v8s_length _).trans (shortF_length bs))) ?_
      exact fun w h => ⟨rfl, h.below⟩


theorem flat_le (l : List (List UInt8)) (i : Nat) : (l.take i).flatten.length ≤ l.flatten.length := by
  have : (l.take i).flatten.length + (l.drop i).flatten.length = l.flatten.length := by rw [← List.length_append, ← List.flatten_append, List.take_append_drop]
  omega
theorem same_step (xs ys : List UInt8) (i : Nat) (h : xs.take i = ys.take i) (h1 : i < xs.length) (h2 : i < ys.length) (he : xs.getD i 0 = ys.getD i 0) : xs.take (i + 1) = ys.take (i + 1) := by
  rw [List.take_add_one, List.take_add_one, h]
  simp only [List.getD_eq_getElem?_getD, List.getElem?_eq_getElem h1, List.getElem?_eq_getElem h2, Option.getD_some] at he
  simp [h1, h2, he]

set_option maxRecDepth 100000 in
theorem refAll (pv : Value) (ps : List (Value × List UInt8)) (w : World) (hP : Parts w.cell? pv ps) (hlb : (ps.map Prod.snd).flatten.length ≤ 1000000000) :
    Calls Tryd.prog 10 [pv].toArray w (GivesP w (fun v => SV v (ps.map Prod.snd).flatten.length) (fun v : Value => v) (fun v => [.row v (ps.map Prod.snd).flatten.length 5 1 (v8s (ps.map Prod.snd).flatten)]) (fun _ => [])) := by
  have hpv := hP.1
  have spv := hP.1.sv
  have lpv := spv.le
  simp only [maxLen] at lpv
  refine enter (m := 18) (R := Mem w [] [] []) Tryd.func10 rfl rfl (Nat.le_of_ble_eq_true rfl) (Mem.start w) ?_
  refine wpc_seq ?_
  refine wpc_region ?_
  refine wpl_q (q_pure rfl) rfl ?_
  refine wpl_nil ?_
  refine ex_then ?_
  refine wpc_seq ?_
  refine wpc_region ?_
  refine wpl_q (q_pure rfl) rfl ?_
  refine wpl_nil ?_
  refine ex_then ?_
  refine wpc_seq ?_
  refine wpc_seq ?_
  refine wpc_region ?_
  refine wpl_q (q_pure rfl) rfl ?_
  refine wpl_nil ?_
  refine ex_then ?_
  refine wpc_block ?_
  refine wpc_loopc (ι := { x : Nat × Value // (x.1 ≤ ps.length) ∧ (SV x.2 ((ps.map Prod.snd).take x.1).flatten.length) }) [(0, _)] (fun x Lc => (4, .int .i64 ((x.1.1 : Nat) : Int)) :: (3, x.1.2) :: Lc) (fun x => Mem w [] [.row x.1.2 ((ps.map Prod.snd).take x.1.1).flatten.length 5 1 (v8s ((ps.map Prod.snd).take x.1.1).flatten)] []) (fun x => ps.length - x.1.1) ⟨(0, .slice none 0 0), ⟨Nat.zero_le _, SV.nil⟩⟩ (by repeat (first | exact trivial | refine ⟨rfl, ?_⟩)) ?_ ?_
  · exact fun w h => h.nilRow 5 1
  · rintro ⟨⟨i, v⟩, ⟨hi0, hi1⟩⟩; dsimp only
    have hi0 : i ≤ ps.length := hi0; have hi1 : SV v ((ps.map Prod.snd).take i).flatten.length := hi1
    refine wpc_seq ?_
    refine wpc_seq ?_
    refine wpc_region ?_
    refine wpl_q (q_pure rfl) rfl ?_
    refine wpl_q (q_pure rfl) rfl ?_
    refine wpl_q (q_lenW Tryd.underlying23 rfl (by first | assumption | exact SV.nil | exact SV.slv (by assumption) (by omega) (by omega))) rfl ?_
    refine wpl_q (q_pure rfl) rfl ?_
    refine wpl_nil ?_
    refine ex_then ?_
    refine wpc_cond rfl (fun hc8 => ?_) (fun hc8 => ?_)
    ·
      simp only [decide_eq_true_eq] at hc8
      have hi : i < ps.length := by omega
      have hq := hP.2 (ps.getD i (default, [])) (by simp [List.getD_eq_getElem?_getD, hi])
      have hq2 : (ps.map Prod.snd).getD i [] = (ps.getD i (default, [])).2 := by simp [List.getD_eq_getElem?_getD, hi]
      have hfl := flat_le (ps.map Prod.snd) i
      have hfl2 := flat_le (ps.map Prod.snd) (i + 1)
      rw [take_succ_flat _ _ (by rw [List.length_map]; omega), List.length_append] at hfl2
      rw [← hq2] at hq
      refine wpc_skip ?_
      refine ex_then ?_
      refine wpc_seq ?_
      refine wpc_block ?_
      refine wpc_region ?_
      refine wpl_q (q_pure rfl) rfl ?_
      refine wpl_q (q_pure rfl) rfl ?_
      refine wpl_q (q_pure rfl) rfl ?_
      refine wpl_q (q_idxW1 Tryd.underlying23 Tryd.ti22 rfl rfl (by first | assumption | exact SV.nil | exact SV.slv (by assumption) (by omega) (by omega)) (by first | omega | (simp only [maxLen]; omega))) rfl ?_
      refine wpl_q (q_ldW Tryd.underlying22 rfl rfl (fun w h => by first | exact h.seenV | exact h.seen_old (by assumption) | exact h.seen_oldL (by assumption) (by assumption) | exact h.seen_fact (by repeat (first | exact List.mem_cons_self .. | apply List.mem_cons_of_mem))) (show (ps.map Prod.fst)[i]? = some (ps.getD i (default, [])).1 by simp [List.getD_eq_getElem?_getD, hi])) rfl ?_
      refine wpl_tp (t_apW Tryd.underlying22 Tryd.ti5 rfl (by decide) rfl rfl (fun w h => h.seen_old hq) (v8s_one _) (by first | omega | (simp only [maxLen]; omega)) (by first | omega | (simp only [maxLen]; omega)) _ (by first | exact (v8s_append _ _).symm | exact (vis_append _ _).symm | exact (v64s_append _ _).symm | exact (v32s_append _ _).symm | rfl)) rfl (fun b16 p16 => ?_)
      refine wpl_q (q_pure rfl) rfl ?_
      refine wpl_nil ?_
      refine ex_block ?_
      refine ex_then ?_
      refine wpc_region ?_
      refine wpl_q (q_pure rfl) rfl ?_
      refine wpl_q (q_addN (b := 1) rfl rfl (by first | omega | (simp only [maxLen]; omega))) rfl ?_
      refine wpl_q (q_pure rfl) rfl ?_
      refine wpl_nil ?_
      refine ex_again ⟨(i + 1, b16), ⟨by omega, by rw [take_succ_flat _ _ (by rw [List.length_map]; omega), List.length_append]; exact p16⟩⟩ ?_ ?_ ?_
      · exact (by repeat (first | exact trivial | refine ⟨rfl, ?_⟩))
      · exact fun w h => by
          dsimp only
          rw [take_succ_flat _ _ (by rw [List.length_map]; omega), List.length_append]; exact h
      · (show ps.length - (i + 1) < ps.length - i); omega
    ·
      simp only [decide_eq_false_iff_not] at hc8
      obtain rfl : i = ps.length := by omega
      have et : (ps.map Prod.snd).take ps.length = ps.map Prod.snd := List.take_of_length_le (by simp)
      simp only [et] at hi1 ⊢
      refine wpc_exit ?_
      refine ex_then_exit ?_
      refine ex_then_exit ?_
      refine ex_block_hit ?_
      refine ex_then ?_
      refine wpc_seq ?_
      refine wpc_region ?_
      refine wpl_q (q_pure rfl) rfl ?_
      refine wpl_q (q_pure rfl) rfl ?_
      refine wpl_nil ?_
      refine ex_then ?_
      refine wpc_ret ?_
      refine ret1 (.inl rfl) rfl rfl ?_
      exact fun w h => ⟨v, hi1, rfl, h.below, h.made (Sub.refl _) .nil⟩

set_option maxRecDepth 100000 in
theorem refSame (av : Value) (xs : List UInt8) (bv : Value) (ys : List UInt8) (w : World) (hav : Seen w.cell? av xs.length 1 (v8s xs)) (hbv : Seen w.cell? bv ys.length 1 (v8s ys))  :
    Calls Tryd.prog 15 [av, bv].toArray w (Pur w (.bool (decide (xs = ys)))) := by
  have sav := hav.sv
  have lav := sav.le
  simp only [maxLen] at lav
  have sbv := hbv.sv
  have lbv := sbv.le
  simp only [maxLen] at lbv
  refine enter (m := 26) (R := Mem w [] [] []) Tryd.func15 rfl rfl (Nat.le_of_ble_eq_true rfl) (Mem.start w) ?_
  refine wpc_seq ?_
  refine wpc_region ?_
  refine wpl_q (q_pure rfl) rfl ?_
  refine wpl_nil ?_
  refine ex_then ?_
  refine wpc_seq ?_
  refine wpc_seq ?_
  refine wpc_region ?_
  refine wpl_q (q_pure rfl) rfl ?_
  refine wpl_q (q_lenW Tryd.underlying22 rfl (by first | assumption | exact SV.nil | exact SV.slv (by assumption) (by omega) (by omega))) rfl ?_
  refine wpl_q (q_pure rfl) rfl ?_
  refine wpl_q (q_lenW Tryd.underlying22 rfl (by first | assumption | exact SV.nil | exact SV.slv (by assumption) (by omega) (by omega))) rfl ?_
  refine wpl_q (q_pure rfl) rfl ?_
  refine wpl_nil ?_
  refine ex_then ?_
  refine wpc_cond rfl (fun hc10 => ?_) (fun hc10 => ?_)
  ·
    simp only [decide_eq_true_eq, bne_iff_ne, ne_eq] at hc10
    have hne : xs ≠ ys := fun e => hc10 (by rw [e])
    refine wpc_seq ?_
    refine wpc_region ?_
    refine wpl_q (q_pure rfl) rfl ?_
    refine wpl_nil ?_
    refine ex_then ?_
    refine wpc_ret ?_
    refine ex_then_ret ?_
    refine ret1 (.inl rfl) rfl rfl ?_
    exact fun w h => ⟨by simp [hne], h.below⟩
  ·
    simp only [bne_eq_false_iff_eq] at hc10
    have hl : xs.length = ys.length := by omega
    refine wpc_skip ?_
    refine ex_then ?_
    refine wpc_seq ?_
    refine wpc_seq ?_
    refine wpc_region ?_
    refine wpl_q (q_pure rfl) rfl ?_
    refine wpl_nil ?_
    refine ex_then ?_
    refine wpc_block ?_
    refine wpc_loopc (ι := { x : Nat // (x ≤ xs.length) ∧ (xs.take x = ys.take x) }) [(0, _), (1, _)] (fun x Lc => (5, .int .i64 ((x.1 : Nat) : Int)) :: Lc) (fun x => Mem w [] [] []) (fun x => xs.length - x.1) ⟨0, ⟨Nat.zero_le _, rfl⟩⟩ (by repeat (first | exact trivial | refine ⟨rfl, ?_⟩)) ?_ ?_
    · exact fun w h => h
    · rintro ⟨i, ⟨hi0, hi1⟩⟩; dsimp only
      have hi0 : i ≤ xs.length := hi0; have hi1 : xs.take i = ys.take i := hi1
      refine wpc_seq ?_
      refine wpc_seq ?_
      refine wpc_region ?_
      refine wpl_q (q_pure rfl) rfl ?_
      refine wpl_q (q_pure rfl) rfl ?_
      refine wpl_q (q_lenW Tryd.underlying22 rfl (by first | assumption | exact SV.nil | exact SV.slv (by assumption) (by omega) (by omega))) rfl ?_
      refine wpl_q (q_pure rfl) rfl ?_
      refine wpl_nil ?_
      refine ex_then ?_
      refine wpc_cond rfl (fun hc14 => ?_) (fun hc14 => ?_)
      ·
        try simp only [decide_eq_true_eq, decide_eq_false_iff_not, Bool.and_eq_true, Bool.or_eq_true, beq_iff_eq, bne_iff_ne, ne_eq, Bool.not_eq_true', Bool.not_eq_false', Decidable.not_not] at hc14
        refine wpc_skip ?_
        refine ex_then ?_
        refine wpc_seq ?_
        refine wpc_block ?_
        refine wpc_seq ?_
        refine wpc_draw 9 (by kernel_rfl) (fun _ h => h.drew) ?_
        refine wpd_p 0 rfl (by kernel_rfl) trivial (q_pure rfl) rfl sk0 ?_
        refine wpd_p 1 rfl (by kernel_rfl) trivial (q_pure rfl) rfl sk0 ?_
        refine wpd_p 2 rfl (by kernel_rfl) trivial (q_idxW1 Tryd.underlying22 Tryd.ti5 rfl rfl (by first | assumption | exact SV.nil | exact SV.slv (by assumption) (by omega) (by omega)) (by first | omega | (simp only [maxLen]; omega))) rfl sk0 ?_
        refine wpd_q 3 rfl (by kernel_rfl) trivial (q_ldW Tryd.underlying5 rfl rfl (fun w h => by first | exact h.seenV | exact h.seen_old (by assumption) | exact h.seen_oldL (by assumption) (by assumption) | exact h.seen_fact (by repeat (first | exact List.mem_cons_self .. | apply List.mem_cons_of_mem))) (by first | exact v8s_get (by first | decide | omega | (simp; omega) | (simp only [v8s_length, v32s_length, vis_length, v64s_length]; omega)) | rfl)) rfl (fun _ h => h) ?_
        refine wpd_p 4 rfl (by kernel_rfl) trivial (q_pure rfl) rfl sk0 ?_
        refine wpd_p 5 rfl (by kernel_rfl) trivial (q_pure rfl) rfl sk0 ?_
        refine wpd_p 6 rfl (by kernel_rfl) trivial (q_idxW1 Tryd.underlying22 Tryd.ti5 rfl rfl (by first | assumption | exact SV.nil | exact SV.slv (by assumption) (by omega) (by omega)) (by first | omega | (simp only [maxLen]; omega))) rfl sk0 ?_
        refine wpd_q 7 rfl (by kernel_rfl) trivial (q_ldW Tryd.underlying5 rfl rfl (fun w h => by first | exact h.seenV | exact h.seen_old (by assumption) | exact h.seen_oldL (by assumption) (by assumption) | exact h.seen_fact (by repeat (first | exact List.mem_cons_self .. | apply List.mem_cons_of_mem))) (by first | exact v8s_get (by first | decide | omega | (simp; omega) | (simp only [v8s_length, v32s_length, vis_length, v64s_length]; omega)) | rfl)) rfl (fun _ h => h) ?_
        refine wpd_p 8 rfl (by kernel_rfl) trivial (q8_neq rfl rfl) rfl sk0 ?_
        refine wpd_done (by kernel_rfl) ?_
        refine ex_then ?_
        refine wpc_cond rfl (fun hc25 => ?_) (fun hc25 => ?_)
        ·
          simp only [Bool.not_eq_true', decide_eq_false_iff_not] at hc25
          have hne : xs ≠ ys := fun e => hc25 (by rw [e])
          refine wpc_seq ?_
          refine wpc_region ?_
          refine wpl_q (q_pure rfl) rfl ?_
          refine wpl_nil ?_
          refine ex_then ?_
          refine wpc_ret ?_
          refine ex_block_ret ?_
          refine ex_then_ret ?_
          refine ex_then_ret ?_
          refine ex_block_ret ?_
          refine ex_then_ret ?_
          refine ret1 (.inl rfl) rfl rfl ?_
          exact fun w h => ⟨by simp [hne], h.below⟩
        ·
          simp only [Bool.not_eq_false', decide_eq_true_eq] at hc25
          refine wpc_skip ?_
          refine ex_block ?_
          refine ex_then ?_
          refine wpc_region ?_
          refine wpl_q (q_pure rfl) rfl ?_
          refine wpl_q (q_addN (b := 1) rfl rfl (by first | omega | (simp only [maxLen]; omega))) rfl ?_
          refine wpl_q (q_pure rfl) rfl ?_
          refine wpl_nil ?_
          refine ex_again ⟨i + 1, ⟨by omega, same_step xs ys i hi1 (by omega) (by omega) hc25⟩⟩ ?_ ?_ ?_
          · exact (by repeat (first | exact trivial | refine ⟨rfl, ?_⟩))
          · exact fun w h => by first | exact h | exact h.sub (by repeat (first | exact Sub.nil | exact Sub.refl _ | with_reducible refine Sub.keep ?_ | refine Sub.drop ?_)) (by repeat (first | exact Sub.nil | exact Sub.refl _ | with_reducible refine Sub.keep ?_ | refine Sub.drop ?_))
          · (show xs.length - (i + 1) < xs.length - i); omega
      ·
        simp only [decide_eq_false_iff_not] at hc14
        obtain rfl : i = xs.length := by omega
        have heq : xs = ys := by rw [List.take_length, hl, List.take_length] at hi1; exact hi1
        refine wpc_exit ?_
        refine ex_then_exit ?_
        refine ex_then_exit ?_
        refine ex_block_hit ?_
        refine ex_then ?_
        refine wpc_seq ?_
        refine wpc_region ?_
        refine wpl_q (q_pure rfl) rfl ?_
        refine wpl_nil ?_
        refine ex_then ?_
        refine wpc_ret ?_
        refine ret1 (.inl rfl) rfl rfl ?_
        exact fun w h => ⟨by simp [heq], h.below⟩

end Go.Proofs.YtlapmdiabhlbmaaDoor
