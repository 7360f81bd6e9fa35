/- Walks of the digest functions: the words of a block, the schedule, a block's rounds. -/
import Derived.Test.YtoaeklbenmlooaaDoorD1
import Derived.Test.YtoaeklbenmlooaaDoorPLV
namespace Go.Proofs.YtoaeklbenmlooaaDoor
set_option linter.unusedSimpArgs false
set_option linter.unusedVariables false
open Go Go.PL Go.RowKit
def wordF (bs : List UInt8) (i : Nat) : UInt32 :=
  sl32 (of32 (bs.getD (4 * i) 0).toNat) 24 ||| sl32 (of32 (bs.getD (4 * i + 1) 0).toNat) 16 ||| sl32 (of32 (bs.getD (4 * i + 2) 0).toNat) 8 ||| of32 (bs.getD (4 * i + 3) 0).toNat
def mixF (ws : List UInt32) (i : Nat) : UInt32 :=
  (rotlF (ws.getD (i - 2) 0) (-17) ^^^ rotlF (ws.getD (i - 2) 0) (-19) ^^^ sr32 (ws.getD (i - 2) 0) 10) + ws.getD (i - 7) 0 + (rotlF (ws.getD (i - 15) 0) (-7) ^^^ rotlF (ws.getD (i - 15) 0) (-18) ^^^ sr32 (ws.getD (i - 15) 0) 3) + ws.getD (i - 16) 0
/-- The first i words of a block's rounds. -/
def wsF (bs : List UInt8) : Nat → List UInt32
  | 0 => []
  | i + 1 => wsF bs i ++ [if i < 16 then wordF bs i else mixF (wsF bs i) i]
theorem wsF_length (bs : List UInt8) : ∀ i, (wsF bs i).length = i
  | 0 => rfl
  | i + 1 => by simp [wsF, wsF_length bs i]
/-- They, and zeros up to 64. -/
def stF (bs : List UInt8) (i : Nat) : List UInt32 := wsF bs i ++ List.replicate (64 - i) 0
theorem stF_length (bs : List UInt8) (i : Nat) (h : i ≤ 64) : (stF bs i).length = 64 := by simp [stF, wsF_length]; omega
theorem stF_get (bs : List UInt8) (i j : Nat) (h : j < i) : (stF bs i).getD j 0 = (wsF bs i).getD j 0 := by
  simp only [stF, List.getD_eq_getElem?_getD]; rw [List.getElem?_append_left (by rw [wsF_length]; exact h)]
theorem stF_set (bs : List UInt8) (i : Nat) (h : i < 64) (x : UInt32) (hx : x = if i < 16 then wordF bs i else mixF (wsF bs i) i) : (stF bs i).set i x = stF bs (i + 1) := by
  subst hx
  have e : List.replicate (64 - i) (0 : UInt32) = 0 :: List.replicate (64 - (i + 1)) 0 := by
    rw [show 64 - i = (64 - (i + 1)) + 1 by omega, List.replicate_succ]
  simp only [stF, e, wsF]
  rw [List.set_append_right _ _ (by rw [wsF_length]; exact Nat.le_refl _), wsF_length, Nat.sub_self]
  simp
theorem mix_st (bs : List UInt8) (i : Nat) (h : 16 ≤ i) : mixF (stF bs i) i = mixF (wsF bs i) i := by
  unfold mixF
  rw [stF_get _ _ _ (by omega), stF_get _ _ _ (by omega), stF_get _ _ _ (by omega), stF_get _ _ _ (by omega)]

set_option maxRecDepth 100000 in
theorem word (bs : List UInt8) (hl : bs.length = 64) (bb i : Nat) (hi : i < 16) (w : World) (hb : CellsAt w.cell? ⟨bb, 0, none⟩ (v8s bs)) :
    Calls Tryd.prog 82 [.pointer (some ⟨bb, 0, none⟩), .int .i64 i].toArray w (Pur w (.int .u32 (wordF bs i).toNat)) := by
  refine enter (m := 42) (R := Mem w [] [] []) Tryd.func82 rfl rfl (Nat.le_of_ble_eq_true rfl) (Mem.start w) ?_
  refine wpc_seq ?_
  -- region 0
  refine wpc_region ?_
  refine wpl_q (q_pure rfl) rfl ?_
  refine wpl_nil ?_
  refine ex_then ?_
  refine wpc_seq ?_
  -- region 1
  refine wpc_draw 38 (by kernel_rfl) (fun _ h => h.drew) ?_
  refine wpd_p 0 rfl (by kernel_rfl) trivial (q_pure rfl) rfl sk0 ?_
  refine wpd_p 1 rfl (by kernel_rfl) trivial (q_pure rfl) rfl sk0 ?_
  first | refine wpd_p 2 rfl (by kernel_rfl) trivial (qop_eq (q_pure rfl) (congrArg (Value.int .i64) (wk_i64 (by omega) (by omega)))) rfl sk0 ?_ | refine wpd_p 2 rfl (by kernel_rfl) trivial (q_pure rfl) rfl sk0 ?_
  refine wpd_p 3 rfl (by kernel_rfl) trivial (q_pure rfl) rfl sk0 ?_
  refine wpd_p 4 rfl (by kernel_rfl) trivial (q_idxA Tryd.underlying133 Tryd.ti5 rfl rfl (by omega) (by omega) (4 * i) (by omega)) rfl sk0 ?_
  refine wpd_q 5 rfl (by kernel_rfl) trivial (q_load1 Tryd.underlying5 rfl rfl (fun w h => h.cell_old (hb.at_ (v8s_get (by omega))))) rfl (fun _ h => h) ?_
  refine wpd_p 6 rfl (by kernel_rfl) trivial (q32_conv Tryd.underlying5 Tryd.underlying25 rfl) rfl sk0 ?_
  refine wpd_p 7 rfl (by kernel_rfl) trivial (q32_shl rfl rfl (by first | decide | omega) _ rfl) rfl sk0 ?_
  refine wpd_p 8 rfl (by kernel_rfl) trivial (q_pure rfl) rfl sk0 ?_
  refine wpd_p 9 rfl (by kernel_rfl) trivial (q_pure rfl) rfl sk0 ?_
  first | refine wpd_p 10 rfl (by kernel_rfl) trivial (qop_eq (q_pure rfl) (congrArg (Value.int .i64) (wk_i64 (by omega) (by omega)))) rfl sk0 ?_ | refine wpd_p 10 rfl (by kernel_rfl) trivial (q_pure rfl) rfl sk0 ?_
  first | refine wpd_p 11 rfl (by kernel_rfl) trivial (qop_eq (q_pure rfl) (congrArg (Value.int .i64) (wk_i64 (by omega) (by omega)))) rfl sk0 ?_ | refine wpd_p 11 rfl (by kernel_rfl) trivial (q_pure rfl) rfl sk0 ?_
  refine wpd_p 12 rfl (by kernel_rfl) trivial (q_pure rfl) rfl sk0 ?_
  refine wpd_p 13 rfl (by kernel_rfl) trivial (q_idxA Tryd.underlying133 Tryd.ti5 rfl rfl (by omega) (by omega) (4 * i + 1) (by omega)) rfl sk0 ?_
  refine wpd_q 14 rfl (by kernel_rfl) trivial (q_load1 Tryd.underlying5 rfl rfl (fun w h => h.cell_old (hb.at_ (v8s_get (by omega))))) rfl (fun _ h => h) ?_
  refine wpd_p 15 rfl (by kernel_rfl) trivial (q32_conv Tryd.underlying5 Tryd.underlying25 rfl) rfl sk0 ?_
  refine wpd_p 16 rfl (by kernel_rfl) trivial (q32_shl rfl rfl (by first | decide | omega) _ rfl) rfl sk0 ?_
  refine wpd_p 17 rfl (by kernel_rfl) trivial (q32_or rfl rfl) rfl sk0 ?_
  refine wpd_p 18 rfl (by kernel_rfl) trivial (q_pure rfl) rfl sk0 ?_
  refine wpd_p 19 rfl (by kernel_rfl) trivial (q_pure rfl) rfl sk0 ?_
  first | refine wpd_p 20 rfl (by kernel_rfl) trivial (qop_eq (q_pure rfl) (congrArg (Value.int .i64) (wk_i64 (by omega) (by omega)))) rfl sk0 ?_ | refine wpd_p 20 rfl (by kernel_rfl) trivial (q_pure rfl) rfl sk0 ?_
  first | refine wpd_p 21 rfl (by kernel_rfl) trivial (qop_eq (q_pure rfl) (congrArg (Value.int .i64) (wk_i64 (by omega) (by omega)))) rfl sk0 ?_ | refine wpd_p 21 rfl (by kernel_rfl) trivial (q_pure rfl) rfl sk0 ?_
  refine wpd_p 22 rfl (by kernel_rfl) trivial (q_pure rfl) rfl sk0 ?_
  refine wpd_p 23 rfl (by kernel_rfl) trivial (q_idxA Tryd.underlying133 Tryd.ti5 rfl rfl (by omega) (by omega) (4 * i + 2) (by omega)) rfl sk0 ?_
  refine wpd_q 24 rfl (by kernel_rfl) trivial (q_load1 Tryd.underlying5 rfl rfl (fun w h => h.cell_old (hb.at_ (v8s_get (by omega))))) rfl (fun _ h => h) ?_
  refine wpd_p 25 rfl (by kernel_rfl) trivial (q32_conv Tryd.underlying5 Tryd.underlying25 rfl) rfl sk0 ?_
  refine wpd_p 26 rfl (by kernel_rfl) trivial (q32_shl rfl rfl (by first | decide | omega) _ rfl) rfl sk0 ?_
  refine wpd_p 27 rfl (by kernel_rfl) trivial (q32_or rfl rfl) rfl sk0 ?_
  refine wpd_p 28 rfl (by kernel_rfl) trivial (q_pure rfl) rfl sk0 ?_
  refine wpd_p 29 rfl (by kernel_rfl) trivial (q_pure rfl) rfl sk0 ?_
  first | refine wpd_p 30 rfl (by kernel_rfl) trivial (qop_eq (q_pure rfl) (congrArg (Value.int .i64) (wk_i64 (by omega) (by omega)))) rfl sk0 ?_ | refine wpd_p 30 rfl (by kernel_rfl) trivial (q_pure rfl) rfl sk0 ?_
  first | refine wpd_p 31 rfl (by kernel_rfl) trivial (qop_eq (q_pure rfl) (congrArg (Value.int .i64) (wk_i64 (by omega) (by omega)))) rfl sk0 ?_ | refine wpd_p 31 rfl (by kernel_rfl) trivial (q_pure rfl) rfl sk0 ?_
  refine wpd_p 32 rfl (by kernel_rfl) trivial (q_pure rfl) rfl sk0 ?_
  refine wpd_p 33 rfl (by kernel_rfl) trivial (q_idxA Tryd.underlying133 Tryd.ti5 rfl rfl (by omega) (by omega) (4 * i + 3) (by omega)) rfl sk0 ?_
  refine wpd_q 34 rfl (by kernel_rfl) trivial (q_load1 Tryd.underlying5 rfl rfl (fun w h => h.cell_old (hb.at_ (v8s_get (by omega))))) rfl (fun _ h => h) ?_
  refine wpd_p 35 rfl (by kernel_rfl) trivial (q32_conv Tryd.underlying5 Tryd.underlying25 rfl) rfl sk0 ?_
  refine wpd_p 36 rfl (by kernel_rfl) trivial (q32_or rfl rfl) rfl sk0 ?_
  refine wpd_p 37 rfl (by kernel_rfl) trivial (q_pure rfl) rfl sk0 ?_
  refine wpd_done (by kernel_rfl) ?_
  refine ex_then ?_
  refine wpc_ret ?_
  refine ret1 (.inl rfl) rfl rfl ?_
  exact fun w h => ⟨rfl, h.below⟩

set_option maxRecDepth 100000 in
theorem schedule (bs : List UInt8) (hl : bs.length = 64) (bb : Nat) (w : World) (hb : CellsAt w.cell? ⟨bb, 0, none⟩ (v8s bs)) :
    Calls Tryd.prog 72 [.pointer (some ⟨bb, 0, none⟩)].toArray w (Pur w (.agg (v32s (wsF bs 64)).toArray)) := by
  refine enter (m := 56) (R := Mem w [] [] []) Tryd.func72 rfl rfl (Nat.le_of_ble_eq_true rfl) (Mem.start w) ?_
  refine wpc_seq ?_
  -- region 0
  refine wpc_region ?_
  refine wpl_t (t_alloc Tryd.ti119 (v32s (List.replicate 64 0)) (by rfl)) rfl ?_
  intro b2
  refine wpl_nil ?_
  refine ex_then ?_
  refine wpc_seq ?_
  -- region 1
  refine wpc_region ?_
  refine wpl_t (t_alloc Tryd.ti119 (v32s (stF bs 0)) (by rfl)) rfl ?_
  intro b3
  refine wpl_nil ?_
  refine ex_then ?_
  refine wpc_seq ?_
  refine wpc_seq ?_
  -- region 2
  refine wpc_region ?_
  refine wpl_q (q_pure rfl) rfl ?_
  refine wpl_nil ?_
  refine ex_then ?_
  refine wpc_block ?_
  refine wpc_loop (ι := { i : Nat // i ≤ 64 }) (fun i => [(7, .int .i64 (i.1 : Nat)), (3, .pointer (some ⟨b3, 0, none⟩)), (2, .pointer (some ⟨b2, 0, none⟩)), (0, .pointer (some ⟨bb, 0, none⟩))]) (fun i => Mem w [] [.blk b3 119 (v32s (stF bs i.1)), .blk b2 119 (v32s (List.replicate 64 0))] []) (fun i => 64 - i.1) ⟨0, by omega⟩ ?_ ?_ ?_
  · exact by repeat (first | exact trivial | refine ⟨rfl, ?_⟩)
  · exact fun w h => h
  · rintro ⟨i, hi⟩; dsimp only
    have hsl := stF_length bs i hi
    refine wpc_seq ?_
    -- region 3
    refine wpc_region ?_
    refine wpl_q (q_pure rfl) rfl ?_
    refine wpl_nil ?_
    refine ex_then ?_
    refine wpc_seq ?_
    refine wpc_cond rfl (fun hc8 => ?_) (fun hc8 => ?_)
    ·
      simp only [decide_eq_true_eq, decide_eq_false_iff_not, Bool.and_eq_true, Bool.or_eq_true, beq_iff_eq, bne_iff_ne, ne_eq] at hc8
      refine wpc_skip ?_
      refine ex_then ?_
      refine wpc_seq ?_
      refine wpc_block ?_
      refine wpc_seq ?_
      -- region 4
      refine wpc_region ?_
      refine wpl_q (q_pure rfl) rfl ?_
      refine wpl_q (q_pure rfl) rfl ?_
      refine wpl_nil ?_
      refine ex_then ?_
      refine wpc_seq ?_
      refine wpc_seq ?_
      -- region 5
      refine wpc_region ?_
      refine wpl_q (q_pure rfl) rfl ?_
      refine wpl_q (q_pure rfl) rfl ?_
      refine wpl_nil ?_
      refine ex_then ?_
      refine wpc_cond rfl (fun hc11 => ?_) (fun hc11 => ?_)
      ·
        simp only [decide_eq_true_eq, decide_eq_false_iff_not, Bool.and_eq_true, Bool.or_eq_true, beq_iff_eq, bne_iff_ne, ne_eq] at hc11
        refine wpc_seq ?_
        -- region 6
        refine wpc_region ?_
        refine wpl_q (q_pure rfl) rfl ?_
        refine wpl_q (q_pure rfl) rfl ?_
        refine wpl_q (q_pure rfl) rfl ?_
        refine wpl_t (t_pur Tryd.hb82 rfl fun w' h => word bs hl bb i (by omega) w' (hb.mono fun _ _ hv => h.cell_old hv)) rfl ?_
        intro b15
        refine wpl_q (q_idxA Tryd.underlying119 Tryd.ti25 rfl rfl (by omega) (by omega) (i) (by omega)) rfl ?_
        refine wpl_t0 (t_st1 Tryd.ti25 rfl rfl rfl (by first | decide | (simp; omega) | (simp only [v8s_length, v32s_length, vis_length, v64s_length]; omega)) _ (by first | exact v32s_set _ | rfl)) ?_
        intro _
        refine wpl_nil ?_
        refine ex_then ?_
        refine wpc_exit ?_
        refine ex_then_exit ?_
        refine ex_block_hit ?_
        refine ex_then ?_
        -- region 9
        refine wpc_region ?_
        first | refine wpl_q (qop_eq (q_pure rfl) (congrArg (Value.int .i64) (wk_i64 (by omega) (by omega)))) rfl ?_ | refine wpl_q (q_pure rfl) rfl ?_
        refine wpl_q (q_pure rfl) rfl ?_
        refine wpl_nil ?_
        refine ex_again ⟨i + 1, by omega⟩ ?_ ?_ ?_
        · exact (by repeat (first | exact trivial | refine ⟨rfl, ?_⟩))
        · exact fun w h => by
            first
            | exact (stF_set bs i (by omega) _ (by rw [if_pos (by omega)])) ▸ h
            | exact (stF_set bs i (by omega) _ ((mix_st bs i (by omega)).trans (by rw [if_neg (by omega)]))) ▸ h
        · show 64 - (i + 1) < 64 - i; omega
      ·
        simp only [decide_eq_true_eq, decide_eq_false_iff_not, Bool.and_eq_true, Bool.or_eq_true, beq_iff_eq, bne_iff_ne, ne_eq] at hc11
        refine wpc_skip ?_
        refine ex_then ?_
        refine wpc_seq ?_
        -- region 7
        refine wpc_draw 10 (by kernel_rfl) (fun _ h => h.drew) ?_
        refine wpd_p 0 rfl (by kernel_rfl) trivial (q_pure rfl) rfl sk0 ?_
        first | refine wpd_p 1 rfl (by kernel_rfl) trivial (qop_eq (q_pure rfl) (congrArg (Value.int .i64) (wk_i64 (by omega) (by omega)))) rfl sk0 ?_ | refine wpd_p 1 rfl (by kernel_rfl) trivial (q_pure rfl) rfl sk0 ?_
        refine wpd_p 2 rfl (by kernel_rfl) trivial (q_idxA Tryd.underlying119 Tryd.ti25 rfl rfl (by omega) (by omega) (i - 15) (by omega)) rfl sk0 ?_
        refine wpd_q 3 rfl (by kernel_rfl) trivial (q_ld Tryd.underlying25 rfl rfl (by first | exact v32s_get (by omega) | rfl)) rfl (fun _ h => h) ?_
        refine wpd_p 4 rfl (by kernel_rfl) trivial (q_pure rfl) rfl sk0 ?_
        first | refine wpd_p 5 rfl (by kernel_rfl) trivial (qop_eq (q_pure rfl) (congrArg (Value.int .i64) (wk_i64 (by omega) (by omega)))) rfl sk0 ?_ | refine wpd_p 5 rfl (by kernel_rfl) trivial (q_pure rfl) rfl sk0 ?_
        refine wpd_p 6 rfl (by kernel_rfl) trivial (q_idxA Tryd.underlying119 Tryd.ti25 rfl rfl (by omega) (by omega) (i - 2) (by omega)) rfl sk0 ?_
        refine wpd_q 7 rfl (by kernel_rfl) trivial (q_ld Tryd.underlying25 rfl rfl (by first | exact v32s_get (by omega) | rfl)) rfl (fun _ h => h) ?_
        refine wpd_p 8 rfl (by kernel_rfl) trivial (q_pure rfl) rfl sk0 ?_
        refine wpd_p 9 rfl (by kernel_rfl) trivial (q_pure rfl) rfl sk0 ?_
        refine wpd_done (by kernel_rfl) ?_
        refine ex_then ?_
        -- region 8
        refine wpc_draw 29 (by kernel_rfl) (fun _ h => h.drew) ?_
        refine wpd_p 0 rfl (by kernel_rfl) trivial (q_pure rfl) rfl sk0 ?_
        refine wpd_p 1 rfl (by kernel_rfl) trivial (q_pure rfl) rfl sk0 ?_
        refine wpd_p 3 rfl (by kernel_rfl) trivial (q_pure rfl) rfl sk0 ?_
        refine wpd_p 6 rfl (by kernel_rfl) trivial (q_pure rfl) rfl sk0 ?_
        refine wpd_p 7 rfl (by kernel_rfl) trivial (q32_shr rfl rfl (by first | decide | omega) _ rfl) rfl sk0 ?_
        refine wpd_p 9 rfl (by kernel_rfl) trivial (q_pure rfl) rfl sk0 ?_
        first | refine wpd_p 10 rfl (by kernel_rfl) trivial (qop_eq (q_pure rfl) (congrArg (Value.int .i64) (wk_i64 (by omega) (by omega)))) rfl sk0 ?_ | refine wpd_p 10 rfl (by kernel_rfl) trivial (q_pure rfl) rfl sk0 ?_
        refine wpd_p 11 rfl (by kernel_rfl) trivial (q_idxA Tryd.underlying119 Tryd.ti25 rfl rfl (by omega) (by omega) (i - 7) (by omega)) rfl sk0 ?_
        refine wpd_q 12 rfl (by kernel_rfl) trivial (q_ld Tryd.underlying25 rfl rfl (by first | exact v32s_get (by omega) | rfl)) rfl (fun _ h => h) ?_
        refine wpd_p 14 rfl (by kernel_rfl) trivial (q_pure rfl) rfl sk0 ?_
        refine wpd_p 16 rfl (by kernel_rfl) trivial (q_pure rfl) rfl sk0 ?_
        refine wpd_p 19 rfl (by kernel_rfl) trivial (q_pure rfl) rfl sk0 ?_
        refine wpd_p 20 rfl (by kernel_rfl) trivial (q32_shr rfl rfl (by first | decide | omega) _ rfl) rfl sk0 ?_
        refine wpd_p 23 rfl (by kernel_rfl) trivial (q_pure rfl) rfl sk0 ?_
        first | refine wpd_p 24 rfl (by kernel_rfl) trivial (qop_eq (q_pure rfl) (congrArg (Value.int .i64) (wk_i64 (by omega) (by omega)))) rfl sk0 ?_ | refine wpd_p 24 rfl (by kernel_rfl) trivial (q_pure rfl) rfl sk0 ?_
        refine wpd_p 25 rfl (by kernel_rfl) trivial (q_idxA Tryd.underlying119 Tryd.ti25 rfl rfl (by omega) (by omega) (i - 16) (by omega)) rfl sk0 ?_
        refine wpd_q 26 rfl (by kernel_rfl) trivial (q_ld Tryd.underlying25 rfl rfl (by first | exact v32s_get (by omega) | rfl)) rfl (fun _ h => h) ?_
        refine wpd_t 2 rfl (by kernel_rfl) trivial (t_pur Tryd.hb73 rfl fun w h => turn _ _ (by decide) (by decide) _) rfl (fun _ => sk0) ?_
        intro b27
        refine wpd_t 4 rfl (by kernel_rfl) trivial (t_pur Tryd.hb73 rfl fun w h => turn _ _ (by decide) (by decide) _) rfl (fun _ => sk0) ?_
        intro b29
        refine wpd_p 5 rfl (by kernel_rfl) trivial (q32_xor rfl rfl) rfl sk0 ?_
        refine wpd_p 8 rfl (by kernel_rfl) trivial (q32_xor rfl rfl) rfl sk0 ?_
        refine wpd_p 13 rfl (by kernel_rfl) trivial (q32_add rfl rfl) rfl sk0 ?_
        refine wpd_t 15 rfl (by kernel_rfl) trivial (t_pur Tryd.hb73 rfl fun w h => turn _ _ (by decide) (by decide) _) rfl (fun _ => sk0) ?_
        intro b40
        refine wpd_t 17 rfl (by kernel_rfl) trivial (t_pur Tryd.hb73 rfl fun w h => turn _ _ (by decide) (by decide) _) rfl (fun _ => sk0) ?_
        intro b42
        refine wpd_p 18 rfl (by kernel_rfl) trivial (q32_xor rfl rfl) rfl sk0 ?_
        refine wpd_p 21 rfl (by kernel_rfl) trivial (q32_xor rfl rfl) rfl sk0 ?_
        refine wpd_p 22 rfl (by kernel_rfl) trivial (q32_add rfl rfl) rfl sk0 ?_
        refine wpd_p 27 rfl (by kernel_rfl) trivial (q32_add rfl rfl) rfl sk0 ?_
        refine wpd_p 28 rfl (by kernel_rfl) trivial (q_idxA Tryd.underlying119 Tryd.ti25 rfl rfl (by omega) (by omega) (i) (by omega)) rfl sk0 ?_
        refine wpd_t0 29 rfl (by kernel_rfl) trivial (t_st1 Tryd.ti25 rfl rfl rfl (by first | decide | (simp; omega) | (simp only [v8s_length, v32s_length, vis_length, v64s_length]; omega)) _ (by first | exact v32s_set _ | rfl)) (fun _ => skk rfl) ?_
        intro _
        refine wpd_done (by kernel_rfl) ?_
        refine ex_block ?_
        refine ex_then ?_
        -- region 9
        refine wpc_region ?_
        first | refine wpl_q (qop_eq (q_pure rfl) (congrArg (Value.int .i64) (wk_i64 (by omega) (by omega)))) rfl ?_ | refine wpl_q (q_pure rfl) rfl ?_
        refine wpl_q (q_pure rfl) rfl ?_
        refine wpl_nil ?_
        refine ex_again ⟨i + 1, by omega⟩ ?_ ?_ ?_
        · exact (by repeat (first | exact trivial | refine ⟨rfl, ?_⟩))
        · exact fun w h => by
            first
            | exact (stF_set bs i (by omega) _ (by rw [if_pos (by omega)])) ▸ h
            | exact (stF_set bs i (by omega) _ ((mix_st bs i (by omega)).trans (by rw [if_neg (by omega)]))) ▸ h
        · show 64 - (i + 1) < 64 - i; omega
    ·
      simp only [decide_eq_true_eq, decide_eq_false_iff_not, Bool.and_eq_true, Bool.or_eq_true, beq_iff_eq, bne_iff_ne, ne_eq] at hc8
      refine wpc_exit ?_
      refine ex_then_exit ?_
      refine ex_then_exit ?_
      refine ex_block_hit ?_
      refine ex_then ?_
      refine wpc_seq ?_
      -- region 10
      refine wpc_region ?_
      refine wpl_q (q_ldN Tryd.underlying119 rfl Tryd.ti119 rfl (by first | rfl | (simp only [v8s_length, v32s_length, vis_length, v64s_length, List.length_replicate]; first | done | assumption | omega))) rfl ?_
      refine wpl_t0 (t_stA Tryd.ti119 rfl rfl (by first | rfl | (simp only [v8s_length, v32s_length, vis_length, v64s_length, List.length_replicate]; first | done | assumption | omega)) (v32s_one _) (by first | rfl | (simp only [v8s_length, v32s_length, vis_length, v64s_length, List.length_replicate]; first | done | assumption | omega))) ?_
      intro _
      refine wpl_nil ?_
      refine ex_then ?_
      refine wpc_ret ?_
      refine retv1 (.inl rfl) rfl (rv_agg Tryd.underlying119 rfl Tryd.ti119 rfl (fun w h => h.cells_blk (by repeat (first | exact List.mem_cons_self .. | apply List.mem_cons_of_mem))) (by first | rfl | (simp only [v8s_length, v32s_length, vis_length, v64s_length, List.length_replicate]; first | done | assumption | omega))) ?_
      have e : stF bs 64 = wsF bs 64 := by simp [stF]
      obtain rfl : i = 64 := by omega
      exact fun w h => ⟨by rw [e], h.below⟩

end Go.Proofs.YtoaeklbenmlooaaDoor