/- The reference: rotations, the table, bytes and what is added to them. -/
import Derived.Test.YtoaeklbenmlooaaDoorD7
namespace Go.Proofs.YtoaeklbenmlooaaDoor
set_option linter.unusedSimpArgs false
set_option linter.unusedVariables false
open Go Go.PL Go.RowKit
def rotR (x : UInt32) (k : Nat) : UInt32 := sr32 x k ||| sl32 x (32 - k)
def zc (m : Nat) : Nat := (120 - (m + 1) % 64) % 64
def lenB (x : UInt64) : Nat → List UInt8
  | 0 => []
  | j + 1 => lenB x j ++ [of8 (sr64 x (8 * (7 - j))).toNat]
theorem lenB_length (x : UInt64) : ∀ j, (lenB x j).length = j
  | 0 => rfl
  | j + 1 => by simp [lenB, lenB_length x j]
def padF (bs : List UInt8) : List UInt8 := (bs ++ [128] ++ List.replicate (zc bs.length) 0) ++ lenB (of64 bs.length * 8) 8

set_option maxRecDepth 100000 in
theorem rotate (x : UInt32) (k : Nat) (h1 : 1 ≤ k) (h2 : k ≤ 31) (w : World) :
    Calls Tryd.prog 57 [.int .u32 x.toNat, .int .i64 k].toArray w (Pur w (.int .u32 (rotR x k).toNat)) := by
  refine enter (m := 15) (R := Mem w [] [] []) Tryd.func57 rfl rfl (Nat.le_of_ble_eq_true rfl) (Mem.start w) ?_
  refine wpc_seq ?_
  -- region 0
  refine wpc_region ?_
  refine wpl_q (q_pure rfl) rfl ?_
  refine wpl_nil ?_
  refine ex_then ?_
  refine wpc_seq ?_
  -- region 1
  refine wpc_region ?_
  refine wpl_q (q_pure rfl) rfl ?_
  refine wpl_q (q_pure rfl) rfl ?_
  refine wpl_q (q64_conv Tryd.underlying3 Tryd.underlying64 rfl) rfl ?_
  refine wpl_q (q32_shr rfl rfl (by omega) k (by have := of64_toNat (k : Int); omega)) rfl ?_
  refine wpl_q (q_pure rfl) rfl ?_
  refine wpl_q (q_pure rfl) rfl ?_
  first | refine wpl_q (qop_eq (q_pure rfl) (congrArg (Value.int .i64) (wk_i64 (by omega) (by omega)))) rfl ?_ | refine wpl_q (q_pure rfl) rfl ?_
  refine wpl_q (q64_conv Tryd.underlying3 Tryd.underlying64 rfl) rfl ?_
  refine wpl_q (q32_shl rfl rfl (by omega) (32 - k) (by have := of64_toNat (32 - (k : Int)); omega)) rfl ?_
  refine wpl_q (q32_or rfl rfl) rfl ?_
  refine wpl_q (q_pure rfl) rfl ?_
  refine wpl_nil ?_
  refine ex_then ?_
  refine wpc_ret ?_
  refine ret1 (.inl rfl) rfl rfl ?_
  exact fun w h => ⟨rfl, h.below⟩

set_option maxRecDepth 100000 in
theorem table (w : World) :
    Calls Tryd.prog 55 [].toArray w (Pur w (.agg (v32s rootsL).toArray)) := by
  refine enter (m := 2) (R := Mem w [] [] []) Tryd.func55 rfl rfl (Nat.le_of_ble_eq_true rfl) (Mem.start w) ?_
  refine wpc_seq ?_
  -- region 0
  refine wpc_region ?_
  refine wpl_t (t_alloc Tryd.ti119 (v32s (List.replicate 64 0)) (by rfl)) rfl ?_
  intro b0
  refine wpl_nil ?_
  refine ex_then ?_
  refine wpc_seq ?_
  -- region 1
  refine wpc_region ?_
  refine wpl_q (q_buildFull (v32s rootsL) Tryd.underlying119 Tryd.ti119 Tryd.ti25 rfl rfl (v32s_one _) rfl) rfl ?_
  refine wpl_t0 (t_stA Tryd.ti119 rfl rfl ((v32s_length _).trans rfl) (v32s_one _) ((v32s_length _).trans rfl)) ?_
  intro _
  refine wpl_nil ?_
  refine ex_then ?_
  refine wpc_ret ?_
  refine retv1 (.inl rfl) rfl (rv_agg Tryd.underlying119 rfl Tryd.ti119 rfl (fun w h => h.cells_blk (by repeat (first | exact List.mem_cons_self .. | apply List.mem_cons_of_mem))) ((v32s_length _).trans rfl)) ?_
  exact fun w h => ⟨rfl, h.below⟩

set_option maxRecDepth 100000 in
theorem padded (bv : Value) (bs : List UInt8) (w : World) (hb : Seen w.cell? bv bs.length 1 (v8s bs)) (hl : bs.length ≤ 1000000000) :
    Calls Tryd.prog 56 [bv].toArray w (Gives w (fun v : Value => v) (fun v => [.row v (padF bs).length 5 1 (v8s (padF bs))]) (fun _ => [])) := by
  refine enter (m := 37) (R := Mem w [] [] []) Tryd.func56 rfl rfl (Nat.le_of_ble_eq_true rfl) (Mem.start w) ?_
  refine wpc_seq ?_
  -- region 0
  refine wpc_region ?_
  refine wpl_q (q_pure rfl) rfl ?_
  refine wpl_nil ?_
  refine ex_then ?_
  refine wpc_seq ?_
  -- region 1
  refine wpc_region ?_
  refine wpl_t (t_buildSlice0 Tryd.underlying22 Tryd.ti5) rfl ?_
  intro b6
  refine wpl_q (q_pure rfl) rfl ?_
  refine wpl_t (t_append Tryd.underlying22 Tryd.ti5 rfl (by decide) rfl rfl (fun w h => h.seen_old hb) (v8s_one _) (by simp only [maxLen]; omega) (by omega)) rfl ?_
  intro b8
  refine wpl_q (q_pure rfl) rfl ?_
  refine wpl_nil ?_
  refine ex_then ?_
  refine wpc_seq ?_
  -- region 2
  refine wpc_region ?_
  refine wpl_q (q_pure rfl) rfl ?_
  refine wpl_t (t_buildSlice (v8s [128]) Tryd.underlying22 Tryd.ti5 rfl (by decide) (by decide) rfl rfl rfl) rfl ?_
  intro b10
  refine wpl_t (t_append Tryd.underlying22 Tryd.ti5 rfl (by decide) rfl rfl (fun w h => h.seenV) (v8s_one _) (by simp only [maxLen]; omega) (by omega)) rfl ?_
  intro b11
  refine wpl_q (q_pure rfl) rfl ?_
  refine wpl_nil ?_
  refine ex_then ?_
  refine wpc_seq ?_
  refine wpc_block ?_
  refine wpc_loop (ι := { x : Nat × Value // x.1 ≤ zc bs.length }) (fun x => [(3, x.1.2), (0, bv)]) (fun x => Mem w [] [.row x.1.2 (bs.length + 1 + x.1.1) 5 1 (v8s (bs ++ [128] ++ List.replicate x.1.1 0))] []) (fun x => zc bs.length - x.1.1) ⟨(0, b11), Nat.zero_le _⟩ ?_ ?_ ?_
  · exact by repeat (first | exact trivial | refine ⟨rfl, ?_⟩)
  · exact fun w h => by
        have h2 := h.sub (.drop (.keep .nil)) .nil
        simpa [v8s] using h2
  · rintro ⟨⟨k, v⟩, hk⟩; dsimp only
    have hk : k ≤ zc bs.length := hk
    have hz : zc bs.length ≤ 63 := by unfold zc; omega
    refine wpc_fact (fun w h => h.seenV.form (v := v)) (fun hv => ?_)
    obtain ⟨a, cap, rfl, _⟩ := hv
    refine wpc_seq ?_
    refine wpc_seq ?_
    -- region 3
    refine wpc_region ?_
    refine wpl_q (q_pure rfl) rfl ?_
    refine wpl_q (q_len Tryd.underlying22 rfl) rfl ?_
    refine wpl_q (qop_eq (q_rem rfl rfl (by decide)) (v := .int .i64 (((bs.length + 1 + k) % 64 : Nat) : Int)) rfl) rfl ?_
    refine wpl_q (q_pure rfl) rfl ?_
    refine wpl_nil ?_
    refine ex_then ?_
    refine wpc_cond rfl (fun hc15 => ?_) (fun hc15 => ?_)
    ·
      simp only [bne_iff_ne, ne_eq, decide_eq_true_eq] at hc15
      have hkz : k < zc bs.length := by unfold zc at hk ⊢; omega
      refine wpc_skip ?_
      refine ex_then ?_
      refine wpc_block ?_
      -- region 4
      refine wpc_region ?_
      refine wpl_q (q_pure rfl) rfl ?_
      refine wpl_t (t_buildSlice (v8s [0]) Tryd.underlying22 Tryd.ti5 rfl (by decide) (by decide) rfl rfl rfl) rfl ?_
      intro b17
      refine wpl_t (t_append Tryd.underlying22 Tryd.ti5 rfl (by decide) rfl rfl (fun w h => h.seenV) (v8s_one _) (by simp only [maxLen]; omega) (by omega)) rfl ?_
      intro b18
      refine wpl_q (q_pure rfl) rfl ?_
      refine wpl_nil ?_
      refine ex_block ?_
      refine ex_again ⟨(k + 1, b18), by show k + 1 ≤ zc bs.length; omega⟩ ?_ ?_ ?_
      · exact (by repeat (first | exact trivial | refine ⟨rfl, ?_⟩))
      · exact fun w h => by
                have h2 := h.sub (.drop (.keep .nil)) .nil
                have e : v8s (bs ++ [128] ++ List.replicate k 0) ++ v8s [0] = v8s (bs ++ [128] ++ List.replicate (k + 1) 0) := by rw [← v8s_append, List.append_assoc, ← List.replicate_succ']
                rw [e] at h2; exact h2
      · show zc bs.length - (k + 1) < zc bs.length - k; omega
    ·
      simp only [bne_eq_false_iff_eq, decide_eq_false_iff_not, ne_eq, Decidable.not_not] at hc15
      obtain rfl : k = zc bs.length := by unfold zc at hk ⊢; omega
      obtain ⟨abv, capbv, rfl, _⟩ := hb.form
      refine wpc_exit ?_
      refine ex_then_exit ?_
      refine ex_then_exit ?_
      refine ex_block_hit ?_
      refine ex_then ?_
      refine wpc_seq ?_
      -- region 5
      refine wpc_region ?_
      refine wpl_q (q_pure rfl) rfl ?_
      refine wpl_q (q_len Tryd.underlying22 rfl) rfl ?_
      refine wpl_q (q64_conv Tryd.underlying3 Tryd.underlying134 rfl) rfl ?_
      refine wpl_q (q64_mul (b := 8) rfl rfl) rfl ?_
      refine wpl_q (q_pure rfl) rfl ?_
      refine wpl_nil ?_
      refine ex_then ?_
      refine wpc_seq ?_
      refine wpc_seq ?_
      -- region 6
      refine wpc_region ?_
      refine wpl_q (q_pure rfl) rfl ?_
      refine wpl_nil ?_
      refine ex_then ?_
      refine wpc_block ?_
      refine wpc_loop (ι := { x : Nat × Value // x.1 ≤ 8 }) (fun x => [(5, .int .i64 (7 - (x.1.1 : Nat) : Int)), (4, .int .u64 (of64 bs.length * 8).toNat), (3, x.1.2)]) (fun x => Mem w [] [.row x.1.2 (bs.length + 1 + zc bs.length + x.1.1) 5 1 (v8s ((bs ++ [128] ++ List.replicate (zc bs.length) 0) ++ lenB (of64 bs.length * 8) x.1.1))] []) (fun x => 8 - x.1.1) ⟨(0, .slice a (bs.length + 1 + zc bs.length) cap), Nat.zero_le _⟩ ?_ ?_ ?_
      · exact by repeat (first | exact trivial | refine ⟨rfl, ?_⟩)
      · exact fun w h => by simpa [lenB] using h
      · rintro ⟨⟨j, v⟩, hj⟩; dsimp only
        have hj : j ≤ 8 := hj
        have hz8 : zc bs.length ≤ 63 := by unfold zc; omega
        refine wpc_seq ?_
        refine wpc_seq ?_
        -- region 7
        refine wpc_region ?_
        refine wpl_q (q_pure rfl) rfl ?_
        refine wpl_q (q_pure rfl) rfl ?_
        refine wpl_nil ?_
        refine ex_then ?_
        refine wpc_cond rfl (fun hc24 => ?_) (fun hc24 => ?_)
        ·
          simp only [decide_eq_true_eq, ge_iff_le] at hc24
          refine wpc_skip ?_
          refine ex_then ?_
          refine wpc_seq ?_
          refine wpc_block ?_
          -- region 9
          refine wpc_region ?_
          refine wpl_q (q_pure rfl) rfl ?_
          refine wpl_q (q_pure rfl) rfl ?_
          refine wpl_q (q_pure rfl) rfl ?_
          first | refine wpl_q (qop_eq (q_pure rfl) (congrArg (Value.int .i64) (wk_i64 (by omega) (by omega)))) rfl ?_ | refine wpl_q (q_pure rfl) rfl ?_
          refine wpl_q (q64_conv Tryd.underlying3 Tryd.underlying64 rfl) rfl ?_
          refine wpl_q (q64_shr rfl rfl (by omega) (8 * (7 - j)) (by have := of64_toNat (8 * (7 - (j : Int))); omega)) rfl ?_
          refine wpl_q (q8_conv Tryd.underlying134 Tryd.underlying5 rfl) rfl ?_
          refine wpl_t (t_buildSlice (v8s [of8 (sr64 (of64 bs.length * 8) (8 * (7 - j))).toNat]) Tryd.underlying22 Tryd.ti5 rfl (by decide) (by decide) rfl rfl rfl) rfl ?_
          intro b34
          refine wpl_t (t_append Tryd.underlying22 Tryd.ti5 rfl (by decide) rfl rfl (fun w h => h.seenV) (v8s_one _) (by simp only [maxLen]; omega) (by omega)) rfl ?_
          intro b35
          refine wpl_q (q_pure rfl) rfl ?_
          refine wpl_nil ?_
          refine ex_block ?_
          refine ex_then ?_
          -- region 8
          refine wpc_region ?_
          refine wpl_q (q_pure rfl) rfl ?_
          refine wpl_q (qop_eq (q_pure rfl) (v := .int .i64 (7 - ((j + 1 : Nat) : Int))) (congrArg (Value.int .i64) ((wk_i64 (by omega) (by omega)).trans (by omega)))) rfl ?_
          refine wpl_q (q_pure rfl) rfl ?_
          refine wpl_nil ?_
          refine ex_again ⟨(j + 1, b35), by show j + 1 ≤ 8; omega⟩ ?_ ?_ ?_
          · exact (by repeat (first | exact trivial | refine ⟨rfl, ?_⟩))
          · exact fun w h => by
                    have h2 := h.sub (.drop (.keep .nil)) .nil
                    have e : v8s ((bs ++ [128] ++ List.replicate (zc bs.length) 0) ++ lenB (of64 bs.length * 8) j) ++ v8s [of8 (sr64 (of64 bs.length * 8) (8 * (7 - j))).toNat] = v8s ((bs ++ [128] ++ List.replicate (zc bs.length) 0) ++ lenB (of64 bs.length * 8) (j + 1)) := by rw [← v8s_append, List.append_assoc]; rfl
                    rw [e] at h2; exact h2
          · show 8 - (j + 1) < 8 - j; omega
        ·
          simp only [decide_eq_false_iff_not, ge_iff_le] at hc24
          obtain rfl : j = 8 := by omega
          refine wpc_exit ?_
          refine ex_then_exit ?_
          refine ex_then_exit ?_
          refine ex_block_hit ?_
          refine ex_then ?_
          refine wpc_seq ?_
          -- region 10
          refine wpc_region ?_
          refine wpl_q (q_pure rfl) rfl ?_
          refine wpl_q (q_pure rfl) rfl ?_
          refine wpl_nil ?_
          refine ex_then ?_
          refine wpc_ret ?_
          refine ret1 (.inl rfl) rfl rfl ?_
          exact fun w h => ⟨v, rfl, h.below, by have h2 := h.made (N := [.row v (padF bs).length 5 1 (v8s (padF bs))]) (T := []) (by rw [show (padF bs).length = bs.length + 1 + zc bs.length + 8 by simp [padF, lenB_length]; omega]; exact Sub.refl _) .nil; exact h2⟩

end Go.Proofs.YtoaeklbenmlooaaDoor