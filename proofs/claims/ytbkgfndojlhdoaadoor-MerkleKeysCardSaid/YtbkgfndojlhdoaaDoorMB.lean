/- merkle: the root of a signature, verifying. -/
import Derived.Test.YtbkgfndojlhdoaaDoorMA
namespace Go.Proofs.YtbkgfndojlhdoaaDoor
set_option linter.unusedSimpArgs false
set_option linter.unusedVariables false
open Go Go.PL Go.RowKit

def rootF (ht idx : Int) (bs : List UInt8) (chs ps : List (List UInt8)) : List UInt8 := if checkF ht idx chs.length ps.length = 0 then upF (recF bs chs) idx.toNat ps ps.length else List.replicate 16 0
theorem rootF_length (ht idx : Int) (bs : List UInt8) (chs ps : List (List UInt8)) : (rootF ht idx bs chs ps).length = 16 := by
  unfold rootF; split
  · exact upF_length (recF_length _ _) _ _ _
  · exact List.length_replicate
theorem globL {w0 w : World} {Ln : List Nat} {M : List Ent} {S : List Fact} (h : Mem w0 Ln M S w) (hl : 0 ∉ Ln) (hG : Glb w0) : Glb w := ⟨h.at_oldL hG.1 hl, Nat.lt_of_lt_of_le hG.2 h.size⟩
theorem own_ne {w0 w : World} {M : List Ent} {S : List Fact} {b : Nat} {t : TypeId} {cs : List Value} (h : Mem w0 [] M S w) (hG : Glb w0) (hm : Ent.blk b t cs ∈ M) : b ≠ 0 := by
  have h1 := h.new _ hm b rfl
  have h2 := hG.2
  simp only [List.not_mem_nil, or_false] at h1
  omega
theorem key_height (rs : List UInt8) (ht : Int) (h : rs.length = 16) : (v8s rs ++ [Value.int .i64 ht])[16]? = some (.int .i64 ht) := by
  rw [List.getElem?_append_right (by rw [v8s_length]; omega), v8s_length, h]; rfl
theorem key_root (rs : List UInt8) (ht : Int) (h : rs.length = 16) : ((v8s rs ++ [Value.int .i64 ht]).drop 0).take 16 = v8s rs := by
  rw [List.drop_zero, List.take_left' (by rw [v8s_length]; exact h)]
theorem div_step (k i : Nat) : k / 2 ^ (i + 1) = k / 2 ^ i / 2 ^ 1 := by rw [Nat.pow_succ, Nat.div_div_eq_div_mul]

set_option maxRecDepth 100000 in
theorem followed7 (ys : List UInt8) (bi bn : Nat) (xs : List UInt8) (j : Nat) (w : World) (hys : ys.length = 16) (hi : w.heap[bi]? = some (.cells ([.int .i64 ((j : Nat) : Int)] : List Value).toArray 3 (0, 0))) (hn : w.heap[bn]? = some (.cells (v8s xs).toArray 23 (0, 0))) (hne : bi ≠ bn) (hxs : xs.length = 16) (hj : j ≤ 1000) (hi0 : bi ≠ 0) (hn0 : bn ≠ 0) (hG : Glb w) :
    Calls Tryd.prog 47 [.agg (v8s ys).toArray, .pointer (some ⟨bi, 0, none⟩), .pointer (some ⟨bn, 0, none⟩)].toArray w (GivesL w [bi, bn] (fun _ : Unit => .agg (v8s (stepU xs j ys)).toArray) fun _ => [.blk bi 3 [.int .i64 ((j / 2 ^ 1 : Nat) : Int)], .blk bn 23 (v8s (stepU xs j ys))]) := by
  have h0 : (0 : Nat) ∉ [bi, bn] := by simp; omega
  have hjl1 := joinedF_length xs ys
  have hjl2 := joinedF_length ys xs
  have hjl3 := stepU_length xs j ys
  refine enter (m := 17) (R := Mem w [bi, bn] [.blk bi 3 [.int .i64 ((j : Nat) : Int)], .blk bn 23 (v8s xs)] []) Tryd.func47 rfl rfl (Nat.le_of_ble_eq_true rfl) (Mem.start2 w hi hn hne) ?_
  refine wpc_seq ?_
  refine wpc_region ?_
  refine wpl_t (t_box rfl (v8s ys) rfl) rfl (fun b3 => ?_)
  refine wpl_t (t_alloc Tryd.ti23 (v8s (List.replicate 16 0)) (by rfl)) rfl (fun b4 => ?_)
  refine wpl_nil ?_
  refine ex_then ?_
  refine wpc_seq ?_
  refine wpc_seq ?_
  refine wpc_region ?_
  refine wpl_q (q_ld Tryd.underlying3 rfl rfl (by first | exact vns_get (by first | decide | omega | exact Nat.zero_lt_one | (simp; omega) | (simp only [v8s_length, v32s_length, vis_length, vns_length, v64s_length]; omega)) | rfl)) rfl ?_
  refine wpl_q (q_andN (b := 1) rfl rfl (by first | omega | (simp only [maxLen]; omega) | (simp only [List.length_append, List.length_cons, List.length_nil, List.length_take, maxLen]; omega) | (simp only [List.length_append, List.length_cons, List.length_nil, List.length_take]; omega)) (by first | omega | (simp only [maxLen]; omega) | (simp only [List.length_append, List.length_cons, List.length_nil, List.length_take, maxLen]; omega) | (simp only [List.length_append, List.length_cons, List.length_nil, List.length_take]; omega))) rfl ?_
  refine wpl_q (q_pure rfl) rfl ?_
  refine wpl_nil ?_
  refine ex_then ?_
  refine wpc_cond rfl (fun hc7 => ?_) (fun hc7 => ?_)
  ·
    try simp only [decide_eq_true_eq, beq_iff_eq] at hc7
    have hst : stepU xs j ys = joinedF xs ys := if_pos (by have := Nat.and_one_is_mod j; omega)
    refine wpc_region ?_
    refine wpl_q (q_ldN Tryd.underlying23 rfl Tryd.ti23 rfl (by first | with_reducible rfl | (simp only [v8s_length, v32s_length, vis_length, vns_length, v64s_length, List.length_replicate]; first | done | with_reducible assumption | omega) | (rw [v8s_length]; (first | with_reducible assumption | with_reducible exact shortF_length _ | with_reducible exact stepF_length _ _ _ | with_reducible exact sumF_length _ | with_reducible exact climbF_length _ (by first | with_reducible assumption | with_reducible exact shortF_length _ | with_reducible exact beginF_length _ _ | with_reducible exact getD_mem_len (by assumption) (by omega)) _ _ _ | with_reducible exact beginF_length _ _ | with_reducible exact chainF_length _ _ _ | with_reducible exact recF_length _ _ | with_reducible exact publicF_length _ | with_reducible exact getD_mem_len (by assumption) (by omega) | (with_reducible exact List.length_replicate))) | rfl)) rfl ?_
    refine wpl_q (q_ldN Tryd.underlying23 rfl Tryd.ti23 rfl (by first | with_reducible rfl | (simp only [v8s_length, v32s_length, vis_length, vns_length, v64s_length, List.length_replicate]; first | done | with_reducible assumption | omega) | (rw [v8s_length]; (first | with_reducible assumption | with_reducible exact shortF_length _ | with_reducible exact stepF_length _ _ _ | with_reducible exact sumF_length _ | with_reducible exact climbF_length _ (by first | with_reducible assumption | with_reducible exact shortF_length _ | with_reducible exact beginF_length _ _ | with_reducible exact getD_mem_len (by assumption) (by omega)) _ _ _ | with_reducible exact beginF_length _ _ | with_reducible exact chainF_length _ _ _ | with_reducible exact recF_length _ _ | with_reducible exact publicF_length _ | with_reducible exact getD_mem_len (by assumption) (by omega) | (with_reducible exact List.length_replicate))) | rfl)) rfl ?_
    refine wpl_t (t_pur Tryd.hb48 rfl fun w h => joined7 _ _ w (by (first | with_reducible assumption | with_reducible exact shortF_length _ | with_reducible exact stepF_length _ _ _ | with_reducible exact sumF_length _ | with_reducible exact climbF_length _ (by first | with_reducible assumption | with_reducible exact shortF_length _ | with_reducible exact beginF_length _ _ | with_reducible exact getD_mem_len (by assumption) (by omega)) _ _ _ | with_reducible exact beginF_length _ _ | with_reducible exact chainF_length _ _ _ | with_reducible exact recF_length _ _ | with_reducible exact publicF_length _ | with_reducible exact getD_mem_len (by assumption) (by omega) | (with_reducible exact List.length_replicate))) (by (first | with_reducible assumption | with_reducible exact shortF_length _ | with_reducible exact stepF_length _ _ _ | with_reducible exact sumF_length _ | with_reducible exact climbF_length _ (by first | with_reducible assumption | with_reducible exact shortF_length _ | with_reducible exact beginF_length _ _ | with_reducible exact getD_mem_len (by assumption) (by omega)) _ _ _ | with_reducible exact beginF_length _ _ | with_reducible exact chainF_length _ _ _ | with_reducible exact recF_length _ _ | with_reducible exact publicF_length _ | with_reducible exact getD_mem_len (by assumption) (by omega) | (with_reducible exact List.length_replicate))) (globL h h0 hG)) rfl (fun b10 => ?_)
    refine wpl_t0 (t_stA Tryd.ti23 rfl rfl (by first | with_reducible rfl | (simp only [v8s_length, v32s_length, vis_length, vns_length, v64s_length, List.length_replicate]; first | done | with_reducible assumption | omega) | (rw [v8s_length]; (first | with_reducible assumption | with_reducible exact shortF_length _ | with_reducible exact stepF_length _ _ _ | with_reducible exact sumF_length _ | with_reducible exact climbF_length _ (by first | with_reducible assumption | with_reducible exact shortF_length _ | with_reducible exact beginF_length _ _ | with_reducible exact getD_mem_len (by assumption) (by omega)) _ _ _ | with_reducible exact beginF_length _ _ | with_reducible exact chainF_length _ _ _ | with_reducible exact recF_length _ _ | with_reducible exact publicF_length _ | with_reducible exact getD_mem_len (by assumption) (by omega) | (with_reducible exact List.length_replicate))) | rfl) (v8s_one _) (by first | with_reducible rfl | (simp only [v8s_length, v32s_length, vis_length, vns_length, v64s_length, List.length_replicate]; first | done | with_reducible assumption | omega) | (rw [v8s_length]; (first | with_reducible assumption | with_reducible exact shortF_length _ | with_reducible exact stepF_length _ _ _ | with_reducible exact sumF_length _ | with_reducible exact climbF_length _ (by first | with_reducible assumption | with_reducible exact shortF_length _ | with_reducible exact beginF_length _ _ | with_reducible exact getD_mem_len (by assumption) (by omega)) _ _ _ | with_reducible exact beginF_length _ _ | with_reducible exact chainF_length _ _ _ | with_reducible exact recF_length _ _ | with_reducible exact publicF_length _ | with_reducible exact getD_mem_len (by assumption) (by omega) | (with_reducible exact List.length_replicate))) | rfl)) (fun _ => ?_)
    refine wpl_nil ?_
    refine ex_then ?_
    refine wpc_seq ?_
    refine wpc_region ?_
    refine wpl_q (q_ld Tryd.underlying3 rfl rfl (by first | exact vns_get (by first | decide | omega | exact Nat.zero_lt_one | (simp; omega) | (simp only [v8s_length, v32s_length, vis_length, vns_length, v64s_length]; omega)) | rfl)) rfl ?_
    refine wpl_q (q_shrN (b := 1) rfl rfl (by first | decide | omega)) rfl ?_
    refine wpl_t0 (t_st1 Tryd.ti3 rfl rfl rfl (by first | decide | omega | exact Nat.zero_lt_one | (simp; omega) | (simp only [v8s_length, v32s_length, vis_length, vns_length, v64s_length]; omega)) _ (by first | exact vns_set _ | rfl)) (fun _ => ?_)
    refine wpl_nil ?_
    refine ex_then ?_
    refine wpc_seq ?_
    refine wpc_region ?_
    refine wpl_q (q_ldN Tryd.underlying23 rfl Tryd.ti23 rfl (by first | with_reducible rfl | (simp only [v8s_length, v32s_length, vis_length, vns_length, v64s_length, List.length_replicate]; first | done | with_reducible assumption | omega) | (rw [v8s_length]; (first | with_reducible assumption | with_reducible exact shortF_length _ | with_reducible exact stepF_length _ _ _ | with_reducible exact sumF_length _ | with_reducible exact climbF_length _ (by first | with_reducible assumption | with_reducible exact shortF_length _ | with_reducible exact beginF_length _ _ | with_reducible exact getD_mem_len (by assumption) (by omega)) _ _ _ | with_reducible exact beginF_length _ _ | with_reducible exact chainF_length _ _ _ | with_reducible exact recF_length _ _ | with_reducible exact publicF_length _ | with_reducible exact getD_mem_len (by assumption) (by omega) | (with_reducible exact List.length_replicate))) | rfl)) rfl ?_
    refine wpl_t0 (t_stA Tryd.ti23 rfl rfl (by first | with_reducible rfl | (simp only [v8s_length, v32s_length, vis_length, vns_length, v64s_length, List.length_replicate]; first | done | with_reducible assumption | omega) | (rw [v8s_length]; (first | with_reducible assumption | with_reducible exact shortF_length _ | with_reducible exact stepF_length _ _ _ | with_reducible exact sumF_length _ | with_reducible exact climbF_length _ (by first | with_reducible assumption | with_reducible exact shortF_length _ | with_reducible exact beginF_length _ _ | with_reducible exact getD_mem_len (by assumption) (by omega)) _ _ _ | with_reducible exact beginF_length _ _ | with_reducible exact chainF_length _ _ _ | with_reducible exact recF_length _ _ | with_reducible exact publicF_length _ | with_reducible exact getD_mem_len (by assumption) (by omega) | (with_reducible exact List.length_replicate))) | rfl) (v8s_one _) (by first | with_reducible rfl | (simp only [v8s_length, v32s_length, vis_length, vns_length, v64s_length, List.length_replicate]; first | done | with_reducible assumption | omega) | (rw [v8s_length]; (first | with_reducible assumption | with_reducible exact shortF_length _ | with_reducible exact stepF_length _ _ _ | with_reducible exact sumF_length _ | with_reducible exact climbF_length _ (by first | with_reducible assumption | with_reducible exact shortF_length _ | with_reducible exact beginF_length _ _ | with_reducible exact getD_mem_len (by assumption) (by omega)) _ _ _ | with_reducible exact beginF_length _ _ | with_reducible exact chainF_length _ _ _ | with_reducible exact recF_length _ _ | with_reducible exact publicF_length _ | with_reducible exact getD_mem_len (by assumption) (by omega) | (with_reducible exact List.length_replicate))) | rfl)) (fun _ => ?_)
    refine wpl_nil ?_
    refine ex_then ?_
    refine wpc_ret ?_
    refine retv1 (.inl rfl) rfl (rv_agg Tryd.underlying23 rfl Tryd.ti23 rfl (fun w h => h.atB) (by first | with_reducible rfl | (simp only [v8s_length, v32s_length, vis_length, vns_length, v64s_length, List.length_replicate]; first | done | with_reducible assumption | omega) | (rw [v8s_length]; (first | with_reducible assumption | with_reducible exact shortF_length _ | with_reducible exact stepF_length _ _ _ | with_reducible exact sumF_length _ | with_reducible exact climbF_length _ (by first | with_reducible assumption | with_reducible exact shortF_length _ | with_reducible exact beginF_length _ _ | with_reducible exact getD_mem_len (by assumption) (by omega)) _ _ _ | with_reducible exact beginF_length _ _ | with_reducible exact chainF_length _ _ _ | with_reducible exact recF_length _ _ | with_reducible exact publicF_length _ | with_reducible exact getD_mem_len (by assumption) (by omega) | (with_reducible exact List.length_replicate))) | rfl)) ?_
    exact fun w h => by
      rw [hst]
      exact ⟨(), rfl, h.sub (by repeat (first | exact Sub.nil | exact Sub.refl _ | with_reducible refine Sub.keep ?_ | refine Sub.drop ?_)) (by repeat (first | exact Sub.nil | exact Sub.refl _ | with_reducible refine Sub.keep ?_ | refine Sub.drop ?_))⟩
  ·
    try simp only [decide_eq_false_iff_not, beq_eq_false_iff_ne, ne_eq] at hc7
    have hst : stepU xs j ys = joinedF ys xs := if_neg (by have := Nat.and_one_is_mod j; omega)
    refine wpc_region ?_
    refine wpl_q (q_ldN Tryd.underlying23 rfl Tryd.ti23 rfl (by first | with_reducible rfl | (simp only [v8s_length, v32s_length, vis_length, vns_length, v64s_length, List.length_replicate]; first | done | with_reducible assumption | omega) | (rw [v8s_length]; (first | with_reducible assumption | with_reducible exact shortF_length _ | with_reducible exact stepF_length _ _ _ | with_reducible exact sumF_length _ | with_reducible exact climbF_length _ (by first | with_reducible assumption | with_reducible exact shortF_length _ | with_reducible exact beginF_length _ _ | with_reducible exact getD_mem_len (by assumption) (by omega)) _ _ _ | with_reducible exact beginF_length _ _ | with_reducible exact chainF_length _ _ _ | with_reducible exact recF_length _ _ | with_reducible exact publicF_length _ | with_reducible exact getD_mem_len (by assumption) (by omega) | (with_reducible exact List.length_replicate))) | rfl)) rfl ?_
    refine wpl_q (q_ldN Tryd.underlying23 rfl Tryd.ti23 rfl (by first | with_reducible rfl | (simp only [v8s_length, v32s_length, vis_length, vns_length, v64s_length, List.length_replicate]; first | done | with_reducible assumption | omega) | (rw [v8s_length]; (first | with_reducible assumption | with_reducible exact shortF_length _ | with_reducible exact stepF_length _ _ _ | with_reducible exact sumF_length _ | with_reducible exact climbF_length _ (by first | with_reducible assumption | with_reducible exact shortF_length _ | with_reducible exact beginF_length _ _ | with_reducible exact getD_mem_len (by assumption) (by omega)) _ _ _ | with_reducible exact beginF_length _ _ | with_reducible exact chainF_length _ _ _ | with_reducible exact recF_length _ _ | with_reducible exact publicF_length _ | with_reducible exact getD_mem_len (by assumption) (by omega) | (with_reducible exact List.length_replicate))) | rfl)) rfl ?_
    refine wpl_t (t_pur Tryd.hb48 rfl fun w h => joined7 _ _ w (by (first | with_reducible assumption | with_reducible exact shortF_length _ | with_reducible exact stepF_length _ _ _ | with_reducible exact sumF_length _ | with_reducible exact climbF_length _ (by first | with_reducible assumption | with_reducible exact shortF_length _ | with_reducible exact beginF_length _ _ | with_reducible exact getD_mem_len (by assumption) (by omega)) _ _ _ | with_reducible exact beginF_length _ _ | with_reducible exact chainF_length _ _ _ | with_reducible exact recF_length _ _ | with_reducible exact publicF_length _ | with_reducible exact getD_mem_len (by assumption) (by omega) | (with_reducible exact List.length_replicate))) (by (first | with_reducible assumption | with_reducible exact shortF_length _ | with_reducible exact stepF_length _ _ _ | with_reducible exact sumF_length _ | with_reducible exact climbF_length _ (by first | with_reducible assumption | with_reducible exact shortF_length _ | with_reducible exact beginF_length _ _ | with_reducible exact getD_mem_len (by assumption) (by omega)) _ _ _ | with_reducible exact beginF_length _ _ | with_reducible exact chainF_length _ _ _ | with_reducible exact recF_length _ _ | with_reducible exact publicF_length _ | with_reducible exact getD_mem_len (by assumption) (by omega) | (with_reducible exact List.length_replicate))) (globL h h0 hG)) rfl (fun b13 => ?_)
    refine wpl_t0 (t_stA Tryd.ti23 rfl rfl (by first | with_reducible rfl | (simp only [v8s_length, v32s_length, vis_length, vns_length, v64s_length, List.length_replicate]; first | done | with_reducible assumption | omega) | (rw [v8s_length]; (first | with_reducible assumption | with_reducible exact shortF_length _ | with_reducible exact stepF_length _ _ _ | with_reducible exact sumF_length _ | with_reducible exact climbF_length _ (by first | with_reducible assumption | with_reducible exact shortF_length _ | with_reducible exact beginF_length _ _ | with_reducible exact getD_mem_len (by assumption) (by omega)) _ _ _ | with_reducible exact beginF_length _ _ | with_reducible exact chainF_length _ _ _ | with_reducible exact recF_length _ _ | with_reducible exact publicF_length _ | with_reducible exact getD_mem_len (by assumption) (by omega) | (with_reducible exact List.length_replicate))) | rfl) (v8s_one _) (by first | with_reducible rfl | (simp only [v8s_length, v32s_length, vis_length, vns_length, v64s_length, List.length_replicate]; first | done | with_reducible assumption | omega) | (rw [v8s_length]; (first | with_reducible assumption | with_reducible exact shortF_length _ | with_reducible exact stepF_length _ _ _ | with_reducible exact sumF_length _ | with_reducible exact climbF_length _ (by first | with_reducible assumption | with_reducible exact shortF_length _ | with_reducible exact beginF_length _ _ | with_reducible exact getD_mem_len (by assumption) (by omega)) _ _ _ | with_reducible exact beginF_length _ _ | with_reducible exact chainF_length _ _ _ | with_reducible exact recF_length _ _ | with_reducible exact publicF_length _ | with_reducible exact getD_mem_len (by assumption) (by omega) | (with_reducible exact List.length_replicate))) | rfl)) (fun _ => ?_)
    refine wpl_nil ?_
    refine ex_then ?_
    refine wpc_seq ?_
    refine wpc_region ?_
    refine wpl_q (q_ld Tryd.underlying3 rfl rfl (by first | exact vns_get (by first | decide | omega | exact Nat.zero_lt_one | (simp; omega) | (simp only [v8s_length, v32s_length, vis_length, vns_length, v64s_length]; omega)) | rfl)) rfl ?_
    refine wpl_q (q_shrN (b := 1) rfl rfl (by first | decide | omega)) rfl ?_
    refine wpl_t0 (t_st1 Tryd.ti3 rfl rfl rfl (by first | decide | omega | exact Nat.zero_lt_one | (simp; omega) | (simp only [v8s_length, v32s_length, vis_length, vns_length, v64s_length]; omega)) _ (by first | exact vns_set _ | rfl)) (fun _ => ?_)
    refine wpl_nil ?_
    refine ex_then ?_
    refine wpc_seq ?_
    refine wpc_region ?_
    refine wpl_q (q_ldN Tryd.underlying23 rfl Tryd.ti23 rfl (by first | with_reducible rfl | (simp only [v8s_length, v32s_length, vis_length, vns_length, v64s_length, List.length_replicate]; first | done | with_reducible assumption | omega) | (rw [v8s_length]; (first | with_reducible assumption | with_reducible exact shortF_length _ | with_reducible exact stepF_length _ _ _ | with_reducible exact sumF_length _ | with_reducible exact climbF_length _ (by first | with_reducible assumption | with_reducible exact shortF_length _ | with_reducible exact beginF_length _ _ | with_reducible exact getD_mem_len (by assumption) (by omega)) _ _ _ | with_reducible exact beginF_length _ _ | with_reducible exact chainF_length _ _ _ | with_reducible exact recF_length _ _ | with_reducible exact publicF_length _ | with_reducible exact getD_mem_len (by assumption) (by omega) | (with_reducible exact List.length_replicate))) | rfl)) rfl ?_
    refine wpl_t0 (t_stA Tryd.ti23 rfl rfl (by first | with_reducible rfl | (simp only [v8s_length, v32s_length, vis_length, vns_length, v64s_length, List.length_replicate]; first | done | with_reducible assumption | omega) | (rw [v8s_length]; (first | with_reducible assumption | with_reducible exact shortF_length _ | with_reducible exact stepF_length _ _ _ | with_reducible exact sumF_length _ | with_reducible exact climbF_length _ (by first | with_reducible assumption | with_reducible exact shortF_length _ | with_reducible exact beginF_length _ _ | with_reducible exact getD_mem_len (by assumption) (by omega)) _ _ _ | with_reducible exact beginF_length _ _ | with_reducible exact chainF_length _ _ _ | with_reducible exact recF_length _ _ | with_reducible exact publicF_length _ | with_reducible exact getD_mem_len (by assumption) (by omega) | (with_reducible exact List.length_replicate))) | rfl) (v8s_one _) (by first | with_reducible rfl | (simp only [v8s_length, v32s_length, vis_length, vns_length, v64s_length, List.length_replicate]; first | done | with_reducible assumption | omega) | (rw [v8s_length]; (first | with_reducible assumption | with_reducible exact shortF_length _ | with_reducible exact stepF_length _ _ _ | with_reducible exact sumF_length _ | with_reducible exact climbF_length _ (by first | with_reducible assumption | with_reducible exact shortF_length _ | with_reducible exact beginF_length _ _ | with_reducible exact getD_mem_len (by assumption) (by omega)) _ _ _ | with_reducible exact beginF_length _ _ | with_reducible exact chainF_length _ _ _ | with_reducible exact recF_length _ _ | with_reducible exact publicF_length _ | with_reducible exact getD_mem_len (by assumption) (by omega) | (with_reducible exact List.length_replicate))) | rfl)) (fun _ => ?_)
    refine wpl_nil ?_
    refine ex_then ?_
    refine wpc_ret ?_
    refine retv1 (.inl rfl) rfl (rv_agg Tryd.underlying23 rfl Tryd.ti23 rfl (fun w h => h.atB) (by first | with_reducible rfl | (simp only [v8s_length, v32s_length, vis_length, vns_length, v64s_length, List.length_replicate]; first | done | with_reducible assumption | omega) | (rw [v8s_length]; (first | with_reducible assumption | with_reducible exact shortF_length _ | with_reducible exact stepF_length _ _ _ | with_reducible exact sumF_length _ | with_reducible exact climbF_length _ (by first | with_reducible assumption | with_reducible exact shortF_length _ | with_reducible exact beginF_length _ _ | with_reducible exact getD_mem_len (by assumption) (by omega)) _ _ _ | with_reducible exact beginF_length _ _ | with_reducible exact chainF_length _ _ _ | with_reducible exact recF_length _ _ | with_reducible exact publicF_length _ | with_reducible exact getD_mem_len (by assumption) (by omega) | (with_reducible exact List.length_replicate))) | rfl)) ?_
    exact fun w h => by
      rw [hst]
      exact ⟨(), rfl, h.sub (by repeat (first | exact Sub.nil | exact Sub.refl _ | with_reducible refine Sub.keep ?_ | refine Sub.drop ?_)) (by repeat (first | exact Sub.nil | exact Sub.refl _ | with_reducible refine Sub.keep ?_ | refine Sub.drop ?_))⟩

set_option maxRecDepth 100000 in
theorem follower7 (xs : List UInt8) (k : Nat) (w : World) (hxs : xs.length = 16)  :
    Calls Tryd.prog 29 [.agg (v8s xs).toArray, .int .i64 ((k : Nat) : Int)].toArray w (GivesP w (fun _ : Nat × Nat => True) (fun b : Nat × Nat => .func (.func 47) #[] #[.pointer (some ⟨b.1, 0, none⟩), .pointer (some ⟨b.2, 0, none⟩)]) (fun b => [.blk b.1 3 [.int .i64 ((k : Nat) : Int)], .blk b.2 23 (v8s xs)]) (fun _ => [])) := by
  refine enter (m := 6) (R := Mem w [] [] []) Tryd.func29 rfl rfl (Nat.le_of_ble_eq_true rfl) (Mem.start w) ?_
  refine wpc_seq ?_
  refine wpc_region ?_
  refine wpl_t (t_box rfl (v8s xs) rfl) rfl (fun b2 => ?_)
  refine wpl_t (t_box rfl [.int .i64 ((k : Nat) : Int)] rfl) rfl (fun b3 => ?_)
  refine wpl_q (q_pure rfl) rfl ?_
  refine wpl_nil ?_
  refine ex_then ?_
  refine wpc_seq ?_
  refine wpc_region ?_
  refine wpl_q (q_fn (us := []) (vs := [_, _]) rfl rfl) rfl ?_
  refine wpl_q (q_pure rfl) rfl ?_
  refine wpl_nil ?_
  refine ex_then ?_
  refine wpc_ret ?_
  refine ret1 (.inl rfl) rfl rfl ?_
  exact fun w h => ⟨(b3, b2), trivial, rfl, h.below, h.made (.keep (.keep .nil)) .nil⟩

set_option maxRecDepth 100000 in
theorem root7 (ht : Int) (bv : Value) (bs : List UInt8) (cv pv : Value) (chs ps : List (List UInt8)) (idx : Int) (w : World) (hbv : Seen w.cell? bv bs.length 1 (v8s bs)) (hcv : Seen w.cell? cv chs.length 16 (v8s chs.flatten)) (hlchs : ∀ x ∈ chs, x.length = 16) (hpv : Seen w.cell? pv ps.length 16 (v8s ps.flatten)) (hlps : ∀ x ∈ ps, x.length = 16) (hG : Glb w) :
    Calls Tryd.prog 12 [.int .i64 ht, bv, .agg #[.int .i64 idx, cv, pv]].toArray w (Pur w (.tuple #[.agg (v8s (rootF ht idx bs chs ps)).toArray, .int .i64 (checkF ht idx chs.length ps.length)])) := by
  have sbv := hbv.sv
  have lbv := sbv.le
  simp only [maxLen] at lbv
  have scv := hcv.sv
  have lcv := scv.le
  simp only [maxLen] at lcv
  have spv := hpv.sv
  have lpv := spv.le
  simp only [maxLen] at lpv
  refine enter (m := 45) (R := Mem w [] [] []) Tryd.func12 rfl rfl (Nat.le_of_ble_eq_true rfl) (Mem.start w) ?_
  refine wpc_seq ?_
  refine wpc_region ?_
  refine wpl_t (t_box rfl [.int .i64 idx, cv, pv] rfl) rfl (fun b5 => ?_)
  refine wpl_t (t_alloc Tryd.ti23 (v8s (List.replicate 16 0)) (by rfl)) rfl (fun b6 => ?_)
  refine wpl_q (q_pure rfl) rfl ?_
  refine wpl_nil ?_
  refine ex_then ?_
  refine wpc_seq ?_
  refine wpc_seq ?_
  refine wpc_region ?_
  refine wpl_q (q_pure rfl) rfl ?_
  refine wpl_q (q_ldN Tryd.underlying29 rfl Tryd.ti29 rfl (by first | with_reducible rfl | (simp only [v8s_length, v32s_length, vis_length, vns_length, v64s_length, List.length_replicate]; first | done | with_reducible assumption | omega) | (rw [v8s_length]; (first | with_reducible assumption | with_reducible exact shortF_length _ | with_reducible exact stepF_length _ _ _ | with_reducible exact sumF_length _ | with_reducible exact climbF_length _ (by first | with_reducible assumption | with_reducible exact shortF_length _ | with_reducible exact beginF_length _ _ | with_reducible exact getD_mem_len (by assumption) (by omega)) _ _ _ | with_reducible exact beginF_length _ _ | with_reducible exact chainF_length _ _ _ | with_reducible exact recF_length _ _ | with_reducible exact publicF_length _ | with_reducible exact getD_mem_len (by assumption) (by omega) | (with_reducible exact List.length_replicate))) | rfl)) rfl ?_
  refine wpl_t (t_pur Tryd.hb14 rfl fun w h => check7 _ _ _ _ _ _ w (by first | exact Seen.re8 h.seenV | exact Seen.reS h.seenV (by first | assumption | exact signF_all _ _ | exact sg_all _ _) (by decide) | exact Seen.reN h.seenV | exact h.seenV | exact h.seenA (by first | decide | (simp only [maxLen]; omega)) (by first | with_reducible rfl | (simp only [v8s_length, v32s_length, vis_length, vns_length, v64s_length, List.length_replicate]; first | done | with_reducible assumption | omega) | (rw [v8s_length]; (first | with_reducible assumption | with_reducible exact shortF_length _ | with_reducible exact stepF_length _ _ _ | with_reducible exact sumF_length _ | with_reducible exact climbF_length _ (by first | with_reducible assumption | with_reducible exact shortF_length _ | with_reducible exact beginF_length _ _ | with_reducible exact getD_mem_len (by assumption) (by omega)) _ _ _ | with_reducible exact beginF_length _ _ | with_reducible exact chainF_length _ _ _ | with_reducible exact recF_length _ _ | with_reducible exact publicF_length _ | with_reducible exact getD_mem_len (by assumption) (by omega) | (with_reducible exact List.length_replicate))) | rfl) | exact h.seen_old (by assumption) | exact h.seen_oldL (by assumption) (by assumption) | exact Seen.re8 (h.seen_fact (by repeat (first | exact List.mem_cons_self .. | apply List.mem_cons_of_mem))) | exact h.seen_fact (by repeat (first | exact List.mem_cons_self .. | apply List.mem_cons_of_mem))) (by first | assumption | exact signF_all _ _ | exact sg_all _ _) (by first | exact Seen.re8 h.seenV | exact Seen.reS h.seenV (by first | assumption | exact signF_all _ _ | exact sg_all _ _) (by decide) | exact Seen.reN h.seenV | exact h.seenV | exact h.seenA (by first | decide | (simp only [maxLen]; omega)) (by first | with_reducible rfl | (simp only [v8s_length, v32s_length, vis_length, vns_length, v64s_length, List.length_replicate]; first | done | with_reducible assumption | omega) | (rw [v8s_length]; (first | with_reducible assumption | with_reducible exact shortF_length _ | with_reducible exact stepF_length _ _ _ | with_reducible exact sumF_length _ | with_reducible exact climbF_length _ (by first | with_reducible assumption | with_reducible exact shortF_length _ | with_reducible exact beginF_length _ _ | with_reducible exact getD_mem_len (by assumption) (by omega)) _ _ _ | with_reducible exact beginF_length _ _ | with_reducible exact chainF_length _ _ _ | with_reducible exact recF_length _ _ | with_reducible exact publicF_length _ | with_reducible exact getD_mem_len (by assumption) (by omega) | (with_reducible exact List.length_replicate))) | rfl) | exact h.seen_old (by assumption) | exact h.seen_oldL (by assumption) (by assumption) | exact Seen.re8 (h.seen_fact (by repeat (first | exact List.mem_cons_self .. | apply List.mem_cons_of_mem))) | exact h.seen_fact (by repeat (first | exact List.mem_cons_self .. | apply List.mem_cons_of_mem))) (by first | assumption | exact signF_all _ _ | exact sg_all _ _)) rfl (fun b16 => ?_)
  refine wpl_q (q_pure rfl) rfl ?_
  refine wpl_nil ?_
  refine ex_then ?_
  refine wpc_seq ?_
  refine wpc_region ?_
  refine wpl_q (q_pure rfl) rfl ?_
  refine wpl_q (q_pure rfl) rfl ?_
  refine wpl_nil ?_
  refine ex_then ?_
  refine wpc_cond rfl (fun hc18 => ?_) (fun hc18 => ?_)
  ·
    simp only [bne_iff_ne, ne_eq, decide_eq_true_eq] at hc18
    have hr : rootF ht idx bs chs ps = List.replicate 16 0 := if_neg hc18
    refine wpc_seq ?_
    refine wpc_region ?_
    refine wpl_q (q_build (cs := (v8s (List.replicate 16 0))) rfl (built_array Tryd.underlying23 Tryd.ti23 Tryd.ti5 rfl)) rfl ?_
    refine wpl_q (q_pure rfl) rfl ?_
    refine wpl_t0 (t_stA Tryd.ti23 rfl rfl (by first | with_reducible rfl | (simp only [v8s_length, v32s_length, vis_length, vns_length, v64s_length, List.length_replicate]; first | done | with_reducible assumption | omega) | (rw [v8s_length]; (first | with_reducible assumption | with_reducible exact shortF_length _ | with_reducible exact stepF_length _ _ _ | with_reducible exact sumF_length _ | with_reducible exact climbF_length _ (by first | with_reducible assumption | with_reducible exact shortF_length _ | with_reducible exact beginF_length _ _ | with_reducible exact getD_mem_len (by assumption) (by omega)) _ _ _ | with_reducible exact beginF_length _ _ | with_reducible exact chainF_length _ _ _ | with_reducible exact recF_length _ _ | with_reducible exact publicF_length _ | with_reducible exact getD_mem_len (by assumption) (by omega) | (with_reducible exact List.length_replicate))) | rfl) (v8s_one _) (by first | with_reducible rfl | (simp only [v8s_length, v32s_length, vis_length, vns_length, v64s_length, List.length_replicate]; first | done | with_reducible assumption | omega) | (rw [v8s_length]; (first | with_reducible assumption | with_reducible exact shortF_length _ | with_reducible exact stepF_length _ _ _ | with_reducible exact sumF_length _ | with_reducible exact climbF_length _ (by first | with_reducible assumption | with_reducible exact shortF_length _ | with_reducible exact beginF_length _ _ | with_reducible exact getD_mem_len (by assumption) (by omega)) _ _ _ | with_reducible exact beginF_length _ _ | with_reducible exact chainF_length _ _ _ | with_reducible exact recF_length _ _ | with_reducible exact publicF_length _ | with_reducible exact getD_mem_len (by assumption) (by omega) | (with_reducible exact List.length_replicate))) | rfl)) (fun _ => ?_)
    refine wpl_q (q_pure rfl) rfl ?_
    refine wpl_nil ?_
    refine ex_then ?_
    refine wpc_ret ?_
    refine ex_then_ret ?_
    refine retv2 (.inl rfl) rfl (rv_agg Tryd.underlying23 rfl Tryd.ti23 rfl (fun w h => h.atB) (by first | with_reducible rfl | (simp only [v8s_length, v32s_length, vis_length, vns_length, v64s_length, List.length_replicate]; first | done | with_reducible assumption | omega) | (rw [v8s_length]; (first | with_reducible assumption | with_reducible exact shortF_length _ | with_reducible exact stepF_length _ _ _ | with_reducible exact sumF_length _ | with_reducible exact climbF_length _ (by first | with_reducible assumption | with_reducible exact shortF_length _ | with_reducible exact beginF_length _ _ | with_reducible exact getD_mem_len (by assumption) (by omega)) _ _ _ | with_reducible exact beginF_length _ _ | with_reducible exact chainF_length _ _ _ | with_reducible exact recF_length _ _ | with_reducible exact publicF_length _ | with_reducible exact getD_mem_len (by assumption) (by omega) | (with_reducible exact List.length_replicate))) | rfl)) (rv_tmp rfl) ?_
    exact fun w h => ⟨by rw [hr], h.below⟩
  ·
    simp only [bne_eq_false_iff_eq, decide_eq_false_iff_not, ne_eq, Decidable.not_not] at hc18
    obtain ⟨m, k, rfl, rfl, hm, hk, hcl, hpl⟩ := check_spec hc18
    have hpw := pow_le16 hm
    have hr : rootF (m : Int) (k : Int) bs chs ps = upF (recF bs chs) k ps ps.length := if_pos hc18
    have he : recEr chs = 0 := if_pos hcl
    refine wpc_skip ?_
    refine ex_then ?_
    refine wpc_seq ?_
    refine wpc_region ?_
    refine wpl_q (q_pure rfl) rfl ?_
    refine wpl_q (q_field Tryd.underlying29 rfl Tryd.ti27 rfl rfl _ rfl) rfl ?_
    refine wpl_q (q_ld Tryd.underlying27 rfl rfl rfl) rfl ?_
    refine wpl_t (t_pur Tryd.hb27 rfl fun w h => recover _ _ _ _ w (by first | exact Seen.re8 h.seenV | exact Seen.reS h.seenV (by first | assumption | exact signF_all _ _ | exact sg_all _ _) (by decide) | exact Seen.reN h.seenV | exact h.seenV | exact h.seenA (by first | decide | (simp only [maxLen]; omega)) (by first | with_reducible rfl | (simp only [v8s_length, v32s_length, vis_length, vns_length, v64s_length, List.length_replicate]; first | done | with_reducible assumption | omega) | (rw [v8s_length]; (first | with_reducible assumption | with_reducible exact shortF_length _ | with_reducible exact stepF_length _ _ _ | with_reducible exact sumF_length _ | with_reducible exact climbF_length _ (by first | with_reducible assumption | with_reducible exact shortF_length _ | with_reducible exact beginF_length _ _ | with_reducible exact getD_mem_len (by assumption) (by omega)) _ _ _ | with_reducible exact beginF_length _ _ | with_reducible exact chainF_length _ _ _ | with_reducible exact recF_length _ _ | with_reducible exact publicF_length _ | with_reducible exact getD_mem_len (by assumption) (by omega) | (with_reducible exact List.length_replicate))) | rfl) | exact h.seen_old (by assumption) | exact h.seen_oldL (by assumption) (by assumption) | exact Seen.re8 (h.seen_fact (by repeat (first | exact List.mem_cons_self .. | apply List.mem_cons_of_mem))) | exact h.seen_fact (by repeat (first | exact List.mem_cons_self .. | apply List.mem_cons_of_mem))) (by first | exact Seen.re8 h.seenV | exact Seen.reS h.seenV (by first | assumption | exact signF_all _ _ | exact sg_all _ _) (by decide) | exact Seen.reN h.seenV | exact h.seenV | exact h.seenA (by first | decide | (simp only [maxLen]; omega)) (by first | with_reducible rfl | (simp only [v8s_length, v32s_length, vis_length, vns_length, v64s_length, List.length_replicate]; first | done | with_reducible assumption | omega) | (rw [v8s_length]; (first | with_reducible assumption | with_reducible exact shortF_length _ | with_reducible exact stepF_length _ _ _ | with_reducible exact sumF_length _ | with_reducible exact climbF_length _ (by first | with_reducible assumption | with_reducible exact shortF_length _ | with_reducible exact beginF_length _ _ | with_reducible exact getD_mem_len (by assumption) (by omega)) _ _ _ | with_reducible exact beginF_length _ _ | with_reducible exact chainF_length _ _ _ | with_reducible exact recF_length _ _ | with_reducible exact publicF_length _ | with_reducible exact getD_mem_len (by assumption) (by omega) | (with_reducible exact List.length_replicate))) | rfl) | exact h.seen_old (by assumption) | exact h.seen_oldL (by assumption) (by assumption) | exact Seen.re8 (h.seen_fact (by repeat (first | exact List.mem_cons_self .. | apply List.mem_cons_of_mem))) | exact h.seen_fact (by repeat (first | exact List.mem_cons_self .. | apply List.mem_cons_of_mem))) (by first | assumption | exact signF_all _ _ | exact sg_all _ _) (glob h hG)) rfl (fun b25 => ?_)
    refine wpl_q (q_pure rfl) rfl ?_
    refine wpl_q (q_pure rfl) rfl ?_
    refine wpl_q (q_pure rfl) rfl ?_
    refine wpl_t (t_alloc Tryd.ti23 (v8s (List.replicate 16 0)) (by rfl)) rfl (fun b9 => ?_)
    refine wpl_t0 (t_stA Tryd.ti23 rfl rfl (by first | with_reducible rfl | (simp only [v8s_length, v32s_length, vis_length, vns_length, v64s_length, List.length_replicate]; first | done | with_reducible assumption | omega) | (rw [v8s_length]; (first | with_reducible assumption | with_reducible exact shortF_length _ | with_reducible exact stepF_length _ _ _ | with_reducible exact sumF_length _ | with_reducible exact climbF_length _ (by first | with_reducible assumption | with_reducible exact shortF_length _ | with_reducible exact beginF_length _ _ | with_reducible exact getD_mem_len (by assumption) (by omega)) _ _ _ | with_reducible exact beginF_length _ _ | with_reducible exact chainF_length _ _ _ | with_reducible exact recF_length _ _ | with_reducible exact publicF_length _ | with_reducible exact getD_mem_len (by assumption) (by omega) | (with_reducible exact List.length_replicate))) | rfl) (v8s_one _) (by first | with_reducible rfl | (simp only [v8s_length, v32s_length, vis_length, vns_length, v64s_length, List.length_replicate]; first | done | with_reducible assumption | omega) | (rw [v8s_length]; (first | with_reducible assumption | with_reducible exact shortF_length _ | with_reducible exact stepF_length _ _ _ | with_reducible exact sumF_length _ | with_reducible exact climbF_length _ (by first | with_reducible assumption | with_reducible exact shortF_length _ | with_reducible exact beginF_length _ _ | with_reducible exact getD_mem_len (by assumption) (by omega)) _ _ _ | with_reducible exact beginF_length _ _ | with_reducible exact chainF_length _ _ _ | with_reducible exact recF_length _ _ | with_reducible exact publicF_length _ | with_reducible exact getD_mem_len (by assumption) (by omega) | (with_reducible exact List.length_replicate))) | rfl)) (fun _ => ?_)
    refine wpl_q (q_pure rfl) rfl ?_
    refine wpl_nil ?_
    refine ex_then ?_
    refine wpc_seq ?_
    refine wpc_region ?_
    refine wpl_q (q_ldN Tryd.underlying23 rfl Tryd.ti23 rfl (by first | with_reducible rfl | (simp only [v8s_length, v32s_length, vis_length, vns_length, v64s_length, List.length_replicate]; first | done | with_reducible assumption | omega) | (rw [v8s_length]; (first | with_reducible assumption | with_reducible exact shortF_length _ | with_reducible exact stepF_length _ _ _ | with_reducible exact sumF_length _ | with_reducible exact climbF_length _ (by first | with_reducible assumption | with_reducible exact shortF_length _ | with_reducible exact beginF_length _ _ | with_reducible exact getD_mem_len (by assumption) (by omega)) _ _ _ | with_reducible exact beginF_length _ _ | with_reducible exact chainF_length _ _ _ | with_reducible exact recF_length _ _ | with_reducible exact publicF_length _ | with_reducible exact getD_mem_len (by assumption) (by omega) | (with_reducible exact List.length_replicate))) | rfl)) rfl ?_
    refine wpl_q (q_field Tryd.underlying29 rfl Tryd.ti3 rfl rfl _ rfl) rfl ?_
    refine wpl_q (q_ld Tryd.underlying3 rfl rfl (by first | exact vns_get (by first | decide | omega | exact Nat.zero_lt_one | (simp; omega) | (simp only [v8s_length, v32s_length, vis_length, vns_length, v64s_length]; omega)) | rfl)) rfl ?_
    refine wpl_tp (t_callP2 Tryd.hb29 rfl fun w h => follower7 _ _ w (by (first | with_reducible assumption | with_reducible exact shortF_length _ | with_reducible exact stepF_length _ _ _ | with_reducible exact sumF_length _ | with_reducible exact climbF_length _ (by first | with_reducible assumption | with_reducible exact shortF_length _ | with_reducible exact beginF_length _ _ | with_reducible exact getD_mem_len (by assumption) (by omega)) _ _ _ | with_reducible exact beginF_length _ _ | with_reducible exact chainF_length _ _ _ | with_reducible exact recF_length _ _ | with_reducible exact publicF_length _ | with_reducible exact getD_mem_len (by assumption) (by omega) | (with_reducible exact List.length_replicate)))) rfl (fun b31 p31 => ?_)
    refine wpl_q (q_pure rfl) rfl ?_
    refine wpl_nil ?_
    refine ex_then ?_
    refine wpc_seq ?_
    refine wpc_seq ?_
    refine wpc_region ?_
    refine wpl_q (q_field Tryd.underlying29 rfl Tryd.ti27 rfl rfl _ rfl) rfl ?_
    refine wpl_q (q_ld Tryd.underlying27 rfl rfl rfl) rfl ?_
    refine wpl_q (q_lenW Tryd.underlying27 rfl (by first | assumption | exact SV.nil | exact SV.slv (by assumption) (by omega) (by omega) | exact arv_sv (by first | decide | (simp only [maxLen]; omega)))) rfl ?_
    refine wpl_q (q_pure rfl) rfl ?_
    refine wpl_nil ?_
    refine ex_then ?_
    refine wpc_block ?_
    refine wpc_loopc (ι := { x : Nat // (x ≤ ps.length) }) [(6, _), (9, _), (10, _), (11, _), (33, _), (34, _)] (fun x Lc => (35, .int .i64 ((x.1 : Nat) : Int)) :: Lc) (fun x => Mem w [] [.blk b31.1 3 [.int .i64 ((k / 2 ^ x.1 : Nat) : Int)], .blk b31.2 23 (v8s (upF (recF bs chs) k ps x.1)), .blk b9 23 (v8s (upF (recF bs chs) k ps x.1)), .blk b6 23 (v8s (List.replicate 16 0)), .blk b5 29 [.int .i64 ((k : Nat) : Int), cv, pv]] []) (fun x => ps.length - x.1) ⟨0, by first | omega | assumption | decide | exact SV.nil | (simp; done) | (dsimp only; omega)⟩ (by repeat (first | exact trivial | refine ⟨rfl, ?_⟩)) ?_ ?_
    · exact fun w h => by
        dsimp only
        rw [Nat.pow_zero, Nat.div_one, show upF (recF bs chs) k ps 0 = recF bs chs from rfl]
        exact h.sub (by repeat (first | exact Sub.nil | exact Sub.refl _ | with_reducible refine Sub.keep ?_ | refine Sub.drop ?_)) (by repeat (first | exact Sub.nil | exact Sub.refl _ | with_reducible refine Sub.keep ?_ | refine Sub.drop ?_))
    · rintro ⟨i, hi0⟩; try dsimp only
      have hi0 : i ≤ ps.length := hi0
      have hul := upF_length (recF_length bs chs) k ps i
      have hkl : k / 2 ^ i ≤ 1000 := Nat.le_trans (Nat.div_le_self _ _) (by omega)
      refine wpc_seq ?_
      refine wpc_region ?_
      refine wpl_q (q_pure rfl) rfl ?_
      refine wpl_nil ?_
      refine ex_then ?_
      refine wpc_seq ?_
      refine wpc_cond rfl (fun hc36 => ?_) (fun hc36 => ?_)
      ·
        simp only [decide_eq_true_eq] at hc36
        have hgl := getD_mem_len hlps (i := i) (by omega)
        have hsl := stepU_length (upF (recF bs chs) k ps i) (k / 2 ^ i) (ps.getD i [])
        refine wpc_skip ?_
        refine ex_then ?_
        refine wpc_seq ?_
        refine wpc_block ?_
        refine wpc_seq ?_
        refine wpc_region ?_
        refine wpl_q (q_idxW Tryd.underlying27 Tryd.ti23 rfl rfl (by first | assumption | exact SV.nil | exact SV.slv (by assumption) (by omega) (by omega) | exact arv_sv (by first | decide | (simp only [maxLen]; omega))) (by first | omega | (simp only [maxLen]; omega) | (simp only [List.length_append, List.length_cons, List.length_nil, List.length_take, maxLen]; omega) | (simp only [List.length_append, List.length_cons, List.length_nil, List.length_take]; omega))) rfl ?_
        refine wpl_q (q_ldWN Tryd.underlying23 rfl Tryd.ti23 rfl (fun w h => by first | exact h.seenV | exact h.seenA (by first | decide | (simp only [maxLen]; omega)) (by first | with_reducible rfl | (simp only [v8s_length, v32s_length, vis_length, vns_length, v64s_length, List.length_replicate]; first | done | with_reducible assumption | omega) | (rw [v8s_length]; (first | with_reducible assumption | with_reducible exact shortF_length _ | with_reducible exact stepF_length _ _ _ | with_reducible exact sumF_length _ | with_reducible exact climbF_length _ (by first | with_reducible assumption | with_reducible exact shortF_length _ | with_reducible exact beginF_length _ _ | with_reducible exact getD_mem_len (by assumption) (by omega)) _ _ _ | with_reducible exact beginF_length _ _ | with_reducible exact chainF_length _ _ _ | with_reducible exact recF_length _ _ | with_reducible exact publicF_length _ | with_reducible exact getD_mem_len (by assumption) (by omega) | (with_reducible exact List.length_replicate))) | rfl) | exact h.seen_old (by assumption) | exact h.seen_oldL (by assumption) (by assumption) | exact h.seen_fact (by repeat (first | exact List.mem_cons_self .. | apply List.mem_cons_of_mem))) (v8s (ps.getD i [])) (part8 hlps (by omega)) ((v8s_length _).trans hgl)) rfl ?_
        refine wpl_t (t_alloc Tryd.ti23 (v8s (List.replicate 16 0)) (by rfl)) rfl (fun b13 => ?_)
        refine wpl_t0 (t_stA Tryd.ti23 rfl rfl (by first | with_reducible rfl | (simp only [v8s_length, v32s_length, vis_length, vns_length, v64s_length, List.length_replicate]; first | done | with_reducible assumption | omega) | (rw [v8s_length]; (first | with_reducible assumption | with_reducible exact shortF_length _ | with_reducible exact stepF_length _ _ _ | with_reducible exact sumF_length _ | with_reducible exact climbF_length _ (by first | with_reducible assumption | with_reducible exact shortF_length _ | with_reducible exact beginF_length _ _ | with_reducible exact getD_mem_len (by assumption) (by omega)) _ _ _ | with_reducible exact beginF_length _ _ | with_reducible exact chainF_length _ _ _ | with_reducible exact recF_length _ _ | with_reducible exact publicF_length _ | with_reducible exact getD_mem_len (by assumption) (by omega) | (with_reducible exact List.length_replicate))) | rfl) (v8s_one _) (by first | with_reducible rfl | (simp only [v8s_length, v32s_length, vis_length, vns_length, v64s_length, List.length_replicate]; first | done | with_reducible assumption | omega) | (rw [v8s_length]; (first | with_reducible assumption | with_reducible exact shortF_length _ | with_reducible exact stepF_length _ _ _ | with_reducible exact sumF_length _ | with_reducible exact climbF_length _ (by first | with_reducible assumption | with_reducible exact shortF_length _ | with_reducible exact beginF_length _ _ | with_reducible exact getD_mem_len (by assumption) (by omega)) _ _ _ | with_reducible exact beginF_length _ _ | with_reducible exact chainF_length _ _ _ | with_reducible exact recF_length _ _ | with_reducible exact publicF_length _ | with_reducible exact getD_mem_len (by assumption) (by omega) | (with_reducible exact List.length_replicate))) | rfl)) (fun _ => ?_)
        refine wpl_nil ?_
        refine ex_then ?_
        refine wpc_region ?_
        refine wpl_q (q_pure rfl) rfl ?_
        refine wpl_q (q_ldN Tryd.underlying23 rfl Tryd.ti23 rfl (by first | with_reducible rfl | (simp only [v8s_length, v32s_length, vis_length, vns_length, v64s_length, List.length_replicate]; first | done | with_reducible assumption | omega) | (rw [v8s_length]; (first | with_reducible assumption | with_reducible exact shortF_length _ | with_reducible exact stepF_length _ _ _ | with_reducible exact sumF_length _ | with_reducible exact climbF_length _ (by first | with_reducible assumption | with_reducible exact shortF_length _ | with_reducible exact beginF_length _ _ | with_reducible exact getD_mem_len (by assumption) (by omega)) _ _ _ | with_reducible exact beginF_length _ _ | with_reducible exact chainF_length _ _ _ | with_reducible exact recF_length _ _ | with_reducible exact publicF_length _ | with_reducible exact getD_mem_len (by assumption) (by omega) | (with_reducible exact List.length_replicate))) | rfl)) rfl ?_
        refine wpl_t (t_turnV2 b31.1 b31.2 [.int .i64 ((k / 2 ^ i / 2 ^ 1 : Nat) : Int)] (v8s (stepU (upF (recF bs chs) k ps i) (k / 2 ^ i) (ps.getD i []))) (by decide) rfl Tryd.hb47 rfl fun w h h1 h2 hne => followed7 _ _ _ _ _ w hgl h1 h2 hne hul hkl (own_ne h hG (by repeat (first | exact List.mem_cons_self .. | apply List.mem_cons_of_mem))) (own_ne h hG (by repeat (first | exact List.mem_cons_self .. | apply List.mem_cons_of_mem))) (glob h hG)) rfl (fun b41 => ?_)
        refine wpl_t0 (t_stA Tryd.ti23 rfl rfl (by first | with_reducible rfl | (simp only [v8s_length, v32s_length, vis_length, vns_length, v64s_length, List.length_replicate]; first | done | with_reducible assumption | omega) | (rw [v8s_length]; (first | with_reducible assumption | with_reducible exact shortF_length _ | with_reducible exact stepF_length _ _ _ | with_reducible exact sumF_length _ | with_reducible exact climbF_length _ (by first | with_reducible assumption | with_reducible exact shortF_length _ | with_reducible exact beginF_length _ _ | with_reducible exact getD_mem_len (by assumption) (by omega)) _ _ _ | with_reducible exact beginF_length _ _ | with_reducible exact chainF_length _ _ _ | with_reducible exact recF_length _ _ | with_reducible exact publicF_length _ | with_reducible exact getD_mem_len (by assumption) (by omega) | (with_reducible exact List.length_replicate))) | rfl) (v8s_one _) (by first | with_reducible rfl | (simp only [v8s_length, v32s_length, vis_length, vns_length, v64s_length, List.length_replicate]; first | done | with_reducible assumption | omega) | (rw [v8s_length]; (first | with_reducible assumption | with_reducible exact shortF_length _ | with_reducible exact stepF_length _ _ _ | with_reducible exact sumF_length _ | with_reducible exact climbF_length _ (by first | with_reducible assumption | with_reducible exact shortF_length _ | with_reducible exact beginF_length _ _ | with_reducible exact getD_mem_len (by assumption) (by omega)) _ _ _ | with_reducible exact beginF_length _ _ | with_reducible exact chainF_length _ _ _ | with_reducible exact recF_length _ _ | with_reducible exact publicF_length _ | with_reducible exact getD_mem_len (by assumption) (by omega) | (with_reducible exact List.length_replicate))) | rfl)) (fun _ => ?_)
        refine wpl_nil ?_
        refine ex_block ?_
        refine ex_then ?_
        refine wpc_region ?_
        refine wpl_q (q_addN (b := 1) rfl rfl (by first | omega | (simp only [maxLen]; omega) | (simp only [List.length_append, List.length_cons, List.length_nil, List.length_take, maxLen]; omega) | (simp only [List.length_append, List.length_cons, List.length_nil, List.length_take]; omega))) rfl ?_
        refine wpl_q (q_pure rfl) rfl ?_
        refine wpl_nil ?_
        refine ex_again ⟨i + 1, by first | omega | assumption | decide | exact SV.nil | (simp; done) | (dsimp only; omega)⟩ ?_ ?_ ?_
        · exact (by repeat (first | exact trivial | refine ⟨rfl, ?_⟩))
        · exact fun w h => by
            dsimp only
            rw [div_step, show upF (recF bs chs) k ps (i + 1) = stepU (upF (recF bs chs) k ps i) (k / 2 ^ i) (ps.getD i []) from rfl]
            exact h.sub (by repeat (first | exact Sub.nil | exact Sub.refl _ | with_reducible refine Sub.keep ?_ | refine Sub.drop ?_)) (by repeat (first | exact Sub.nil | exact Sub.refl _ | with_reducible refine Sub.keep ?_ | refine Sub.drop ?_))
        · (show ps.length - (i + 1) < ps.length - i); omega
      ·
        simp only [decide_eq_false_iff_not] at hc36
        obtain rfl : i = ps.length := by omega
        refine wpc_exit ?_
        refine ex_then_exit ?_
        refine ex_then_exit ?_
        refine ex_block_hit ?_
        refine ex_then ?_
        refine wpc_seq ?_
        refine wpc_region ?_
        refine wpl_q (q_ldN Tryd.underlying23 rfl Tryd.ti23 rfl (by first | with_reducible rfl | (simp only [v8s_length, v32s_length, vis_length, vns_length, v64s_length, List.length_replicate]; first | done | with_reducible assumption | omega) | (rw [v8s_length]; (first | with_reducible assumption | with_reducible exact shortF_length _ | with_reducible exact stepF_length _ _ _ | with_reducible exact sumF_length _ | with_reducible exact climbF_length _ (by first | with_reducible assumption | with_reducible exact shortF_length _ | with_reducible exact beginF_length _ _ | with_reducible exact getD_mem_len (by assumption) (by omega)) _ _ _ | with_reducible exact beginF_length _ _ | with_reducible exact chainF_length _ _ _ | with_reducible exact recF_length _ _ | with_reducible exact publicF_length _ | with_reducible exact getD_mem_len (by assumption) (by omega) | (with_reducible exact List.length_replicate))) | rfl)) rfl ?_
        refine wpl_q (q_pure rfl) rfl ?_
        refine wpl_t0 (t_stA Tryd.ti23 rfl rfl (by first | with_reducible rfl | (simp only [v8s_length, v32s_length, vis_length, vns_length, v64s_length, List.length_replicate]; first | done | with_reducible assumption | omega) | (rw [v8s_length]; (first | with_reducible assumption | with_reducible exact shortF_length _ | with_reducible exact stepF_length _ _ _ | with_reducible exact sumF_length _ | with_reducible exact climbF_length _ (by first | with_reducible assumption | with_reducible exact shortF_length _ | with_reducible exact beginF_length _ _ | with_reducible exact getD_mem_len (by assumption) (by omega)) _ _ _ | with_reducible exact beginF_length _ _ | with_reducible exact chainF_length _ _ _ | with_reducible exact recF_length _ _ | with_reducible exact publicF_length _ | with_reducible exact getD_mem_len (by assumption) (by omega) | (with_reducible exact List.length_replicate))) | rfl) (v8s_one _) (by first | with_reducible rfl | (simp only [v8s_length, v32s_length, vis_length, vns_length, v64s_length, List.length_replicate]; first | done | with_reducible assumption | omega) | (rw [v8s_length]; (first | with_reducible assumption | with_reducible exact shortF_length _ | with_reducible exact stepF_length _ _ _ | with_reducible exact sumF_length _ | with_reducible exact climbF_length _ (by first | with_reducible assumption | with_reducible exact shortF_length _ | with_reducible exact beginF_length _ _ | with_reducible exact getD_mem_len (by assumption) (by omega)) _ _ _ | with_reducible exact beginF_length _ _ | with_reducible exact chainF_length _ _ _ | with_reducible exact recF_length _ _ | with_reducible exact publicF_length _ | with_reducible exact getD_mem_len (by assumption) (by omega) | (with_reducible exact List.length_replicate))) | rfl)) (fun _ => ?_)
        refine wpl_q (q_pure rfl) rfl ?_
        refine wpl_nil ?_
        refine ex_then ?_
        refine wpc_ret ?_
        refine retv2 (.inl rfl) rfl (rv_agg Tryd.underlying23 rfl Tryd.ti23 rfl (fun w h => h.atB) (by first | with_reducible rfl | (simp only [v8s_length, v32s_length, vis_length, vns_length, v64s_length, List.length_replicate]; first | done | with_reducible assumption | omega) | (rw [v8s_length]; (first | with_reducible assumption | with_reducible exact shortF_length _ | with_reducible exact stepF_length _ _ _ | with_reducible exact sumF_length _ | with_reducible exact climbF_length _ (by first | with_reducible assumption | with_reducible exact shortF_length _ | with_reducible exact beginF_length _ _ | with_reducible exact getD_mem_len (by assumption) (by omega)) _ _ _ | with_reducible exact beginF_length _ _ | with_reducible exact chainF_length _ _ _ | with_reducible exact recF_length _ _ | with_reducible exact publicF_length _ | with_reducible exact getD_mem_len (by assumption) (by omega) | (with_reducible exact List.length_replicate))) | rfl)) (rv_tmp rfl) ?_
        exact fun w h => ⟨by rw [hr, hc18, he]; rfl, h.below⟩

set_option maxRecDepth 100000 in
theorem verify7 (rs : List UInt8) (ht : Int) (bv : Value) (bs : List UInt8) (cv pv : Value) (chs ps : List (List UInt8)) (idx : Int) (w : World) (hrs : rs.length = 16) (hbv : Seen w.cell? bv bs.length 1 (v8s bs)) (hcv : Seen w.cell? cv chs.length 16 (v8s chs.flatten)) (hlchs : ∀ x ∈ chs, x.length = 16) (hpv : Seen w.cell? pv ps.length 16 (v8s ps.flatten)) (hlps : ∀ x ∈ ps, x.length = 16) (hG : Glb w) :
    Calls Tryd.prog 16 [.agg (v8s rs ++ [Value.int .i64 ht]).toArray, bv, .agg #[.int .i64 idx, cv, pv]].toArray w (Pur w (.bool (decide (checkF ht idx chs.length ps.length = 0 ∧ rootF ht idx bs chs ps = rs)))) := by
  have sbv := hbv.sv
  have lbv := sbv.le
  simp only [maxLen] at lbv
  have scv := hcv.sv
  have lcv := scv.le
  simp only [maxLen] at lcv
  have spv := hpv.sv
  have lpv := spv.le
  simp only [maxLen] at lpv
  have hrl := rootF_length ht idx bs chs ps
  refine enter (m := 25) (R := Mem w [] [] []) Tryd.func16 rfl rfl (Nat.le_of_ble_eq_true rfl) (Mem.start w) ?_
  refine wpc_seq ?_
  refine wpc_region ?_
  refine wpl_t (t_box rfl (v8s rs ++ [Value.int .i64 ht]) rfl) rfl (fun b3 => ?_)
  refine wpl_t (t_box rfl [.int .i64 idx, cv, pv] rfl) rfl (fun b5 => ?_)
  refine wpl_q (q_pure rfl) rfl ?_
  refine wpl_nil ?_
  refine ex_then ?_
  refine wpc_seq ?_
  refine wpc_region ?_
  refine wpl_q (q_field Tryd.underlying25 rfl Tryd.ti3 rfl rfl _ rfl) rfl ?_
  refine wpl_q (q_ld Tryd.underlying3 rfl rfl (key_height rs ht hrs)) rfl ?_
  refine wpl_q (q_pure rfl) rfl ?_
  refine wpl_q (q_ldN Tryd.underlying29 rfl Tryd.ti29 rfl (by first | with_reducible rfl | (simp only [v8s_length, v32s_length, vis_length, vns_length, v64s_length, List.length_replicate]; first | done | with_reducible assumption | omega) | (rw [v8s_length]; (first | with_reducible assumption | with_reducible exact shortF_length _ | with_reducible exact stepF_length _ _ _ | with_reducible exact sumF_length _ | with_reducible exact climbF_length _ (by first | with_reducible assumption | with_reducible exact shortF_length _ | with_reducible exact beginF_length _ _ | with_reducible exact getD_mem_len (by assumption) (by omega)) _ _ _ | with_reducible exact beginF_length _ _ | with_reducible exact chainF_length _ _ _ | with_reducible exact recF_length _ _ | with_reducible exact publicF_length _ | with_reducible exact getD_mem_len (by assumption) (by omega) | (with_reducible exact List.length_replicate))) | rfl)) rfl ?_
  refine wpl_t (t_pur Tryd.hb12 rfl fun w h => root7 _ _ _ _ _ _ _ _ w (by first | exact Seen.re8 h.seenV | exact Seen.reS h.seenV (by first | assumption | exact signF_all _ _ | exact sg_all _ _) (by decide) | exact Seen.reN h.seenV | exact h.seenV | exact h.seenA (by first | decide | (simp only [maxLen]; omega)) (by first | with_reducible rfl | (simp only [v8s_length, v32s_length, vis_length, vns_length, v64s_length, List.length_replicate]; first | done | with_reducible assumption | omega) | (rw [v8s_length]; (first | with_reducible assumption | with_reducible exact shortF_length _ | with_reducible exact stepF_length _ _ _ | with_reducible exact sumF_length _ | with_reducible exact climbF_length _ (by first | with_reducible assumption | with_reducible exact shortF_length _ | with_reducible exact beginF_length _ _ | with_reducible exact getD_mem_len (by assumption) (by omega)) _ _ _ | with_reducible exact beginF_length _ _ | with_reducible exact chainF_length _ _ _ | with_reducible exact recF_length _ _ | with_reducible exact publicF_length _ | with_reducible exact getD_mem_len (by assumption) (by omega) | (with_reducible exact List.length_replicate))) | rfl) | exact h.seen_old (by assumption) | exact h.seen_oldL (by assumption) (by assumption) | exact Seen.re8 (h.seen_fact (by repeat (first | exact List.mem_cons_self .. | apply List.mem_cons_of_mem))) | exact h.seen_fact (by repeat (first | exact List.mem_cons_self .. | apply List.mem_cons_of_mem))) (by first | exact Seen.re8 h.seenV | exact Seen.reS h.seenV (by first | assumption | exact signF_all _ _ | exact sg_all _ _) (by decide) | exact Seen.reN h.seenV | exact h.seenV | exact h.seenA (by first | decide | (simp only [maxLen]; omega)) (by first | with_reducible rfl | (simp only [v8s_length, v32s_length, vis_length, vns_length, v64s_length, List.length_replicate]; first | done | with_reducible assumption | omega) | (rw [v8s_length]; (first | with_reducible assumption | with_reducible exact shortF_length _ | with_reducible exact stepF_length _ _ _ | with_reducible exact sumF_length _ | with_reducible exact climbF_length _ (by first | with_reducible assumption | with_reducible exact shortF_length _ | with_reducible exact beginF_length _ _ | with_reducible exact getD_mem_len (by assumption) (by omega)) _ _ _ | with_reducible exact beginF_length _ _ | with_reducible exact chainF_length _ _ _ | with_reducible exact recF_length _ _ | with_reducible exact publicF_length _ | with_reducible exact getD_mem_len (by assumption) (by omega) | (with_reducible exact List.length_replicate))) | rfl) | exact h.seen_old (by assumption) | exact h.seen_oldL (by assumption) (by assumption) | exact Seen.re8 (h.seen_fact (by repeat (first | exact List.mem_cons_self .. | apply List.mem_cons_of_mem))) | exact h.seen_fact (by repeat (first | exact List.mem_cons_self .. | apply List.mem_cons_of_mem))) (by first | assumption | exact signF_all _ _ | exact sg_all _ _) (by first | exact Seen.re8 h.seenV | exact Seen.reS h.seenV (by first | assumption | exact signF_all _ _ | exact sg_all _ _) (by decide) | exact Seen.reN h.seenV | exact h.seenV | exact h.seenA (by first | decide | (simp only [maxLen]; omega)) (by first | with_reducible rfl | (simp only [v8s_length, v32s_length, vis_length, vns_length, v64s_length, List.length_replicate]; first | done | with_reducible assumption | omega) | (rw [v8s_length]; (first | with_reducible assumption | with_reducible exact shortF_length _ | with_reducible exact stepF_length _ _ _ | with_reducible exact sumF_length _ | with_reducible exact climbF_length _ (by first | with_reducible assumption | with_reducible exact shortF_length _ | with_reducible exact beginF_length _ _ | with_reducible exact getD_mem_len (by assumption) (by omega)) _ _ _ | with_reducible exact beginF_length _ _ | with_reducible exact chainF_length _ _ _ | with_reducible exact recF_length _ _ | with_reducible exact publicF_length _ | with_reducible exact getD_mem_len (by assumption) (by omega) | (with_reducible exact List.length_replicate))) | rfl) | exact h.seen_old (by assumption) | exact h.seen_oldL (by assumption) (by assumption) | exact Seen.re8 (h.seen_fact (by repeat (first | exact List.mem_cons_self .. | apply List.mem_cons_of_mem))) | exact h.seen_fact (by repeat (first | exact List.mem_cons_self .. | apply List.mem_cons_of_mem))) (by first | assumption | exact signF_all _ _ | exact sg_all _ _) (glob h hG)) rfl (fun b14 => ?_)
  refine wpl_q (q_pure rfl) rfl ?_
  refine wpl_q (q_pure rfl) rfl ?_
  refine wpl_q (q_pure rfl) rfl ?_
  refine wpl_t (t_alloc Tryd.ti23 (v8s (List.replicate 16 0)) (by rfl)) rfl (fun b7 => ?_)
  refine wpl_t0 (t_stA Tryd.ti23 rfl rfl (by first | with_reducible rfl | (simp only [v8s_length, v32s_length, vis_length, vns_length, v64s_length, List.length_replicate]; first | done | with_reducible assumption | omega) | (rw [v8s_length]; (first | with_reducible assumption | with_reducible exact shortF_length _ | with_reducible exact stepF_length _ _ _ | with_reducible exact sumF_length _ | with_reducible exact climbF_length _ (by first | with_reducible assumption | with_reducible exact shortF_length _ | with_reducible exact beginF_length _ _ | with_reducible exact getD_mem_len (by assumption) (by omega)) _ _ _ | with_reducible exact beginF_length _ _ | with_reducible exact chainF_length _ _ _ | with_reducible exact recF_length _ _ | with_reducible exact publicF_length _ | with_reducible exact getD_mem_len (by assumption) (by omega) | (with_reducible exact List.length_replicate))) | rfl) (v8s_one _) (by first | with_reducible rfl | (simp only [v8s_length, v32s_length, vis_length, vns_length, v64s_length, List.length_replicate]; first | done | with_reducible assumption | omega) | (rw [v8s_length]; (first | with_reducible assumption | with_reducible exact shortF_length _ | with_reducible exact stepF_length _ _ _ | with_reducible exact sumF_length _ | with_reducible exact climbF_length _ (by first | with_reducible assumption | with_reducible exact shortF_length _ | with_reducible exact beginF_length _ _ | with_reducible exact getD_mem_len (by assumption) (by omega)) _ _ _ | with_reducible exact beginF_length _ _ | with_reducible exact chainF_length _ _ _ | with_reducible exact recF_length _ _ | with_reducible exact publicF_length _ | with_reducible exact getD_mem_len (by assumption) (by omega) | (with_reducible exact List.length_replicate))) | rfl)) (fun _ => ?_)
  refine wpl_q (q_pure rfl) rfl ?_
  refine wpl_nil ?_
  refine ex_then ?_
  refine wpc_seq ?_
  refine wpc_region ?_
  refine wpl_q (q_pure rfl) rfl ?_
  refine wpl_q (q_pure rfl) rfl ?_
  refine wpl_q (q_pure rfl) rfl ?_
  refine wpl_bool2 19 18 rfl rfl (fun hb19 => ?_) (fun hb19 => ?_)
  ·
    try simp only [decide_eq_true_eq, decide_eq_false_iff_not, Bool.and_eq_true, Bool.or_eq_true, beq_iff_eq, bne_iff_ne, ne_eq, Bool.not_eq_true', Bool.not_eq_false', Decidable.not_not] at hb19
    refine wpl_on rfl rfl ?_
    refine wpl_q (q_ldN Tryd.underlying23 rfl Tryd.ti23 rfl (by first | with_reducible rfl | (simp only [v8s_length, v32s_length, vis_length, vns_length, v64s_length, List.length_replicate]; first | done | with_reducible assumption | omega) | (rw [v8s_length]; (first | with_reducible assumption | with_reducible exact shortF_length _ | with_reducible exact stepF_length _ _ _ | with_reducible exact sumF_length _ | with_reducible exact climbF_length _ (by first | with_reducible assumption | with_reducible exact shortF_length _ | with_reducible exact beginF_length _ _ | with_reducible exact getD_mem_len (by assumption) (by omega)) _ _ _ | with_reducible exact beginF_length _ _ | with_reducible exact chainF_length _ _ _ | with_reducible exact recF_length _ _ | with_reducible exact publicF_length _ | with_reducible exact getD_mem_len (by assumption) (by omega) | (with_reducible exact List.length_replicate))) | rfl)) rfl ?_
    refine wpl_on rfl rfl ?_
    refine wpl_q (q_field Tryd.underlying25 rfl Tryd.ti23 rfl rfl _ rfl) rfl ?_
    refine wpl_on rfl rfl ?_
    refine wpl_q (q_ldP Tryd.underlying23 rfl Tryd.ti23 rfl (v8s rs) (key_root rs ht hrs) ((v8s_length _).trans hrs)) rfl ?_
    refine wpl_on rfl rfl ?_
    refine wpl_q (q_eq8 eq8_23 (by kernel_rfl) rfl rfl (by first | (first | with_reducible assumption | with_reducible exact shortF_length _ | with_reducible exact stepF_length _ _ _ | with_reducible exact sumF_length _ | with_reducible exact climbF_length _ (by first | with_reducible assumption | with_reducible exact shortF_length _ | with_reducible exact beginF_length _ _ | with_reducible exact getD_mem_len (by assumption) (by omega)) _ _ _ | with_reducible exact beginF_length _ _ | with_reducible exact chainF_length _ _ _ | with_reducible exact recF_length _ _ | with_reducible exact publicF_length _ | with_reducible exact getD_mem_len (by assumption) (by omega) | (with_reducible exact List.length_replicate)) | simp) (by first | (first | with_reducible assumption | with_reducible exact shortF_length _ | with_reducible exact stepF_length _ _ _ | with_reducible exact sumF_length _ | with_reducible exact climbF_length _ (by first | with_reducible assumption | with_reducible exact shortF_length _ | with_reducible exact beginF_length _ _ | with_reducible exact getD_mem_len (by assumption) (by omega)) _ _ _ | with_reducible exact beginF_length _ _ | with_reducible exact chainF_length _ _ _ | with_reducible exact recF_length _ _ | with_reducible exact publicF_length _ | with_reducible exact getD_mem_len (by assumption) (by omega) | (with_reducible exact List.length_replicate)) | simp)) rfl ?_
    refine wpl_q (q_pure rfl) rfl ?_
    refine wpl_q (q_pure rfl) rfl ?_
    refine wpl_nil ?_
    refine ex_then ?_
    refine wpc_ret ?_
    refine ret1 (.inl rfl) rfl rfl ?_
    exact fun w h => ⟨by simp [hb19], h.below⟩
  ·
    simp only [beq_eq_false_iff_ne, ne_eq] at hb19
    refine wpl_off rfl rfl rfl rfl ?_
    refine wpl_off rfl rfl rfl rfl ?_
    refine wpl_off rfl rfl rfl rfl ?_
    refine wpl_off rfl rfl rfl rfl ?_
    refine wpl_q (q_pure rfl) rfl ?_
    refine wpl_q (q_pure rfl) rfl ?_
    refine wpl_nil ?_
    refine ex_then ?_
    refine wpc_ret ?_
    refine ret1 (.inl rfl) rfl rfl ?_
    exact fun w h => ⟨by simp [hb19], h.below⟩

end Go.Proofs.YtbkgfndojlhdoaaDoor
