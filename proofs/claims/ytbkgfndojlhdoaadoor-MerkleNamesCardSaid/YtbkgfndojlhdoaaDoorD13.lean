/- One-time signatures: the program. -/
import Derived.Test.YtbkgfndojlhdoaaDoorD12
namespace Go.Proofs.YtbkgfndojlhdoaaDoor
set_option linter.unusedSimpArgs false
set_option linter.unusedVariables false
open Go Go.PL Go.RowKit

def accF (E : Nat → List UInt8) : Nat → List UInt8
  | 0 => []
  | i + 1 => accF E i ++ E i
theorem accF_length (E : Nat → List UInt8) (h : ∀ i, (E i).length = 16) : ∀ n, (accF E n).length = 16 * n
  | 0 => rfl
  | n + 1 => by rw [accF, List.length_append, accF_length E h n, h]; omega
theorem accF_flat (E : Nat → List UInt8) : ∀ n, ((List.range n).map E).flatten = accF E n
  | 0 => rfl
  | n + 1 => by rw [List.range_succ, List.map_append, List.flatten_append, accF_flat E n, accF]; simp
def publicF (s : List UInt8) : List UInt8 := shortF (accF (fun i => chainF s i 15) 35)
def dig (m : List UInt8) (i : Nat) : Nat := (digsF (shortF m)).getD i 0
def sg (s m : List UInt8) (n : Nat) : List (List UInt8) := (List.range n).map fun i => chainF s i (dig m i)
def signF (s m : List UInt8) : List (List UInt8) := sg s m 35
def recE (m : List UInt8) (chs : List (List UInt8)) (i : Nat) : List UInt8 := climbF (chs.getD i []) i (dig m i) (15 - dig m i)
def recF (m : List UInt8) (chs : List (List UInt8)) : List UInt8 := if chs.length = 35 then shortF (accF (recE m chs) 35) else List.replicate 16 0
def recEr (chs : List (List UInt8)) : Int := if chs.length = 35 then 0 else 12
theorem sg_all (s m : List UInt8) (n : Nat) : ∀ x ∈ sg s m n, x.length = 16 := by
  intro x hx
  obtain ⟨i, _, rfl⟩ := List.mem_map.1 hx
  exact chainF_length _ _ _
theorem signF_all (s m : List UInt8) : ∀ x ∈ signF s m, x.length = 16 := sg_all s m 35
theorem sg_length (s m : List UInt8) (n : Nat) : (sg s m n).length = n := by simp [sg]
theorem signF_length (s m : List UInt8) : (signF s m).length = 35 := sg_length s m 35
theorem sg_succ (s m : List UInt8) (n : Nat) : sg s m (n + 1) = sg s m n ++ [chainF s n (dig m n)] := by simp [sg, List.range_succ]
theorem dig_le (m : List UInt8) (i : Nat) : dig m i ≤ 15 := by
  have hd := dsum_le (shortF m) 32
  have : ∀ x ∈ digsF (shortF m), x ≤ 15 := by
    intro x hx
    unfold digsF at hx
    rcases List.mem_append.1 hx with hx | hx
    · obtain ⟨k, _, rfl⟩ := List.mem_map.1 hx
      exact digN_le _ _
    · simp only [List.mem_cons, List.not_mem_nil, or_false] at hx
      omega
  unfold dig
  rw [List.getD_eq_getElem?_getD]
  cases h : (digsF (shortF m))[i]? with
  | none => exact Nat.zero_le _
  | some x => exact this x (List.mem_of_getElem? h)
theorem recE_length (m : List UInt8) (chs : List (List UInt8)) (h : ∀ x ∈ chs, x.length = 16) (i : Nat) (hi : i < chs.length) : (recE m chs i).length = 16 := by
  rw [recE]; exact climbF_length _ (getD_mem_len h hi) _ _ _
theorem recF_length (m : List UInt8) (chs : List (List UInt8)) : (recF m chs).length = 16 := by
  unfold recF
  split
  · exact shortF_length _
  · exact List.length_replicate
theorem publicF_length (s : List UInt8) : (publicF s).length = 16 := by rw [publicF]; exact shortF_length _
theorem accF_len16 (E : Nat → List UInt8) (n : Nat) (h : ∀ i, i < n → (E i).length = 16) : ∀ k, k ≤ n → (accF E k).length = 16 * k
  | 0, _ => rfl
  | k + 1, hk => by rw [accF, List.length_append, accF_len16 E n h k (by omega), h k (by omega)]; omega
theorem accF_congr (E F : Nat → List UInt8) (n : Nat) (h : ∀ i, i < n → E i = F i) : ∀ k, k ≤ n → accF E k = accF F k
  | 0, _ => rfl
  | k + 1, hk => by rw [accF, accF, accF_congr E F n h k (by omega), h k (by omega)]

set_option maxRecDepth 100000 in
theorem step (xs : List UInt8) (i : Nat) (j : Nat) (w : World) (hxs : xs.length = 16) (hG : Glb w) :
    Calls Tryd.prog 58 [.agg (v8s xs).toArray, .int .i64 ((i : Nat) : Int), .int .i64 ((j : Nat) : Int)].toArray w (Pur w (.agg (v8s (stepF xs i j)).toArray)) := by
  refine enter (m := 15) (R := Mem w [] [] []) Tryd.func58 rfl rfl (Nat.le_of_ble_eq_true rfl) (Mem.start w) ?_
  refine wpc_seq ?_
  refine wpc_region ?_
  refine wpl_t (t_box rfl (v8s xs) rfl) rfl (fun b3 => ?_)
  refine wpl_t (t_alloc Tryd.ti23 (v8s (List.replicate 16 0)) (by rfl)) rfl (fun b6 => ?_)
  refine wpl_nil ?_
  refine ex_then ?_
  refine wpc_seq ?_
  refine wpc_region ?_
  refine wpl_q (q_arAll Tryd.underlying23 Tryd.ti5 rfl rfl) rfl ?_
  refine wpl_q (q_pure rfl) rfl ?_
  refine wpl_q (q8_conv Tryd.underlying3 Tryd.underlying5 rfl) rfl ?_
  refine wpl_q (q_pure rfl) rfl ?_
  refine wpl_q (q8_conv Tryd.underlying3 Tryd.underlying5 rfl) rfl ?_
  refine wpl_tp (t_bsV (v8s [_, _]) Tryd.underlying26 Tryd.ti5 rfl rfl (by decide) (by decide) rfl (v8s_one _)) rfl (fun b12 p12 => ?_)
  refine wpl_tp (t_apF Tryd.underlying26 Tryd.ti5 rfl rfl rfl (fun w h => by first | exact h.seenV | exact h.seenA (by first | decide | (simp only [maxLen]; omega)) (by first | with_reducible rfl | (simp only [v8s_length, v32s_length, vis_length, vns_length, v64s_length, List.length_replicate]; first | done | with_reducible assumption | omega) | (rw [v8s_length]; (first | with_reducible assumption | with_reducible exact shortF_length _ | with_reducible exact stepF_length _ _ _ | with_reducible exact sumF_length _ | with_reducible exact climbF_length _ (by first | with_reducible assumption | with_reducible exact shortF_length _ | with_reducible exact beginF_length _ _ | with_reducible exact getD_mem_len (by assumption) (by omega)) _ _ _ | with_reducible exact beginF_length _ _ | with_reducible exact chainF_length _ _ _ | with_reducible exact getD_mem_len (by assumption) (by omega) | (with_reducible exact List.length_replicate))) | rfl) | exact h.seen_old (by assumption) | exact h.seen_oldL (by assumption) (by assumption) | exact h.seen_fact (by repeat (first | exact List.mem_cons_self .. | apply List.mem_cons_of_mem))) (fun w h => by first | exact h.seenV | exact h.seenA (by first | decide | (simp only [maxLen]; omega)) (by first | with_reducible rfl | (simp only [v8s_length, v32s_length, vis_length, vns_length, v64s_length, List.length_replicate]; first | done | with_reducible assumption | omega) | (rw [v8s_length]; (first | with_reducible assumption | with_reducible exact shortF_length _ | with_reducible exact stepF_length _ _ _ | with_reducible exact sumF_length _ | with_reducible exact climbF_length _ (by first | with_reducible assumption | with_reducible exact shortF_length _ | with_reducible exact beginF_length _ _ | with_reducible exact getD_mem_len (by assumption) (by omega)) _ _ _ | with_reducible exact beginF_length _ _ | with_reducible exact chainF_length _ _ _ | with_reducible exact getD_mem_len (by assumption) (by omega) | (with_reducible exact List.length_replicate))) | rfl) | exact h.seen_old (by assumption) | exact h.seen_oldL (by assumption) (by assumption) | exact h.seen_fact (by repeat (first | exact List.mem_cons_self .. | apply List.mem_cons_of_mem))) (by first | omega | (simp only [maxLen]; omega)) (by first | omega | (simp only [maxLen]; omega)) (by first | omega | (simp only [maxLen]; omega)) _ (by first | with_reducible exact List.nil_append _ | exact (v8s_append _ _).symm | exact (vis_append _ _).symm | exact (vns_append _ _).symm | exact (v64s_append _ _).symm | exact (v32s_append _ _).symm | rfl)) rfl (fun b13 p13 => ?_)
  refine wpl_t (t_pur Tryd.hb28 rfl fun w h => shortW _ _ w (by first | exact Seen.re8 h.seenV | exact Seen.reS h.seenV (by first | assumption | exact signF_all _ _ | exact sg_all _ _) (by decide) | exact Seen.reN h.seenV | exact h.seenV | exact h.seenA (by first | decide | (simp only [maxLen]; omega)) (by first | with_reducible rfl | (simp only [v8s_length, v32s_length, vis_length, vns_length, v64s_length, List.length_replicate]; first | done | with_reducible assumption | omega) | (rw [v8s_length]; (first | with_reducible assumption | with_reducible exact shortF_length _ | with_reducible exact stepF_length _ _ _ | with_reducible exact sumF_length _ | with_reducible exact climbF_length _ (by first | with_reducible assumption | with_reducible exact shortF_length _ | with_reducible exact beginF_length _ _ | with_reducible exact getD_mem_len (by assumption) (by omega)) _ _ _ | with_reducible exact beginF_length _ _ | with_reducible exact chainF_length _ _ _ | with_reducible exact getD_mem_len (by assumption) (by omega) | (with_reducible exact List.length_replicate))) | rfl) | exact h.seen_old (by assumption) | exact h.seen_oldL (by assumption) (by assumption) | exact h.seen_fact (by repeat (first | exact List.mem_cons_self .. | apply List.mem_cons_of_mem))) (glob h hG)) rfl (fun b14 => ?_)
  refine wpl_t0 (t_stA Tryd.ti23 rfl rfl (by first | with_reducible rfl | (simp only [v8s_length, v32s_length, vis_length, vns_length, v64s_length, List.length_replicate]; first | done | with_reducible assumption | omega) | (rw [v8s_length]; (first | with_reducible assumption | with_reducible exact shortF_length _ | with_reducible exact stepF_length _ _ _ | with_reducible exact sumF_length _ | with_reducible exact climbF_length _ (by first | with_reducible assumption | with_reducible exact shortF_length _ | with_reducible exact beginF_length _ _ | with_reducible exact getD_mem_len (by assumption) (by omega)) _ _ _ | with_reducible exact beginF_length _ _ | with_reducible exact chainF_length _ _ _ | with_reducible exact getD_mem_len (by assumption) (by omega) | (with_reducible exact List.length_replicate))) | rfl) (v8s_one _) (by first | with_reducible rfl | (simp only [v8s_length, v32s_length, vis_length, vns_length, v64s_length, List.length_replicate]; first | done | with_reducible assumption | omega) | (rw [v8s_length]; (first | with_reducible assumption | with_reducible exact shortF_length _ | with_reducible exact stepF_length _ _ _ | with_reducible exact sumF_length _ | with_reducible exact climbF_length _ (by first | with_reducible assumption | with_reducible exact shortF_length _ | with_reducible exact beginF_length _ _ | with_reducible exact getD_mem_len (by assumption) (by omega)) _ _ _ | with_reducible exact beginF_length _ _ | with_reducible exact chainF_length _ _ _ | with_reducible exact getD_mem_len (by assumption) (by omega) | (with_reducible exact List.length_replicate))) | rfl)) (fun _ => ?_)
  refine wpl_nil ?_
  refine ex_then ?_
  refine wpc_ret ?_
  refine retv1 (.inl rfl) rfl (rv_agg Tryd.underlying23 rfl Tryd.ti23 rfl (fun w h => h.atB) (by first | with_reducible rfl | (simp only [v8s_length, v32s_length, vis_length, vns_length, v64s_length, List.length_replicate]; first | done | with_reducible assumption | omega) | (rw [v8s_length]; (first | with_reducible assumption | with_reducible exact shortF_length _ | with_reducible exact stepF_length _ _ _ | with_reducible exact sumF_length _ | with_reducible exact climbF_length _ (by first | with_reducible assumption | with_reducible exact shortF_length _ | with_reducible exact beginF_length _ _ | with_reducible exact getD_mem_len (by assumption) (by omega)) _ _ _ | with_reducible exact beginF_length _ _ | with_reducible exact chainF_length _ _ _ | with_reducible exact getD_mem_len (by assumption) (by omega) | (with_reducible exact List.length_replicate))) | rfl)) ?_
  exact fun w h => ⟨rfl, h.below⟩

set_option maxRecDepth 100000 in
theorem climb (xs : List UInt8) (i : Nat) (f : Nat) (t : Nat) (w : World) (hxs : xs.length = 16) (hG : Glb w) (hf : f ≤ 1000) (ht : t ≤ 1000) :
    Calls Tryd.prog 45 [.agg (v8s xs).toArray, .int .i64 ((i : Nat) : Int), .int .i64 ((f : Nat) : Int), .int .i64 ((t : Nat) : Int)].toArray w (Pur w (.agg (v8s (climbF xs i f (t - f))).toArray)) := by
  refine enter (m := 21) (R := Mem w [] [] []) Tryd.func45 rfl rfl (Nat.le_of_ble_eq_true rfl) (Mem.start w) ?_
  refine wpc_seq ?_
  refine wpc_region ?_
  refine wpl_t (t_box rfl (v8s xs) rfl) rfl (fun b4 => ?_)
  refine wpl_t (t_alloc Tryd.ti23 (v8s (List.replicate 16 0)) (by rfl)) rfl (fun b8 => ?_)
  refine wpl_nil ?_
  refine ex_then ?_
  refine wpc_seq ?_
  refine wpc_seq ?_
  refine wpc_region ?_
  refine wpl_q (q_pure rfl) rfl ?_
  refine wpl_q (q_pure rfl) rfl ?_
  refine wpl_nil ?_
  refine ex_then ?_
  refine wpc_block ?_
  refine wpc_loopc (ι := { x : Nat // (x ≤ t - f) }) [(1, _), (3, _), (4, _), (8, _)] (fun x Lc => (9, .int .i64 ((f + x.1 : Nat) : Int)) :: Lc) (fun x => Mem w [] [.blk b8 23 (v8s (List.replicate 16 0)), .blk b4 23 (v8s (climbF xs i f x.1))] []) (fun x => t - f - x.1) ⟨0, by first | omega | assumption | decide | exact SV.nil | (simp; done) | (dsimp only; omega)⟩ (by repeat (first | exact trivial | refine ⟨rfl, ?_⟩)) ?_ ?_
  · exact fun w h => h
  · rintro ⟨n, hi0⟩; dsimp only
    have hi0 : n ≤ t - f := hi0
    have hcl := climbF_length xs hxs i f n
    refine wpc_seq ?_
    refine wpc_seq ?_
    refine wpc_region ?_
    refine wpl_q (q_pure rfl) rfl ?_
    refine wpl_q (q_pure rfl) rfl ?_
    refine wpl_q (q_pure rfl) rfl ?_
    refine wpl_nil ?_
    refine ex_then ?_
    refine wpc_cond rfl (fun hc13 => ?_) (fun hc13 => ?_)
    ·
      simp only [decide_eq_true_eq] at hc13
      refine wpc_skip ?_
      refine ex_then ?_
      refine wpc_seq ?_
      refine wpc_block ?_
      refine wpc_region ?_
      refine wpl_q (q_ldN Tryd.underlying23 rfl Tryd.ti23 rfl (by first | with_reducible rfl | (simp only [v8s_length, v32s_length, vis_length, vns_length, v64s_length, List.length_replicate]; first | done | with_reducible assumption | omega) | (rw [v8s_length]; (first | with_reducible assumption | with_reducible exact shortF_length _ | with_reducible exact stepF_length _ _ _ | with_reducible exact sumF_length _ | with_reducible exact climbF_length _ (by first | with_reducible assumption | with_reducible exact shortF_length _ | with_reducible exact beginF_length _ _ | with_reducible exact getD_mem_len (by assumption) (by omega)) _ _ _ | with_reducible exact beginF_length _ _ | with_reducible exact chainF_length _ _ _ | with_reducible exact getD_mem_len (by assumption) (by omega) | (with_reducible exact List.length_replicate))) | rfl)) rfl ?_
      refine wpl_q (q_pure rfl) rfl ?_
      refine wpl_q (q_pure rfl) rfl ?_
      refine wpl_t (t_pur Tryd.hb58 rfl fun w h => step _ _ _ w (by (first | with_reducible assumption | with_reducible exact shortF_length _ | with_reducible exact stepF_length _ _ _ | with_reducible exact sumF_length _ | with_reducible exact climbF_length _ (by first | with_reducible assumption | with_reducible exact shortF_length _ | with_reducible exact beginF_length _ _ | with_reducible exact getD_mem_len (by assumption) (by omega)) _ _ _ | with_reducible exact beginF_length _ _ | with_reducible exact chainF_length _ _ _ | with_reducible exact getD_mem_len (by assumption) (by omega) | (with_reducible exact List.length_replicate))) (glob h hG)) rfl (fun b19 => ?_)
      refine wpl_t0 (t_stA Tryd.ti23 rfl rfl (by first | with_reducible rfl | (simp only [v8s_length, v32s_length, vis_length, vns_length, v64s_length, List.length_replicate]; first | done | with_reducible assumption | omega) | (rw [v8s_length]; (first | with_reducible assumption | with_reducible exact shortF_length _ | with_reducible exact stepF_length _ _ _ | with_reducible exact sumF_length _ | with_reducible exact climbF_length _ (by first | with_reducible assumption | with_reducible exact shortF_length _ | with_reducible exact beginF_length _ _ | with_reducible exact getD_mem_len (by assumption) (by omega)) _ _ _ | with_reducible exact beginF_length _ _ | with_reducible exact chainF_length _ _ _ | with_reducible exact getD_mem_len (by assumption) (by omega) | (with_reducible exact List.length_replicate))) | rfl) (v8s_one _) (by first | with_reducible rfl | (simp only [v8s_length, v32s_length, vis_length, vns_length, v64s_length, List.length_replicate]; first | done | with_reducible assumption | omega) | (rw [v8s_length]; (first | with_reducible assumption | with_reducible exact shortF_length _ | with_reducible exact stepF_length _ _ _ | with_reducible exact sumF_length _ | with_reducible exact climbF_length _ (by first | with_reducible assumption | with_reducible exact shortF_length _ | with_reducible exact beginF_length _ _ | with_reducible exact getD_mem_len (by assumption) (by omega)) _ _ _ | with_reducible exact beginF_length _ _ | with_reducible exact chainF_length _ _ _ | with_reducible exact getD_mem_len (by assumption) (by omega) | (with_reducible exact List.length_replicate))) | rfl)) (fun _ => ?_)
      refine wpl_nil ?_
      refine ex_block ?_
      refine ex_then ?_
      refine wpc_region ?_
      refine wpl_q (q_pure rfl) rfl ?_
      refine wpl_q (q_addN (b := 1) rfl rfl (by first | omega | (simp only [maxLen]; omega))) rfl ?_
      refine wpl_q (q_pure rfl) rfl ?_
      refine wpl_nil ?_
      refine ex_again ⟨n + 1, by first | omega | assumption | decide | exact SV.nil | (simp; done) | (dsimp only; omega)⟩ ?_ ?_ ?_
      · exact (by repeat (first | exact trivial | refine ⟨rfl, ?_⟩))
      · exact fun w h => by first | exact h | exact h.sub (by repeat (first | exact Sub.nil | exact Sub.refl _ | with_reducible refine Sub.keep ?_ | refine Sub.drop ?_)) (by repeat (first | exact Sub.nil | exact Sub.refl _ | with_reducible refine Sub.keep ?_ | refine Sub.drop ?_))
      · (show t - f - (n + 1) < t - f - n); omega
    ·
      simp only [decide_eq_false_iff_not] at hc13
      obtain rfl : n = t - f := by omega
      refine wpc_exit ?_
      refine ex_then_exit ?_
      refine ex_then_exit ?_
      refine ex_block_hit ?_
      refine ex_then ?_
      refine wpc_seq ?_
      refine wpc_region ?_
      refine wpl_q (q_ldN Tryd.underlying23 rfl Tryd.ti23 rfl (by first | with_reducible rfl | (simp only [v8s_length, v32s_length, vis_length, vns_length, v64s_length, List.length_replicate]; first | done | with_reducible assumption | omega) | (rw [v8s_length]; (first | with_reducible assumption | with_reducible exact shortF_length _ | with_reducible exact stepF_length _ _ _ | with_reducible exact sumF_length _ | with_reducible exact climbF_length _ (by first | with_reducible assumption | with_reducible exact shortF_length _ | with_reducible exact beginF_length _ _ | with_reducible exact getD_mem_len (by assumption) (by omega)) _ _ _ | with_reducible exact beginF_length _ _ | with_reducible exact chainF_length _ _ _ | with_reducible exact getD_mem_len (by assumption) (by omega) | (with_reducible exact List.length_replicate))) | rfl)) rfl ?_
      refine wpl_t0 (t_stA Tryd.ti23 rfl rfl (by first | with_reducible rfl | (simp only [v8s_length, v32s_length, vis_length, vns_length, v64s_length, List.length_replicate]; first | done | with_reducible assumption | omega) | (rw [v8s_length]; (first | with_reducible assumption | with_reducible exact shortF_length _ | with_reducible exact stepF_length _ _ _ | with_reducible exact sumF_length _ | with_reducible exact climbF_length _ (by first | with_reducible assumption | with_reducible exact shortF_length _ | with_reducible exact beginF_length _ _ | with_reducible exact getD_mem_len (by assumption) (by omega)) _ _ _ | with_reducible exact beginF_length _ _ | with_reducible exact chainF_length _ _ _ | with_reducible exact getD_mem_len (by assumption) (by omega) | (with_reducible exact List.length_replicate))) | rfl) (v8s_one _) (by first | with_reducible rfl | (simp only [v8s_length, v32s_length, vis_length, vns_length, v64s_length, List.length_replicate]; first | done | with_reducible assumption | omega) | (rw [v8s_length]; (first | with_reducible assumption | with_reducible exact shortF_length _ | with_reducible exact stepF_length _ _ _ | with_reducible exact sumF_length _ | with_reducible exact climbF_length _ (by first | with_reducible assumption | with_reducible exact shortF_length _ | with_reducible exact beginF_length _ _ | with_reducible exact getD_mem_len (by assumption) (by omega)) _ _ _ | with_reducible exact beginF_length _ _ | with_reducible exact chainF_length _ _ _ | with_reducible exact getD_mem_len (by assumption) (by omega) | (with_reducible exact List.length_replicate))) | rfl)) (fun _ => ?_)
      refine wpl_nil ?_
      refine ex_then ?_
      refine wpc_ret ?_
      refine retv1 (.inl rfl) rfl (rv_agg Tryd.underlying23 rfl Tryd.ti23 rfl (fun w h => h.atB) (by first | with_reducible rfl | (simp only [v8s_length, v32s_length, vis_length, vns_length, v64s_length, List.length_replicate]; first | done | with_reducible assumption | omega) | (rw [v8s_length]; (first | with_reducible assumption | with_reducible exact shortF_length _ | with_reducible exact stepF_length _ _ _ | with_reducible exact sumF_length _ | with_reducible exact climbF_length _ (by first | with_reducible assumption | with_reducible exact shortF_length _ | with_reducible exact beginF_length _ _ | with_reducible exact getD_mem_len (by assumption) (by omega)) _ _ _ | with_reducible exact beginF_length _ _ | with_reducible exact chainF_length _ _ _ | with_reducible exact getD_mem_len (by assumption) (by omega) | (with_reducible exact List.length_replicate))) | rfl)) ?_
      exact fun w h => ⟨rfl, h.below⟩

set_option maxRecDepth 100000 in
theorem begin_ (xs : List UInt8) (i : Nat) (w : World) (hxs : xs.length = 16) (hG : Glb w) :
    Calls Tryd.prog 55 [.agg (v8s xs).toArray, .int .i64 ((i : Nat) : Int)].toArray w (Pur w (.agg (v8s (beginF xs i)).toArray)) := by
  refine enter (m := 8) (R := Mem w [] [] []) Tryd.func55 rfl rfl (Nat.le_of_ble_eq_true rfl) (Mem.start w) ?_
  refine wpc_seq ?_
  refine wpc_region ?_
  refine wpl_t (t_box rfl (v8s xs) rfl) rfl (fun b2 => ?_)
  refine wpl_t (t_alloc Tryd.ti23 (v8s (List.replicate 16 0)) (by rfl)) rfl (fun b4 => ?_)
  refine wpl_nil ?_
  refine ex_then ?_
  refine wpc_seq ?_
  refine wpc_region ?_
  refine wpl_q (q_ldN Tryd.underlying23 rfl Tryd.ti23 rfl (by first | with_reducible rfl | (simp only [v8s_length, v32s_length, vis_length, vns_length, v64s_length, List.length_replicate]; first | done | with_reducible assumption | omega) | (rw [v8s_length]; (first | with_reducible assumption | with_reducible exact shortF_length _ | with_reducible exact stepF_length _ _ _ | with_reducible exact sumF_length _ | with_reducible exact climbF_length _ (by first | with_reducible assumption | with_reducible exact shortF_length _ | with_reducible exact beginF_length _ _ | with_reducible exact getD_mem_len (by assumption) (by omega)) _ _ _ | with_reducible exact beginF_length _ _ | with_reducible exact chainF_length _ _ _ | with_reducible exact getD_mem_len (by assumption) (by omega) | (with_reducible exact List.length_replicate))) | rfl)) rfl ?_
  refine wpl_q (q_pure rfl) rfl ?_
  refine wpl_t (t_pur Tryd.hb58 rfl fun w h => step _ _ 255 w (by (first | with_reducible assumption | with_reducible exact shortF_length _ | with_reducible exact stepF_length _ _ _ | with_reducible exact sumF_length _ | with_reducible exact climbF_length _ (by first | with_reducible assumption | with_reducible exact shortF_length _ | with_reducible exact beginF_length _ _ | with_reducible exact getD_mem_len (by assumption) (by omega)) _ _ _ | with_reducible exact beginF_length _ _ | with_reducible exact chainF_length _ _ _ | with_reducible exact getD_mem_len (by assumption) (by omega) | (with_reducible exact List.length_replicate))) (glob h hG)) rfl (fun b7 => ?_)
  refine wpl_t0 (t_stA Tryd.ti23 rfl rfl (by first | with_reducible rfl | (simp only [v8s_length, v32s_length, vis_length, vns_length, v64s_length, List.length_replicate]; first | done | with_reducible assumption | omega) | (rw [v8s_length]; (first | with_reducible assumption | with_reducible exact shortF_length _ | with_reducible exact stepF_length _ _ _ | with_reducible exact sumF_length _ | with_reducible exact climbF_length _ (by first | with_reducible assumption | with_reducible exact shortF_length _ | with_reducible exact beginF_length _ _ | with_reducible exact getD_mem_len (by assumption) (by omega)) _ _ _ | with_reducible exact beginF_length _ _ | with_reducible exact chainF_length _ _ _ | with_reducible exact getD_mem_len (by assumption) (by omega) | (with_reducible exact List.length_replicate))) | rfl) (v8s_one _) (by first | with_reducible rfl | (simp only [v8s_length, v32s_length, vis_length, vns_length, v64s_length, List.length_replicate]; first | done | with_reducible assumption | omega) | (rw [v8s_length]; (first | with_reducible assumption | with_reducible exact shortF_length _ | with_reducible exact stepF_length _ _ _ | with_reducible exact sumF_length _ | with_reducible exact climbF_length _ (by first | with_reducible assumption | with_reducible exact shortF_length _ | with_reducible exact beginF_length _ _ | with_reducible exact getD_mem_len (by assumption) (by omega)) _ _ _ | with_reducible exact beginF_length _ _ | with_reducible exact chainF_length _ _ _ | with_reducible exact getD_mem_len (by assumption) (by omega) | (with_reducible exact List.length_replicate))) | rfl)) (fun _ => ?_)
  refine wpl_nil ?_
  refine ex_then ?_
  refine wpc_ret ?_
  refine retv1 (.inl rfl) rfl (rv_agg Tryd.underlying23 rfl Tryd.ti23 rfl (fun w h => h.atB) (by first | with_reducible rfl | (simp only [v8s_length, v32s_length, vis_length, vns_length, v64s_length, List.length_replicate]; first | done | with_reducible assumption | omega) | (rw [v8s_length]; (first | with_reducible assumption | with_reducible exact shortF_length _ | with_reducible exact stepF_length _ _ _ | with_reducible exact sumF_length _ | with_reducible exact climbF_length _ (by first | with_reducible assumption | with_reducible exact shortF_length _ | with_reducible exact beginF_length _ _ | with_reducible exact getD_mem_len (by assumption) (by omega)) _ _ _ | with_reducible exact beginF_length _ _ | with_reducible exact chainF_length _ _ _ | with_reducible exact getD_mem_len (by assumption) (by omega) | (with_reducible exact List.length_replicate))) | rfl)) ?_
  exact fun w h => ⟨rfl, h.below⟩

set_option maxRecDepth 100000 in
theorem ends (cf : Nat) (cap : Array Value) (E : Nat → List UInt8) (w : World)  (hG : Glb w) (hcb : HasBody Tryd.prog cf) (hE : ∀ i, i < 35 → (E i).length = 16) (hcl : ∀ (i : Nat) (w1 : World), i < 35 → Mem w [] [] [] w1 → Calls Tryd.prog cf (#[.int .i64 ((i : Nat) : Int)] ++ cap) w1 (Pur w1 (.agg (v8s (E i)).toArray))) :
    Calls Tryd.prog 43 [.func (.func cf) #[] cap].toArray w (Pur w (.agg (v8s (shortF (accF E 35))).toArray)) := by
  refine enter (m := 18) (R := Mem w [] [] []) Tryd.func43 rfl rfl (Nat.le_of_ble_eq_true rfl) (Mem.start w) ?_
  refine wpc_seq ?_
  refine wpc_region ?_
  refine wpl_t (t_alloc Tryd.ti23 (v8s (List.replicate 16 0)) (by rfl)) rfl (fun b2 => ?_)
  refine wpl_nil ?_
  refine ex_then ?_
  refine wpc_seq ?_
  refine wpc_region ?_
  refine wpl_q (q_pure rfl) rfl ?_
  refine wpl_nil ?_
  refine ex_then ?_
  refine wpc_seq ?_
  refine wpc_seq ?_
  refine wpc_region ?_
  refine wpl_q (q_pure rfl) rfl ?_
  refine wpl_nil ?_
  refine ex_then ?_
  refine wpc_block ?_
  refine wpc_loopc (ι := { x : Nat × Value // (x.1 ≤ 35) ∧ (SV x.2 (accF E x.1).length) }) [(0, _), (2, _)] (fun x Lc => (6, .int .i64 ((x.1.1 : Nat) : Int)) :: (3, x.1.2) :: Lc) (fun x => Mem w [] [.row x.1.2 (accF E x.1.1).length 5 1 (v8s (accF E x.1.1)), .blk b2 23 (v8s (List.replicate 16 0))] []) (fun x => 35 - x.1.1) ⟨(0, .slice none 0 0), ⟨Nat.zero_le _, SV.nil⟩⟩ (by repeat (first | exact trivial | refine ⟨rfl, ?_⟩)) ?_ ?_
  · exact fun w h => h.nilRow 5 1
  · rintro ⟨⟨i, v⟩, ⟨hi0, hi1⟩⟩; dsimp only
    have hi0 : i ≤ 35 := hi0; have hi1 : SV v (accF E i).length := hi1
    have hal : i ≤ 35 → (accF E i).length ≤ 16 * 35 := fun hi => by rw [accF_len16 E 35 hE i hi]; omega
    have hal2 := hal hi0
    refine wpc_seq ?_
    refine wpc_region ?_
    refine wpl_q (q_pure rfl) rfl ?_
    refine wpl_nil ?_
    refine ex_then ?_
    refine wpc_seq ?_
    refine wpc_cond rfl (fun hc7 => ?_) (fun hc7 => ?_)
    ·
      simp only [decide_eq_true_eq] at hc7
      have hEi := hE i (by omega)
      refine wpc_skip ?_
      refine ex_then ?_
      refine wpc_seq ?_
      refine wpc_block ?_
      refine wpc_seq ?_
      refine wpc_region ?_
      refine wpl_q (q_pure rfl) rfl ?_
      refine wpl_q (q_pure rfl) rfl ?_
      refine wpl_nil ?_
      refine ex_then ?_
      refine wpc_seq ?_
      refine wpc_region ?_
      refine wpl_q (q_pure rfl) rfl ?_
      refine wpl_q (q_pure rfl) rfl ?_
      refine wpl_t (t_purV rfl hcb rfl fun w h => hcl i w (by omega) (h.sub .nil .nil)) rfl (fun b11 => ?_)
      refine wpl_t (t_alloc Tryd.ti23 (v8s (List.replicate 16 0)) (by rfl)) rfl (fun b5 => ?_)
      refine wpl_t0 (t_stA Tryd.ti23 rfl rfl (by first | with_reducible rfl | (simp only [v8s_length, v32s_length, vis_length, vns_length, v64s_length, List.length_replicate]; first | done | with_reducible assumption | omega) | (rw [v8s_length]; (first | with_reducible assumption | with_reducible exact shortF_length _ | with_reducible exact stepF_length _ _ _ | with_reducible exact sumF_length _ | with_reducible exact climbF_length _ (by first | with_reducible assumption | with_reducible exact shortF_length _ | with_reducible exact beginF_length _ _ | with_reducible exact getD_mem_len (by assumption) (by omega)) _ _ _ | with_reducible exact beginF_length _ _ | with_reducible exact chainF_length _ _ _ | with_reducible exact getD_mem_len (by assumption) (by omega) | (with_reducible exact List.length_replicate))) | rfl) (v8s_one _) (by first | with_reducible rfl | (simp only [v8s_length, v32s_length, vis_length, vns_length, v64s_length, List.length_replicate]; first | done | with_reducible assumption | omega) | (rw [v8s_length]; (first | with_reducible assumption | with_reducible exact shortF_length _ | with_reducible exact stepF_length _ _ _ | with_reducible exact sumF_length _ | with_reducible exact climbF_length _ (by first | with_reducible assumption | with_reducible exact shortF_length _ | with_reducible exact beginF_length _ _ | with_reducible exact getD_mem_len (by assumption) (by omega)) _ _ _ | with_reducible exact beginF_length _ _ | with_reducible exact chainF_length _ _ _ | with_reducible exact getD_mem_len (by assumption) (by omega) | (with_reducible exact List.length_replicate))) | rfl)) (fun _ => ?_)
      refine wpl_nil ?_
      refine ex_then ?_
      refine wpc_region ?_
      refine wpl_q (q_pure rfl) rfl ?_
      refine wpl_q (q_arAll Tryd.underlying23 Tryd.ti5 rfl rfl) rfl ?_
      refine wpl_tp (t_apW Tryd.underlying26 Tryd.ti5 rfl (by decide) rfl rfl (fun w h => by first | exact h.seenV | exact h.seenA (by first | decide | (simp only [maxLen]; omega)) (by first | with_reducible rfl | (simp only [v8s_length, v32s_length, vis_length, vns_length, v64s_length, List.length_replicate]; first | done | with_reducible assumption | omega) | (rw [v8s_length]; (first | with_reducible assumption | with_reducible exact shortF_length _ | with_reducible exact stepF_length _ _ _ | with_reducible exact sumF_length _ | with_reducible exact climbF_length _ (by first | with_reducible assumption | with_reducible exact shortF_length _ | with_reducible exact beginF_length _ _ | with_reducible exact getD_mem_len (by assumption) (by omega)) _ _ _ | with_reducible exact beginF_length _ _ | with_reducible exact chainF_length _ _ _ | with_reducible exact getD_mem_len (by assumption) (by omega) | (with_reducible exact List.length_replicate))) | rfl) | exact h.seen_old (by assumption) | exact h.seen_oldL (by assumption) (by assumption) | exact h.seen_fact (by repeat (first | exact List.mem_cons_self .. | apply List.mem_cons_of_mem))) (v8s_one _) (by first | omega | (simp only [maxLen]; omega)) (by first | omega | (simp only [maxLen]; omega)) _ (by first | with_reducible exact List.nil_append _ | exact (v8s_append _ _).symm | exact (vis_append _ _).symm | exact (vns_append _ _).symm | exact (v64s_append _ _).symm | exact (v32s_append _ _).symm | rfl)) rfl (fun b14 p14 => ?_)
      refine wpl_q (q_pure rfl) rfl ?_
      refine wpl_nil ?_
      refine ex_block ?_
      refine ex_then ?_
      refine wpc_region ?_
      refine wpl_q (q_addN (b := 1) rfl rfl (by first | omega | (simp only [maxLen]; omega))) rfl ?_
      refine wpl_q (q_pure rfl) rfl ?_
      refine wpl_nil ?_
      refine ex_again ⟨(i + 1, b14), ⟨by omega, by rw [accF, List.length_append, hEi]; exact p14⟩⟩ ?_ ?_ ?_
      · exact (by repeat (first | exact trivial | refine ⟨rfl, ?_⟩))
      · exact fun w h => by
          dsimp only
          rw [accF, List.length_append, hEi]
          exact h.sub (by repeat (first | exact Sub.nil | exact Sub.refl _ | with_reducible refine Sub.keep ?_ | refine Sub.drop ?_)) (by repeat (first | exact Sub.nil | exact Sub.refl _ | with_reducible refine Sub.keep ?_ | refine Sub.drop ?_))
      · (show 35 - (i + 1) < 35 - i); omega
    ·
      simp only [decide_eq_false_iff_not] at hc7
      obtain rfl : i = 35 := by omega
      refine wpc_exit ?_
      refine ex_then_exit ?_
      refine ex_then_exit ?_
      refine ex_block_hit ?_
      refine ex_then ?_
      refine wpc_seq ?_
      refine wpc_region ?_
      refine wpl_q (q_pure rfl) rfl ?_
      refine wpl_t (t_pur Tryd.hb28 rfl fun w h => shortW _ _ w (by first | exact Seen.re8 h.seenV | exact Seen.reS h.seenV (by first | assumption | exact signF_all _ _ | exact sg_all _ _) (by decide) | exact Seen.reN h.seenV | exact h.seenV | exact h.seenA (by first | decide | (simp only [maxLen]; omega)) (by first | with_reducible rfl | (simp only [v8s_length, v32s_length, vis_length, vns_length, v64s_length, List.length_replicate]; first | done | with_reducible assumption | omega) | (rw [v8s_length]; (first | with_reducible assumption | with_reducible exact shortF_length _ | with_reducible exact stepF_length _ _ _ | with_reducible exact sumF_length _ | with_reducible exact climbF_length _ (by first | with_reducible assumption | with_reducible exact shortF_length _ | with_reducible exact beginF_length _ _ | with_reducible exact getD_mem_len (by assumption) (by omega)) _ _ _ | with_reducible exact beginF_length _ _ | with_reducible exact chainF_length _ _ _ | with_reducible exact getD_mem_len (by assumption) (by omega) | (with_reducible exact List.length_replicate))) | rfl) | exact h.seen_old (by assumption) | exact h.seen_oldL (by assumption) (by assumption) | exact h.seen_fact (by repeat (first | exact List.mem_cons_self .. | apply List.mem_cons_of_mem))) (glob h hG)) rfl (fun b17 => ?_)
      refine wpl_t0 (t_stA Tryd.ti23 rfl rfl (by first | with_reducible rfl | (simp only [v8s_length, v32s_length, vis_length, vns_length, v64s_length, List.length_replicate]; first | done | with_reducible assumption | omega) | (rw [v8s_length]; (first | with_reducible assumption | with_reducible exact shortF_length _ | with_reducible exact stepF_length _ _ _ | with_reducible exact sumF_length _ | with_reducible exact climbF_length _ (by first | with_reducible assumption | with_reducible exact shortF_length _ | with_reducible exact beginF_length _ _ | with_reducible exact getD_mem_len (by assumption) (by omega)) _ _ _ | with_reducible exact beginF_length _ _ | with_reducible exact chainF_length _ _ _ | with_reducible exact getD_mem_len (by assumption) (by omega) | (with_reducible exact List.length_replicate))) | rfl) (v8s_one _) (by first | with_reducible rfl | (simp only [v8s_length, v32s_length, vis_length, vns_length, v64s_length, List.length_replicate]; first | done | with_reducible assumption | omega) | (rw [v8s_length]; (first | with_reducible assumption | with_reducible exact shortF_length _ | with_reducible exact stepF_length _ _ _ | with_reducible exact sumF_length _ | with_reducible exact climbF_length _ (by first | with_reducible assumption | with_reducible exact shortF_length _ | with_reducible exact beginF_length _ _ | with_reducible exact getD_mem_len (by assumption) (by omega)) _ _ _ | with_reducible exact beginF_length _ _ | with_reducible exact chainF_length _ _ _ | with_reducible exact getD_mem_len (by assumption) (by omega) | (with_reducible exact List.length_replicate))) | rfl)) (fun _ => ?_)
      refine wpl_nil ?_
      refine ex_then ?_
      refine wpc_ret ?_
      refine retv1 (.inl rfl) rfl (rv_agg Tryd.underlying23 rfl Tryd.ti23 rfl (fun w h => h.atB) (by first | with_reducible rfl | (simp only [v8s_length, v32s_length, vis_length, vns_length, v64s_length, List.length_replicate]; first | done | with_reducible assumption | omega) | (rw [v8s_length]; (first | with_reducible assumption | with_reducible exact shortF_length _ | with_reducible exact stepF_length _ _ _ | with_reducible exact sumF_length _ | with_reducible exact climbF_length _ (by first | with_reducible assumption | with_reducible exact shortF_length _ | with_reducible exact beginF_length _ _ | with_reducible exact getD_mem_len (by assumption) (by omega)) _ _ _ | with_reducible exact beginF_length _ _ | with_reducible exact chainF_length _ _ _ | with_reducible exact getD_mem_len (by assumption) (by omega) | (with_reducible exact List.length_replicate))) | rfl)) ?_
      exact fun w h => ⟨rfl, h.below⟩

set_option maxRecDepth 100000 in
theorem public1 (i : Nat) (b : Nat) (xs : List UInt8) (w : World) (hxs : xs.length = 16) (hb : CellsAt w.cell? ⟨b, 0, none⟩ (v8s xs)) (hG : Glb w) :
    Calls Tryd.prog 57 [.int .i64 ((i : Nat) : Int), .pointer (some ⟨b, 0, none⟩)].toArray w (Pur w (.agg (v8s (chainF xs i 15)).toArray)) := by
  refine enter (m := 9) (R := Mem w [] [] []) Tryd.func57 rfl rfl (Nat.le_of_ble_eq_true rfl) (Mem.start w) ?_
  refine wpc_seq ?_
  refine wpc_region ?_
  refine wpl_t (t_alloc Tryd.ti23 (v8s (List.replicate 16 0)) (by rfl)) rfl (fun b3 => ?_)
  refine wpl_nil ?_
  refine ex_then ?_
  refine wpc_seq ?_
  refine wpc_region ?_
  refine wpl_q (q_loadN Tryd.underlying23 rfl Tryd.ti23 rfl (fun w h => h.at_old hb) (by first | with_reducible rfl | (simp only [v8s_length, v32s_length, vis_length, vns_length, v64s_length, List.length_replicate]; first | done | with_reducible assumption | omega) | (rw [v8s_length]; (first | with_reducible assumption | with_reducible exact shortF_length _ | with_reducible exact stepF_length _ _ _ | with_reducible exact sumF_length _ | with_reducible exact climbF_length _ (by first | with_reducible assumption | with_reducible exact shortF_length _ | with_reducible exact beginF_length _ _ | with_reducible exact getD_mem_len (by assumption) (by omega)) _ _ _ | with_reducible exact beginF_length _ _ | with_reducible exact chainF_length _ _ _ | with_reducible exact getD_mem_len (by assumption) (by omega) | (with_reducible exact List.length_replicate))) | rfl)) rfl ?_
  refine wpl_q (q_pure rfl) rfl ?_
  refine wpl_t (t_pur Tryd.hb55 rfl fun w h => begin_ _ _ w (by (first | with_reducible assumption | with_reducible exact shortF_length _ | with_reducible exact stepF_length _ _ _ | with_reducible exact sumF_length _ | with_reducible exact climbF_length _ (by first | with_reducible assumption | with_reducible exact shortF_length _ | with_reducible exact beginF_length _ _ | with_reducible exact getD_mem_len (by assumption) (by omega)) _ _ _ | with_reducible exact beginF_length _ _ | with_reducible exact chainF_length _ _ _ | with_reducible exact getD_mem_len (by assumption) (by omega) | (with_reducible exact List.length_replicate))) (glob h hG)) rfl (fun b6 => ?_)
  refine wpl_q (q_pure rfl) rfl ?_
  refine wpl_t (t_pur Tryd.hb45 rfl fun w h => climb _ _ 0 15 w (by (first | with_reducible assumption | with_reducible exact shortF_length _ | with_reducible exact stepF_length _ _ _ | with_reducible exact sumF_length _ | with_reducible exact climbF_length _ (by first | with_reducible assumption | with_reducible exact shortF_length _ | with_reducible exact beginF_length _ _ | with_reducible exact getD_mem_len (by assumption) (by omega)) _ _ _ | with_reducible exact beginF_length _ _ | with_reducible exact chainF_length _ _ _ | with_reducible exact getD_mem_len (by assumption) (by omega) | (with_reducible exact List.length_replicate))) (glob h hG) (by omega) (by omega)) rfl (fun b8 => ?_)
  refine wpl_t0 (t_stA Tryd.ti23 rfl rfl (by first | with_reducible rfl | (simp only [v8s_length, v32s_length, vis_length, vns_length, v64s_length, List.length_replicate]; first | done | with_reducible assumption | omega) | (rw [v8s_length]; (first | with_reducible assumption | with_reducible exact shortF_length _ | with_reducible exact stepF_length _ _ _ | with_reducible exact sumF_length _ | with_reducible exact climbF_length _ (by first | with_reducible assumption | with_reducible exact shortF_length _ | with_reducible exact beginF_length _ _ | with_reducible exact getD_mem_len (by assumption) (by omega)) _ _ _ | with_reducible exact beginF_length _ _ | with_reducible exact chainF_length _ _ _ | with_reducible exact getD_mem_len (by assumption) (by omega) | (with_reducible exact List.length_replicate))) | rfl) (v8s_one _) (by first | with_reducible rfl | (simp only [v8s_length, v32s_length, vis_length, vns_length, v64s_length, List.length_replicate]; first | done | with_reducible assumption | omega) | (rw [v8s_length]; (first | with_reducible assumption | with_reducible exact shortF_length _ | with_reducible exact stepF_length _ _ _ | with_reducible exact sumF_length _ | with_reducible exact climbF_length _ (by first | with_reducible assumption | with_reducible exact shortF_length _ | with_reducible exact beginF_length _ _ | with_reducible exact getD_mem_len (by assumption) (by omega)) _ _ _ | with_reducible exact beginF_length _ _ | with_reducible exact chainF_length _ _ _ | with_reducible exact getD_mem_len (by assumption) (by omega) | (with_reducible exact List.length_replicate))) | rfl)) (fun _ => ?_)
  refine wpl_nil ?_
  refine ex_then ?_
  refine wpc_ret ?_
  refine retv1 (.inl rfl) rfl (rv_agg Tryd.underlying23 rfl Tryd.ti23 rfl (fun w h => h.atB) (by first | with_reducible rfl | (simp only [v8s_length, v32s_length, vis_length, vns_length, v64s_length, List.length_replicate]; first | done | with_reducible assumption | omega) | (rw [v8s_length]; (first | with_reducible assumption | with_reducible exact shortF_length _ | with_reducible exact stepF_length _ _ _ | with_reducible exact sumF_length _ | with_reducible exact climbF_length _ (by first | with_reducible assumption | with_reducible exact shortF_length _ | with_reducible exact beginF_length _ _ | with_reducible exact getD_mem_len (by assumption) (by omega)) _ _ _ | with_reducible exact beginF_length _ _ | with_reducible exact chainF_length _ _ _ | with_reducible exact getD_mem_len (by assumption) (by omega) | (with_reducible exact List.length_replicate))) | rfl)) ?_
  exact fun w h => ⟨rfl, h.below⟩

set_option maxRecDepth 100000 in
theorem public_ (xs : List UInt8) (w : World) (hxs : xs.length = 16) (hG : Glb w) :
    Calls Tryd.prog 41 [.agg (v8s xs).toArray].toArray w (Pur w (.agg (v8s (publicF xs)).toArray)) := by
  refine enter (m := 5) (R := Mem w [] [] []) Tryd.func41 rfl rfl (Nat.le_of_ble_eq_true rfl) (Mem.start w) ?_
  refine wpc_seq ?_
  refine wpc_region ?_
  refine wpl_t (t_box rfl (v8s xs) rfl) rfl (fun b1 => ?_)
  refine wpl_t (t_alloc Tryd.ti23 (v8s (List.replicate 16 0)) (by rfl)) rfl (fun b2 => ?_)
  refine wpl_nil ?_
  refine ex_then ?_
  refine wpc_seq ?_
  refine wpc_region ?_
  refine wpl_q (q_fn (us := []) (vs := [_]) rfl rfl) rfl ?_
  refine wpl_t (t_pur Tryd.hb43 rfl fun w h => ends 57 _ (fun i => chainF xs i 15) w (glob h hG) Tryd.hb57 (fun _ _ => chainF_length _ _ _) fun i w1 _ h1 => public1 i b1 xs w1 hxs (h1.at_old h.atB) (glob h1 (glob h hG))) rfl (fun b4 => ?_)
  refine wpl_t0 (t_stA Tryd.ti23 rfl rfl (by first | with_reducible rfl | (simp only [v8s_length, v32s_length, vis_length, vns_length, v64s_length, List.length_replicate]; first | done | with_reducible assumption | omega) | (rw [v8s_length]; (first | with_reducible assumption | with_reducible exact shortF_length _ | with_reducible exact stepF_length _ _ _ | with_reducible exact sumF_length _ | with_reducible exact climbF_length _ (by first | with_reducible assumption | with_reducible exact shortF_length _ | with_reducible exact beginF_length _ _ | with_reducible exact getD_mem_len (by assumption) (by omega)) _ _ _ | with_reducible exact beginF_length _ _ | with_reducible exact chainF_length _ _ _ | with_reducible exact getD_mem_len (by assumption) (by omega) | (with_reducible exact List.length_replicate))) | rfl) (v8s_one _) (by first | with_reducible rfl | (simp only [v8s_length, v32s_length, vis_length, vns_length, v64s_length, List.length_replicate]; first | done | with_reducible assumption | omega) | (rw [v8s_length]; (first | with_reducible assumption | with_reducible exact shortF_length _ | with_reducible exact stepF_length _ _ _ | with_reducible exact sumF_length _ | with_reducible exact climbF_length _ (by first | with_reducible assumption | with_reducible exact shortF_length _ | with_reducible exact beginF_length _ _ | with_reducible exact getD_mem_len (by assumption) (by omega)) _ _ _ | with_reducible exact beginF_length _ _ | with_reducible exact chainF_length _ _ _ | with_reducible exact getD_mem_len (by assumption) (by omega) | (with_reducible exact List.length_replicate))) | rfl)) (fun _ => ?_)
  refine wpl_nil ?_
  refine ex_then ?_
  refine wpc_ret ?_
  refine retv1 (.inl rfl) rfl (rv_agg Tryd.underlying23 rfl Tryd.ti23 rfl (fun w h => h.atB) (by first | with_reducible rfl | (simp only [v8s_length, v32s_length, vis_length, vns_length, v64s_length, List.length_replicate]; first | done | with_reducible assumption | omega) | (rw [v8s_length]; (first | with_reducible assumption | with_reducible exact shortF_length _ | with_reducible exact stepF_length _ _ _ | with_reducible exact sumF_length _ | with_reducible exact climbF_length _ (by first | with_reducible assumption | with_reducible exact shortF_length _ | with_reducible exact beginF_length _ _ | with_reducible exact getD_mem_len (by assumption) (by omega)) _ _ _ | with_reducible exact beginF_length _ _ | with_reducible exact chainF_length _ _ _ | with_reducible exact getD_mem_len (by assumption) (by omega) | (with_reducible exact List.length_replicate))) | rfl)) ?_
  exact fun w h => ⟨rfl, h.below⟩

set_option maxRecDepth 100000 in
theorem sign1 (xs : List UInt8) (bv : Value) (bs : List UInt8) (w : World) (hxs : xs.length = 16) (hbv : Seen w.cell? bv bs.length 1 (v8s bs)) (hG : Glb w) :
    Calls Tryd.prog 37 [.agg (v8s xs).toArray, bv].toArray w (GivesP w (fun v => SV v 35) (fun v : Value => v) (fun v => [.row v 35 23 16 (v8s (signF xs bs).flatten)]) (fun _ => [])) := by
  have sbv := hbv.sv
  have lbv := sbv.le
  simp only [maxLen] at lbv
  refine enter (m := 27) (R := Mem w [] [] []) Tryd.func37 rfl rfl (Nat.le_of_ble_eq_true rfl) (Mem.start w) ?_
  refine wpc_seq ?_
  refine wpc_region ?_
  refine wpl_t (t_box rfl (v8s xs) rfl) rfl (fun b2 => ?_)
  refine wpl_q (q_pure rfl) rfl ?_
  refine wpl_nil ?_
  refine ex_then ?_
  refine wpc_seq ?_
  refine wpc_region ?_
  refine wpl_q (q_pure rfl) rfl ?_
  refine wpl_nil ?_
  refine ex_then ?_
  refine wpc_seq ?_
  refine wpc_seq ?_
  refine wpc_region ?_
  refine wpl_q (q_pure rfl) rfl ?_
  refine wpl_tp (t_callP1 Tryd.hb42 rfl fun w h => digits _ _ w (by first | exact Seen.re8 h.seenV | exact Seen.reS h.seenV (by first | assumption | exact signF_all _ _ | exact sg_all _ _) (by decide) | exact Seen.reN h.seenV | exact h.seenV | exact h.seenA (by first | decide | (simp only [maxLen]; omega)) (by first | with_reducible rfl | (simp only [v8s_length, v32s_length, vis_length, vns_length, v64s_length, List.length_replicate]; first | done | with_reducible assumption | omega) | (rw [v8s_length]; (first | with_reducible assumption | with_reducible exact shortF_length _ | with_reducible exact stepF_length _ _ _ | with_reducible exact sumF_length _ | with_reducible exact climbF_length _ (by first | with_reducible assumption | with_reducible exact shortF_length _ | with_reducible exact beginF_length _ _ | with_reducible exact getD_mem_len (by assumption) (by omega)) _ _ _ | with_reducible exact beginF_length _ _ | with_reducible exact chainF_length _ _ _ | with_reducible exact getD_mem_len (by assumption) (by omega) | (with_reducible exact List.length_replicate))) | rfl) | exact h.seen_old (by assumption) | exact h.seen_oldL (by assumption) (by assumption) | exact h.seen_fact (by repeat (first | exact List.mem_cons_self .. | apply List.mem_cons_of_mem))) (glob h hG)) rfl (fun b9 p9 => ?_)
  refine wpl_q (q_lenW Tryd.underlying75 rfl (by first | assumption | exact SV.nil | exact SV.slv (by assumption) (by omega) (by omega) | exact arv_sv (by first | decide | (simp only [maxLen]; omega)))) rfl ?_
  refine wpl_q (q_pure rfl) rfl ?_
  refine wpl_nil ?_
  refine ex_then ?_
  refine wpc_block ?_
  refine wpc_loopc (ι := { x : Nat × Value // (x.1 ≤ 35) ∧ (SV x.2 x.1) }) [(2, _), (9, _), (10, _)] (fun x Lc => (11, .int .i64 ((x.1.1 : Nat) : Int)) :: (5, x.1.2) :: Lc) (fun x => Mem w [] [.row x.1.2 x.1.1 23 16 (v8s (sg xs bs x.1.1).flatten), .row b9 35 3 1 (vns (digsF (shortF bs))), .blk b2 23 (v8s xs)] []) (fun x => 35 - x.1.1) ⟨(0, .slice none 0 0), ⟨Nat.zero_le _, SV.nil⟩⟩ (by repeat (first | exact trivial | refine ⟨rfl, ?_⟩)) ?_ ?_
  · exact fun w h => h.nilRow 23 16
  · rintro ⟨⟨i, v⟩, ⟨hi0, hi1⟩⟩; dsimp only
    have hi0 : i ≤ 35 := hi0; have hi1 : SV v i := hi1
    have hdl := digsF_length (shortF bs)
    have hdg : (digsF (shortF bs)).getD i 0 ≤ 15 := dig_le bs i
    refine wpc_seq ?_
    refine wpc_region ?_
    refine wpl_q (q_pure rfl) rfl ?_
    refine wpl_nil ?_
    refine ex_then ?_
    refine wpc_seq ?_
    refine wpc_cond rfl (fun hc12 => ?_) (fun hc12 => ?_)
    ·
      try simp only [decide_eq_true_eq, decide_eq_false_iff_not, Bool.and_eq_true, Bool.or_eq_true, beq_iff_eq, bne_iff_ne, ne_eq, Bool.not_eq_true', Bool.not_eq_false', Decidable.not_not] at hc12
      refine wpc_skip ?_
      refine ex_then ?_
      refine wpc_seq ?_
      refine wpc_block ?_
      refine wpc_seq ?_
      refine wpc_region ?_
      refine wpl_q (q_pure rfl) rfl ?_
      refine wpl_q (q_idxW1 Tryd.underlying75 Tryd.ti3 rfl rfl (by first | assumption | exact SV.nil | exact SV.slv (by assumption) (by omega) (by omega) | exact arv_sv (by first | decide | (simp only [maxLen]; omega))) (by first | omega | (simp only [maxLen]; omega))) rfl ?_
      refine wpl_q (q_ldW Tryd.underlying3 rfl rfl (fun w h => by first | exact h.seenV | exact h.seenA (by first | decide | (simp only [maxLen]; omega)) (by first | with_reducible rfl | (simp only [v8s_length, v32s_length, vis_length, vns_length, v64s_length, List.length_replicate]; first | done | with_reducible assumption | omega) | (rw [v8s_length]; (first | with_reducible assumption | with_reducible exact shortF_length _ | with_reducible exact stepF_length _ _ _ | with_reducible exact sumF_length _ | with_reducible exact climbF_length _ (by first | with_reducible assumption | with_reducible exact shortF_length _ | with_reducible exact beginF_length _ _ | with_reducible exact getD_mem_len (by assumption) (by omega)) _ _ _ | with_reducible exact beginF_length _ _ | with_reducible exact chainF_length _ _ _ | with_reducible exact getD_mem_len (by assumption) (by omega) | (with_reducible exact List.length_replicate))) | rfl) | exact h.seen_old (by assumption) | exact h.seen_oldL (by assumption) (by assumption) | exact h.seen_fact (by repeat (first | exact List.mem_cons_self .. | apply List.mem_cons_of_mem))) (by first | exact vns_get (by first | decide | omega | (simp; omega) | (simp only [v8s_length, v32s_length, vis_length, vns_length, v64s_length]; omega)) | rfl)) rfl ?_
      refine wpl_q (q_pure rfl) rfl ?_
      refine wpl_q (q_pure rfl) rfl ?_
      refine wpl_nil ?_
      refine ex_then ?_
      refine wpc_region ?_
      refine wpl_q (q_pure rfl) rfl ?_
      refine wpl_q (q_ldN Tryd.underlying23 rfl Tryd.ti23 rfl (by first | with_reducible rfl | (simp only [v8s_length, v32s_length, vis_length, vns_length, v64s_length, List.length_replicate]; first | done | with_reducible assumption | omega) | (rw [v8s_length]; (first | with_reducible assumption | with_reducible exact shortF_length _ | with_reducible exact stepF_length _ _ _ | with_reducible exact sumF_length _ | with_reducible exact climbF_length _ (by first | with_reducible assumption | with_reducible exact shortF_length _ | with_reducible exact beginF_length _ _ | with_reducible exact getD_mem_len (by assumption) (by omega)) _ _ _ | with_reducible exact beginF_length _ _ | with_reducible exact chainF_length _ _ _ | with_reducible exact getD_mem_len (by assumption) (by omega) | (with_reducible exact List.length_replicate))) | rfl)) rfl ?_
      refine wpl_q (q_pure rfl) rfl ?_
      refine wpl_t (t_pur Tryd.hb55 rfl fun w h => begin_ _ _ w (by (first | with_reducible assumption | with_reducible exact shortF_length _ | with_reducible exact stepF_length _ _ _ | with_reducible exact sumF_length _ | with_reducible exact climbF_length _ (by first | with_reducible assumption | with_reducible exact shortF_length _ | with_reducible exact beginF_length _ _ | with_reducible exact getD_mem_len (by assumption) (by omega)) _ _ _ | with_reducible exact beginF_length _ _ | with_reducible exact chainF_length _ _ _ | with_reducible exact getD_mem_len (by assumption) (by omega) | (with_reducible exact List.length_replicate))) (glob h hG)) rfl (fun b19 => ?_)
      refine wpl_q (q_pure rfl) rfl ?_
      refine wpl_q (q_pure rfl) rfl ?_
      refine wpl_t (t_pur Tryd.hb45 rfl fun w h => climb _ _ 0 _ w (by (first | with_reducible assumption | with_reducible exact shortF_length _ | with_reducible exact stepF_length _ _ _ | with_reducible exact sumF_length _ | with_reducible exact climbF_length _ (by first | with_reducible assumption | with_reducible exact shortF_length _ | with_reducible exact beginF_length _ _ | with_reducible exact getD_mem_len (by assumption) (by omega)) _ _ _ | with_reducible exact beginF_length _ _ | with_reducible exact chainF_length _ _ _ | with_reducible exact getD_mem_len (by assumption) (by omega) | (with_reducible exact List.length_replicate))) (glob h hG) (by omega) (by omega)) rfl (fun b22 => ?_)
      refine wpl_tp (t_bsS [_] Tryd.underlying27 Tryd.ti23 rfl (by decide) rfl (by decide) (by decide) rfl (by intro x hx; simp only [List.mem_cons, List.not_mem_nil, or_false] at hx; subst hx; (first | with_reducible assumption | with_reducible exact shortF_length _ | with_reducible exact stepF_length _ _ _ | with_reducible exact sumF_length _ | with_reducible exact climbF_length _ (by first | with_reducible assumption | with_reducible exact shortF_length _ | with_reducible exact beginF_length _ _ | with_reducible exact getD_mem_len (by assumption) (by omega)) _ _ _ | with_reducible exact beginF_length _ _ | with_reducible exact chainF_length _ _ _ | with_reducible exact getD_mem_len (by assumption) (by omega) | (with_reducible exact List.length_replicate)))) rfl (fun b23 p23 => ?_)
      refine wpl_tp (t_apW Tryd.underlying27 Tryd.ti23 rfl (by decide) rfl rfl (fun w h => by first | exact h.seenV | exact h.seenA (by first | decide | (simp only [maxLen]; omega)) (by first | with_reducible rfl | (simp only [v8s_length, v32s_length, vis_length, vns_length, v64s_length, List.length_replicate]; first | done | with_reducible assumption | omega) | (rw [v8s_length]; (first | with_reducible assumption | with_reducible exact shortF_length _ | with_reducible exact stepF_length _ _ _ | with_reducible exact sumF_length _ | with_reducible exact climbF_length _ (by first | with_reducible assumption | with_reducible exact shortF_length _ | with_reducible exact beginF_length _ _ | with_reducible exact getD_mem_len (by assumption) (by omega)) _ _ _ | with_reducible exact beginF_length _ _ | with_reducible exact chainF_length _ _ _ | with_reducible exact getD_mem_len (by assumption) (by omega) | (with_reducible exact List.length_replicate))) | rfl) | exact h.seen_old (by assumption) | exact h.seen_oldL (by assumption) (by assumption) | exact h.seen_fact (by repeat (first | exact List.mem_cons_self .. | apply List.mem_cons_of_mem))) (by first | exact v8s_one _ | exact v32s_one _ | exact v64s_one _ | exact vis_one _ | exact vns_one _ | exact v16s_one _ | (intro u hu; simp at hu; rcases hu with h | h <;> subst h <;> rfl) | (intro u hu; simp only [List.mem_cons, List.not_mem_nil, or_false] at hu; subst hu; exact SV.one (by assumption)) | (simp [Value.oneCell']; done)) (by first | omega | (simp only [maxLen]; omega)) (by first | omega | (simp only [maxLen]; omega)) _ (by first | with_reducible exact List.nil_append _ | exact (v8s_append _ _).symm | exact (vis_append _ _).symm | exact (vns_append _ _).symm | exact (v64s_append _ _).symm | exact (v32s_append _ _).symm | rfl)) rfl (fun b24 p24 => ?_)
      refine wpl_q (q_pure rfl) rfl ?_
      refine wpl_nil ?_
      refine ex_block ?_
      refine ex_then ?_
      refine wpc_region ?_
      refine wpl_q (q_addN (b := 1) rfl rfl (by first | omega | (simp only [maxLen]; omega))) rfl ?_
      refine wpl_q (q_pure rfl) rfl ?_
      refine wpl_nil ?_
      refine ex_again ⟨(i + 1, b24), ⟨by omega, p24⟩⟩ ?_ ?_ ?_
      · exact (by repeat (first | exact trivial | refine ⟨rfl, ?_⟩))
      · exact fun w h => by
          dsimp only
          rw [sg_succ, List.flatten_append]
          exact h.sub (by repeat (first | exact Sub.nil | exact Sub.refl _ | with_reducible refine Sub.keep ?_ | refine Sub.drop ?_)) (by repeat (first | exact Sub.nil | exact Sub.refl _ | with_reducible refine Sub.keep ?_ | refine Sub.drop ?_))
      · (show 35 - (i + 1) < 35 - i); omega
    ·
      simp only [decide_eq_false_iff_not] at hc12
      obtain rfl : i = 35 := by omega
      refine wpc_exit ?_
      refine ex_then_exit ?_
      refine ex_then_exit ?_
      refine ex_block_hit ?_
      refine ex_then ?_
      refine wpc_seq ?_
      refine wpc_region ?_
      refine wpl_q (q_pure rfl) rfl ?_
      refine wpl_q (q_pure rfl) rfl ?_
      refine wpl_nil ?_
      refine ex_then ?_
      refine wpc_ret ?_
      refine ret1 (.inl rfl) rfl rfl ?_
      exact fun w h => ⟨v, hi1, rfl, h.below, h.made (.keep .nil) .nil⟩

set_option maxRecDepth 100000 in
theorem recover1 (i : Nat) (b1 b2 : Nat) (cv dv : Value) (chs : List (List UInt8)) (bs : List UInt8) (w : World) (hb1 : w.cell? ⟨b1, 0, none⟩ = some cv) (hb2 : w.cell? ⟨b2, 0, none⟩ = some dv) (hcv : Seen w.cell? cv chs.length 16 (v8s chs.flatten)) (hlc : ∀ x ∈ chs, x.length = 16) (hdv : Seen w.cell? dv 35 1 (vns (digsF (shortF bs)))) (hi : i < 35) (hcl : chs.length = 35) (hG : Glb w) :
    Calls Tryd.prog 44 [.int .i64 ((i : Nat) : Int), .pointer (some ⟨b1, 0, none⟩), .pointer (some ⟨b2, 0, none⟩)].toArray w (Pur w (.agg (v8s (recE bs chs i)).toArray)) := by
  have scv := hcv.sv
  have sdv := hdv.sv
  have hdl := digsF_length (shortF bs)
  have hdg : (digsF (shortF bs)).getD i 0 ≤ 15 := dig_le bs i
  have hgl := getD_mem_len hlc (i := i) (by omega)
  refine enter (m := 15) (R := Mem w [] [] []) Tryd.func44 rfl rfl (Nat.le_of_ble_eq_true rfl) (Mem.start w) ?_
  refine wpc_seq ?_
  refine wpc_region ?_
  refine wpl_t (t_alloc Tryd.ti23 (v8s (List.replicate 16 0)) (by rfl)) rfl (fun b4 => ?_)
  refine wpl_nil ?_
  refine ex_then ?_
  refine wpc_seq ?_
  refine wpc_draw 10 (by kernel_rfl) (fun _ h => h.drew) ?_
  refine wpd_q 0 rfl (by kernel_rfl) trivial (q_load1 Tryd.underlying27 rfl rfl (fun w h => h.cell_old hb1)) rfl (fun _ h => h) ?_
  refine wpd_p 1 rfl (by kernel_rfl) trivial (q_pure rfl) rfl sk0 ?_
  refine wpd_p 2 rfl (by kernel_rfl) trivial (q_idxW Tryd.underlying27 Tryd.ti23 rfl rfl (by first | assumption | exact SV.nil | exact SV.slv (by assumption) (by omega) (by omega) | exact arv_sv (by first | decide | (simp only [maxLen]; omega))) (by first | omega | (simp only [maxLen]; omega))) rfl sk0 ?_
  refine wpd_q 3 rfl (by kernel_rfl) trivial (q_ldWN Tryd.underlying23 rfl Tryd.ti23 rfl (fun w h => by first | exact h.seenV | exact h.seenA (by first | decide | (simp only [maxLen]; omega)) (by first | with_reducible rfl | (simp only [v8s_length, v32s_length, vis_length, vns_length, v64s_length, List.length_replicate]; first | done | with_reducible assumption | omega) | (rw [v8s_length]; (first | with_reducible assumption | with_reducible exact shortF_length _ | with_reducible exact stepF_length _ _ _ | with_reducible exact sumF_length _ | with_reducible exact climbF_length _ (by first | with_reducible assumption | with_reducible exact shortF_length _ | with_reducible exact beginF_length _ _ | with_reducible exact getD_mem_len (by assumption) (by omega)) _ _ _ | with_reducible exact beginF_length _ _ | with_reducible exact chainF_length _ _ _ | with_reducible exact getD_mem_len (by assumption) (by omega) | (with_reducible exact List.length_replicate))) | rfl) | exact h.seen_old (by assumption) | exact h.seen_oldL (by assumption) (by assumption) | exact h.seen_fact (by repeat (first | exact List.mem_cons_self .. | apply List.mem_cons_of_mem))) (v8s (chs.getD i [])) (part8 hlc (by omega)) ((v8s_length _).trans (getD_mem_len hlc (by omega)))) rfl (fun _ h => h) ?_
  refine wpd_p 4 rfl (by kernel_rfl) trivial (q_pure rfl) rfl sk0 ?_
  refine wpd_q 5 rfl (by kernel_rfl) trivial (q_load1 Tryd.underlying75 rfl rfl (fun w h => h.cell_old hb2)) rfl (fun _ h => h) ?_
  refine wpd_p 6 rfl (by kernel_rfl) trivial (q_pure rfl) rfl sk0 ?_
  refine wpd_p 7 rfl (by kernel_rfl) trivial (q_idxW1 Tryd.underlying75 Tryd.ti3 rfl rfl (by first | assumption | exact SV.nil | exact SV.slv (by assumption) (by omega) (by omega) | exact arv_sv (by first | decide | (simp only [maxLen]; omega))) (by first | omega | (simp only [maxLen]; omega))) rfl sk0 ?_
  refine wpd_q 8 rfl (by kernel_rfl) trivial (q_ldW Tryd.underlying3 rfl rfl (fun w h => by first | exact h.seenV | exact h.seenA (by first | decide | (simp only [maxLen]; omega)) (by first | with_reducible rfl | (simp only [v8s_length, v32s_length, vis_length, vns_length, v64s_length, List.length_replicate]; first | done | with_reducible assumption | omega) | (rw [v8s_length]; (first | with_reducible assumption | with_reducible exact shortF_length _ | with_reducible exact stepF_length _ _ _ | with_reducible exact sumF_length _ | with_reducible exact climbF_length _ (by first | with_reducible assumption | with_reducible exact shortF_length _ | with_reducible exact beginF_length _ _ | with_reducible exact getD_mem_len (by assumption) (by omega)) _ _ _ | with_reducible exact beginF_length _ _ | with_reducible exact chainF_length _ _ _ | with_reducible exact getD_mem_len (by assumption) (by omega) | (with_reducible exact List.length_replicate))) | rfl) | exact h.seen_old (by assumption) | exact h.seen_oldL (by assumption) (by assumption) | exact h.seen_fact (by repeat (first | exact List.mem_cons_self .. | apply List.mem_cons_of_mem))) (by first | exact vns_get (by first | decide | omega | (simp; omega) | (simp only [v8s_length, v32s_length, vis_length, vns_length, v64s_length]; omega)) | rfl)) rfl (fun _ h => h) ?_
  refine wpd_t 9 rfl (by kernel_rfl) trivial (t_pur Tryd.hb45 rfl fun w h => climb _ _ _ 15 w (by (first | with_reducible assumption | with_reducible exact shortF_length _ | with_reducible exact stepF_length _ _ _ | with_reducible exact sumF_length _ | with_reducible exact climbF_length _ (by first | with_reducible assumption | with_reducible exact shortF_length _ | with_reducible exact beginF_length _ _ | with_reducible exact getD_mem_len (by assumption) (by omega)) _ _ _ | with_reducible exact beginF_length _ _ | with_reducible exact chainF_length _ _ _ | with_reducible exact getD_mem_len (by assumption) (by omega) | (with_reducible exact List.length_replicate))) (glob h hG) (by omega) (by omega)) rfl (fun _ => sk0) (fun b14 => ?_)
  refine wpd_t0 10 rfl (by kernel_rfl) trivial (t_stA Tryd.ti23 rfl rfl (by first | with_reducible rfl | (simp only [v8s_length, v32s_length, vis_length, vns_length, v64s_length, List.length_replicate]; first | done | with_reducible assumption | omega) | (rw [v8s_length]; (first | with_reducible assumption | with_reducible exact shortF_length _ | with_reducible exact stepF_length _ _ _ | with_reducible exact sumF_length _ | with_reducible exact climbF_length _ (by first | with_reducible assumption | with_reducible exact shortF_length _ | with_reducible exact beginF_length _ _ | with_reducible exact getD_mem_len (by assumption) (by omega)) _ _ _ | with_reducible exact beginF_length _ _ | with_reducible exact chainF_length _ _ _ | with_reducible exact getD_mem_len (by assumption) (by omega) | (with_reducible exact List.length_replicate))) | rfl) (v8s_one _) (by first | with_reducible rfl | (simp only [v8s_length, v32s_length, vis_length, vns_length, v64s_length, List.length_replicate]; first | done | with_reducible assumption | omega) | (rw [v8s_length]; (first | with_reducible assumption | with_reducible exact shortF_length _ | with_reducible exact stepF_length _ _ _ | with_reducible exact sumF_length _ | with_reducible exact climbF_length _ (by first | with_reducible assumption | with_reducible exact shortF_length _ | with_reducible exact beginF_length _ _ | with_reducible exact getD_mem_len (by assumption) (by omega)) _ _ _ | with_reducible exact beginF_length _ _ | with_reducible exact chainF_length _ _ _ | with_reducible exact getD_mem_len (by assumption) (by omega) | (with_reducible exact List.length_replicate))) | rfl)) (fun _ => skk rfl) (fun _ => ?_)
  refine wpd_done (by kernel_rfl) ?_
  refine ex_then ?_
  refine wpc_ret ?_
  refine retv1 (.inl rfl) rfl (rv_agg Tryd.underlying23 rfl Tryd.ti23 rfl (fun w h => h.atB) ((v8s_length _).trans (recE_length bs chs hlc i (by omega)))) ?_
  exact fun w h => ⟨rfl, h.below⟩

set_option maxRecDepth 100000 in
theorem recover (bv : Value) (bs : List UInt8) (cv : Value) (chs : List (List UInt8)) (w : World) (hbv : Seen w.cell? bv bs.length 1 (v8s bs)) (hcv : Seen w.cell? cv chs.length 16 (v8s chs.flatten)) (hlchs : ∀ x ∈ chs, x.length = 16) (hG : Glb w) :
    Calls Tryd.prog 27 [bv, cv].toArray w (Pur w (.tuple #[.agg (v8s (recF bs chs)).toArray, .int .i64 (recEr chs)])) := by
  have sbv := hbv.sv
  have lbv := sbv.le
  simp only [maxLen] at lbv
  have scv := hcv.sv
  have lcv := scv.le
  simp only [maxLen] at lcv
  refine enter (m := 15) (R := Mem w [] [] []) Tryd.func27 rfl rfl (Nat.le_of_ble_eq_true rfl) (Mem.start w) ?_
  refine wpc_seq ?_
  refine wpc_region ?_
  refine wpl_t (t_box rfl [cv] scv.cells) rfl (fun b3 => ?_)
  refine wpl_t (t_alloc Tryd.ti23 (v8s (List.replicate 16 0)) (by rfl)) rfl (fun b4 => ?_)
  refine wpl_q (q_pure rfl) rfl ?_
  refine wpl_nil ?_
  refine ex_then ?_
  refine wpc_seq ?_
  refine wpc_seq ?_
  refine wpc_region ?_
  refine wpl_q (q_load1 Tryd.underlying27 rfl rfl (fun w h => h.cell_blk (by repeat (first | exact List.mem_cons_self .. | apply List.mem_cons_of_mem)) rfl)) rfl ?_
  refine wpl_q (q_lenW Tryd.underlying27 rfl (by first | assumption | exact SV.nil | exact SV.slv (by assumption) (by omega) (by omega) | exact arv_sv (by first | decide | (simp only [maxLen]; omega)))) rfl ?_
  refine wpl_q (q_pure rfl) rfl ?_
  refine wpl_nil ?_
  refine ex_then ?_
  refine wpc_cond rfl (fun hc9 => ?_) (fun hc9 => ?_)
  ·
    simp only [bne_iff_ne, ne_eq, decide_eq_true_eq] at hc9
    have hne : chs.length ≠ 35 := by omega
    have hr : recF bs chs = List.replicate 16 0 := if_neg hne
    have he : recEr chs = 12 := if_neg hne
    refine wpc_seq ?_
    refine wpc_region ?_
    refine wpl_q (q_build (cs := (v8s (List.replicate 16 0))) rfl (built_array Tryd.underlying23 Tryd.ti23 Tryd.ti5 rfl)) rfl ?_
    refine wpl_t0 (t_stA Tryd.ti23 rfl rfl (by first | with_reducible rfl | (simp only [v8s_length, v32s_length, vis_length, vns_length, v64s_length, List.length_replicate]; first | done | with_reducible assumption | omega) | (rw [v8s_length]; (first | with_reducible assumption | with_reducible exact shortF_length _ | with_reducible exact stepF_length _ _ _ | with_reducible exact sumF_length _ | with_reducible exact climbF_length _ (by first | with_reducible assumption | with_reducible exact shortF_length _ | with_reducible exact beginF_length _ _ | with_reducible exact getD_mem_len (by assumption) (by omega)) _ _ _ | with_reducible exact beginF_length _ _ | with_reducible exact chainF_length _ _ _ | with_reducible exact getD_mem_len (by assumption) (by omega) | (with_reducible exact List.length_replicate))) | rfl) (v8s_one _) (by first | with_reducible rfl | (simp only [v8s_length, v32s_length, vis_length, vns_length, v64s_length, List.length_replicate]; first | done | with_reducible assumption | omega) | (rw [v8s_length]; (first | with_reducible assumption | with_reducible exact shortF_length _ | with_reducible exact stepF_length _ _ _ | with_reducible exact sumF_length _ | with_reducible exact climbF_length _ (by first | with_reducible assumption | with_reducible exact shortF_length _ | with_reducible exact beginF_length _ _ | with_reducible exact getD_mem_len (by assumption) (by omega)) _ _ _ | with_reducible exact beginF_length _ _ | with_reducible exact chainF_length _ _ _ | with_reducible exact getD_mem_len (by assumption) (by omega) | (with_reducible exact List.length_replicate))) | rfl)) (fun _ => ?_)
    refine wpl_q (q_pure rfl) rfl ?_
    refine wpl_nil ?_
    refine ex_then ?_
    refine wpc_ret ?_
    refine ex_then_ret ?_
    refine retv2 (.inl rfl) rfl (rv_agg Tryd.underlying23 rfl Tryd.ti23 rfl (fun w h => h.atB) (by first | with_reducible rfl | (simp only [v8s_length, v32s_length, vis_length, vns_length, v64s_length, List.length_replicate]; first | done | with_reducible assumption | omega) | (rw [v8s_length]; (first | with_reducible assumption | with_reducible exact shortF_length _ | with_reducible exact stepF_length _ _ _ | with_reducible exact sumF_length _ | with_reducible exact climbF_length _ (by first | with_reducible assumption | with_reducible exact shortF_length _ | with_reducible exact beginF_length _ _ | with_reducible exact getD_mem_len (by assumption) (by omega)) _ _ _ | with_reducible exact beginF_length _ _ | with_reducible exact chainF_length _ _ _ | with_reducible exact getD_mem_len (by assumption) (by omega) | (with_reducible exact List.length_replicate))) | rfl)) (rv_tmp rfl) ?_
    exact fun w h => ⟨by rw [hr, he], h.below⟩
  ·
    simp only [bne_eq_false_iff_eq, decide_eq_false_iff_not, ne_eq, Decidable.not_not] at hc9
    have heq : chs.length = 35 := by omega
    have hr : recF bs chs = shortF (accF (recE bs chs) 35) := if_pos heq
    have he : recEr chs = 0 := if_pos heq
    refine wpc_skip ?_
    refine ex_then ?_
    refine wpc_seq ?_
    refine wpc_region ?_
    refine wpl_q (q_pure rfl) rfl ?_
    refine wpl_tp (t_callP1 Tryd.hb42 rfl fun w h => digits _ _ w (by first | exact Seen.re8 h.seenV | exact Seen.reS h.seenV (by first | assumption | exact signF_all _ _ | exact sg_all _ _) (by decide) | exact Seen.reN h.seenV | exact h.seenV | exact h.seenA (by first | decide | (simp only [maxLen]; omega)) (by first | with_reducible rfl | (simp only [v8s_length, v32s_length, vis_length, vns_length, v64s_length, List.length_replicate]; first | done | with_reducible assumption | omega) | (rw [v8s_length]; (first | with_reducible assumption | with_reducible exact shortF_length _ | with_reducible exact stepF_length _ _ _ | with_reducible exact sumF_length _ | with_reducible exact climbF_length _ (by first | with_reducible assumption | with_reducible exact shortF_length _ | with_reducible exact beginF_length _ _ | with_reducible exact getD_mem_len (by assumption) (by omega)) _ _ _ | with_reducible exact beginF_length _ _ | with_reducible exact chainF_length _ _ _ | with_reducible exact getD_mem_len (by assumption) (by omega) | (with_reducible exact List.length_replicate))) | rfl) | exact h.seen_old (by assumption) | exact h.seen_oldL (by assumption) (by assumption) | exact h.seen_fact (by repeat (first | exact List.mem_cons_self .. | apply List.mem_cons_of_mem))) (glob h hG)) rfl (fun b12 p12 => ?_)
    refine wpl_t (t_alloc Tryd.ti75 [.slice none 0 0] rfl) rfl (fun b6 => ?_)
    refine wpl_t0 (t_st1 Tryd.ti75 rfl rfl (SV.one (by first | assumption | exact SV.nil | exact SV.slv (by assumption) (by omega) (by omega) | exact arv_sv (by first | decide | (simp only [maxLen]; omega)))) (by first | decide | omega | (simp; omega) | (simp only [v8s_length, v32s_length, vis_length, vns_length, v64s_length]; omega)) _ rfl) (fun _ => ?_)
    refine wpl_nil ?_
    refine ex_then ?_
    refine wpc_seq ?_
    refine wpc_region ?_
    refine wpl_q (q_fn (us := []) (vs := [_, _]) rfl rfl) rfl ?_
    refine wpl_t (t_pur Tryd.hb43 rfl fun w h => ends 44 _ (recE bs chs) w (glob h hG) Tryd.hb44 (fun i hi => recE_length bs chs hlchs i (by omega)) fun i w1 hi h1 => recover1 i b3 b6 cv b12 chs bs w1 (h1.cell_old (h.cell_blk (by repeat (first | exact List.mem_cons_self .. | apply List.mem_cons_of_mem)) rfl)) (h1.cell_old (h.cell_blk (by repeat (first | exact List.mem_cons_self .. | apply List.mem_cons_of_mem)) rfl)) (h1.seen_old (h.seen_old hcv)) hlchs (h1.seen_old h.seenV) hi heq (glob h1 (glob h hG))) rfl (fun b14 => ?_)
    refine wpl_t0 (t_stA Tryd.ti23 rfl rfl (by first | with_reducible rfl | (simp only [v8s_length, v32s_length, vis_length, vns_length, v64s_length, List.length_replicate]; first | done | with_reducible assumption | omega) | (rw [v8s_length]; (first | with_reducible assumption | with_reducible exact shortF_length _ | with_reducible exact stepF_length _ _ _ | with_reducible exact sumF_length _ | with_reducible exact climbF_length _ (by first | with_reducible assumption | with_reducible exact shortF_length _ | with_reducible exact beginF_length _ _ | with_reducible exact getD_mem_len (by assumption) (by omega)) _ _ _ | with_reducible exact beginF_length _ _ | with_reducible exact chainF_length _ _ _ | with_reducible exact getD_mem_len (by assumption) (by omega) | (with_reducible exact List.length_replicate))) | rfl) (v8s_one _) (by first | with_reducible rfl | (simp only [v8s_length, v32s_length, vis_length, vns_length, v64s_length, List.length_replicate]; first | done | with_reducible assumption | omega) | (rw [v8s_length]; (first | with_reducible assumption | with_reducible exact shortF_length _ | with_reducible exact stepF_length _ _ _ | with_reducible exact sumF_length _ | with_reducible exact climbF_length _ (by first | with_reducible assumption | with_reducible exact shortF_length _ | with_reducible exact beginF_length _ _ | with_reducible exact getD_mem_len (by assumption) (by omega)) _ _ _ | with_reducible exact beginF_length _ _ | with_reducible exact chainF_length _ _ _ | with_reducible exact getD_mem_len (by assumption) (by omega) | (with_reducible exact List.length_replicate))) | rfl)) (fun _ => ?_)
    refine wpl_q (q_pure rfl) rfl ?_
    refine wpl_nil ?_
    refine ex_then ?_
    refine wpc_ret ?_
    refine retv2 (.inl rfl) rfl (rv_agg Tryd.underlying23 rfl Tryd.ti23 rfl (fun w h => h.atB) (by first | with_reducible rfl | (simp only [v8s_length, v32s_length, vis_length, vns_length, v64s_length, List.length_replicate]; first | done | with_reducible assumption | omega) | (rw [v8s_length]; (first | with_reducible assumption | with_reducible exact shortF_length _ | with_reducible exact stepF_length _ _ _ | with_reducible exact sumF_length _ | with_reducible exact climbF_length _ (by first | with_reducible assumption | with_reducible exact shortF_length _ | with_reducible exact beginF_length _ _ | with_reducible exact getD_mem_len (by assumption) (by omega)) _ _ _ | with_reducible exact beginF_length _ _ | with_reducible exact chainF_length _ _ _ | with_reducible exact getD_mem_len (by assumption) (by omega) | (with_reducible exact List.length_replicate))) | rfl)) (rv_tmp rfl) ?_
    exact fun w h => ⟨by rw [hr, he], h.below⟩

end Go.Proofs.YtbkgfndojlhdoaaDoor
