/- merkle: keys. -/
import Derived.Test.YtbkgfndojlhdoaaDoorMF
namespace Go.Proofs.YtbkgfndojlhdoaaDoor
set_option linter.unusedSimpArgs false
set_option linter.unusedVariables false
open Go Go.PL Go.RowKit

theorem list16 {xs : List UInt8} (h : xs.length = 16) : ∃ a0 a1 a2 a3 a4 a5 a6 a7 a8 a9 a10 a11 a12 a13 a14 a15, xs = [a0, a1, a2, a3, a4, a5, a6, a7, a8, a9, a10, a11, a12, a13, a14, a15] := by
  iterate 16 (cases xs with | nil => simp at h | cons a xs => ?_)
  cases xs with
  | nil => exact ⟨_, _, _, _, _, _, _, _, _, _, _, _, _, _, _, _, rfl⟩
  | cons a xs => simp at h
theorem built_key (xs : List UInt8) (ht : Int) (h : xs.length = 16) : Tryd.prog.built 25 [(0, .agg (v8s xs).toArray), (1, .int .i64 ht)] = some (v8s xs ++ [Value.int .i64 ht]).toArray := by
  obtain ⟨a0, a1, a2, a3, a4, a5, a6, a7, a8, a9, a10, a11, a12, a13, a14, a15, rfl⟩ := list16 h
  kernel_rfl
theorem built_tree (xs : List UInt8) (ht : Int) (h : xs.length = 16) : Tryd.prog.built 69 [(0, .agg (v8s xs).toArray), (1, .int .i64 ht)] = some (v8s xs ++ [Value.int .i64 ht]).toArray := by
  obtain ⟨a0, a1, a2, a3, a4, a5, a6, a7, a8, a9, a10, a11, a12, a13, a14, a15, rfl⟩ := list16 h
  kernel_rfl
theorem built_key0 : Tryd.prog.built 25 [] = some (v8s (List.replicate 16 0) ++ [Value.int .i64 0]).toArray := by kernel_rfl
theorem built_sig0 : Tryd.prog.built 29 [] = some #[.int .i64 0, .slice none 0 0, .slice none 0 0] := by kernel_rfl
theorem built_sig2 {v1 : Value} {n1 : Nat} (h1 : SV v1 n1) (idx : Int) : Tryd.prog.built 29 [(0, .int .i64 idx), (1, v1)] = some #[.int .i64 idx, v1, .slice none 0 0] := by
  obtain ⟨a1, c1, rfl, _⟩ := h1
  rfl
theorem key_one (xs : List UInt8) (ht : Int) : ∀ u ∈ v8s xs ++ [Value.int .i64 ht], u.oneCell' = true := fun u hu => by
  rcases List.mem_append.1 hu with hu | hu
  · exact v8s_one _ u hu
  · rw [List.mem_singleton.1 hu]; rfl
def keyR (s : List UInt8) (ht : Int) : List UInt8 := if 0 ≤ ht ∧ ht ≤ 4 then nodeF s ht.toNat 0 else List.replicate 16 0
def keyH (ht : Int) : Int := if 0 ≤ ht ∧ ht ≤ 4 then ht else 0
def keyE (ht : Int) : Int := if 0 ≤ ht ∧ ht ≤ 4 then 0 else 2
theorem keyR_length (s : List UInt8) (ht : Int) : (keyR s ht).length = 16 := by
  unfold keyR; split
  · exact nodeF_length _ _ _
  · exact List.length_replicate
def okS (ht idx : Int) : Prop := (0 ≤ ht ∧ ht ≤ 4) ∧ 0 ≤ idx ∧ idx < ((2 ^ ht.toNat : Nat) : Int)
instance (ht idx : Int) : Decidable (okS ht idx) := by unfold okS; infer_instance
def pathF (s : List UInt8) (k m : Nat) : List (List UInt8) := (List.range m).map fun l => nodeF s l ((k / 2 ^ l) ^^^ 1)
theorem pathF_length (s : List UInt8) (k m : Nat) : (pathF s k m).length = m := by simp [pathF]
theorem pathF_all (s : List UInt8) (k m : Nat) : ∀ x ∈ pathF s k m, x.length = 16 := fun x hx => by
  obtain ⟨i, _, rfl⟩ := List.mem_map.1 hx; exact nodeF_length _ _ _
theorem pathF_succ (s : List UInt8) (k m : Nat) : pathF s k (m + 1) = pathF s k m ++ [nodeF s m ((k / 2 ^ m) ^^^ 1)] := by simp [pathF, List.range_succ]
theorem sib_lt {q m k : Nat} (h : q < 2 ^ m) (hk : k < m) : (q / 2 ^ k) ^^^ 1 < 2 ^ (m - k) := by
  refine Nat.xor_lt_two_pow ?_ ?_
  · rw [Nat.div_lt_iff_lt_mul (Nat.two_pow_pos k), ← Nat.pow_add, Nat.sub_add_cancel (Nat.le_of_lt hk)]; exact h
  · exact Nat.one_lt_two_pow (by omega)
def sigC (s : List UInt8) (ht idx : Int) (bs : List UInt8) : List (List UInt8) := if okS ht idx then signF (leafF s idx.toNat) bs else []
def sigP (s : List UInt8) (ht idx : Int) : List (List UInt8) := if okS ht idx then pathF s idx.toNat ht.toNat else []
def sigI (ht idx : Int) : Int := if okS ht idx then idx else 0
def sigE (ht idx : Int) : Int := if okS ht idx then 0 else 2
theorem sigC_all (s : List UInt8) (ht idx : Int) (bs : List UInt8) : ∀ x ∈ sigC s ht idx bs, x.length = 16 := by
  unfold sigC; split
  · exact signF_all _ _
  · intro x hx; cases hx
theorem sigP_all (s : List UInt8) (ht idx : Int) : ∀ x ∈ sigP s ht idx, x.length = 16 := by
  unfold sigP; split
  · exact pathF_all _ _ _
  · intro x hx; cases hx
theorem okS_nat {m q : Nat} (hm : m ≤ 4) (hq : q < 2 ^ m) : okS (m : Int) (q : Int) := ⟨⟨by omega, by omega⟩, by omega, by rw [Int.toNat_natCast]; omega⟩

set_option maxRecDepth 100000 in
theorem key7 (xs : List UInt8) (ht : Int) (w : World) (hxs : xs.length = 16) (hG : Glb w) :
    Calls Tryd.prog 19 [.agg (v8s xs).toArray, .int .i64 ht].toArray w (Pur w (.tuple #[.agg (v8s (keyR xs ht) ++ [Value.int .i64 (keyH ht)]).toArray, .int .i64 (keyE ht)])) := by
  refine enter (m := 21) (R := Mem w [] [] []) Tryd.func19 rfl rfl (Nat.le_of_ble_eq_true rfl) (Mem.start w) ?_
  refine wpc_seq ?_
  refine wpc_region ?_
  refine wpl_t (t_box rfl (v8s xs) rfl) rfl (fun b2 => ?_)
  refine wpl_t (t_alloc Tryd.ti25 _ rfl) rfl (fun b4 => ?_)
  refine wpl_q (q_pure rfl) rfl ?_
  refine wpl_nil ?_
  refine ex_then ?_
  refine wpc_seq ?_
  refine wpc_seq ?_
  refine wpc_region ?_
  refine wpl_q (q_pure rfl) rfl ?_
  refine wpl_t (t_pur Tryd.hb32 rfl fun w h => good _ w) rfl (fun b7 => ?_)
  refine wpl_q (q_pure rfl) rfl ?_
  refine wpl_nil ?_
  refine ex_then ?_
  refine wpc_cond rfl (fun hc8 => ?_) (fun hc8 => ?_)
  ·
    simp only [Bool.not_eq_true', decide_eq_false_iff_not] at hc8
    have e1 : keyR xs ht = (List.replicate 16 0) := if_neg hc8
    have e2 : keyH ht = 0 := if_neg hc8
    have e3 : keyE ht = 2 := if_neg hc8
    refine wpc_seq ?_
    refine wpc_region ?_
    refine wpl_q (q_build (cs := v8s (List.replicate 16 0) ++ [Value.int .i64 0]) rfl built_key0) rfl ?_
    refine wpl_t0 (t_stA Tryd.ti25 rfl rfl (by first | (with_reducible exact key_len _ _ (by (first | with_reducible assumption | with_reducible exact shortF_length _ | with_reducible exact stepF_length _ _ _ | with_reducible exact sumF_length _ | with_reducible exact climbF_length _ (by first | with_reducible assumption | with_reducible exact shortF_length _ | with_reducible exact beginF_length _ _ | with_reducible exact getD_mem_len (by assumption) (by omega)) _ _ _ | with_reducible exact beginF_length _ _ | with_reducible exact chainF_length _ _ _ | with_reducible exact recF_length _ _ | with_reducible exact publicF_length _ | with_reducible exact leafF_length _ _ | with_reducible exact joinedF_length _ _ | with_reducible exact nodeF_length _ _ _ | with_reducible exact rootF_length _ _ _ _ _ | with_reducible exact getD_mem_len (by assumption) (by omega) | (with_reducible exact List.length_replicate)))) | with_reducible rfl | (simp only [v8s_length, v32s_length, vis_length, vns_length, v64s_length, List.length_replicate]; first | done | with_reducible assumption | omega) | (rw [v8s_length]; (first | with_reducible assumption | with_reducible exact shortF_length _ | with_reducible exact stepF_length _ _ _ | with_reducible exact sumF_length _ | with_reducible exact climbF_length _ (by first | with_reducible assumption | with_reducible exact shortF_length _ | with_reducible exact beginF_length _ _ | with_reducible exact getD_mem_len (by assumption) (by omega)) _ _ _ | with_reducible exact beginF_length _ _ | with_reducible exact chainF_length _ _ _ | with_reducible exact recF_length _ _ | with_reducible exact publicF_length _ | with_reducible exact leafF_length _ _ | with_reducible exact joinedF_length _ _ | with_reducible exact nodeF_length _ _ _ | with_reducible exact rootF_length _ _ _ _ _ | with_reducible exact getD_mem_len (by assumption) (by omega) | (with_reducible exact List.length_replicate))) | rfl) (by first | with_reducible exact key_one _ _ | (with_reducible exact sig_one (by assumption) (by assumption) _) | exact v8s_one _ | exact v32s_one _ | exact v64s_one _ | exact vis_one _ | exact vns_one _ | exact v16s_one _ | (intro u hu; simp at hu; rcases hu with h | h <;> subst h <;> rfl) | (intro u hu; simp only [List.mem_cons, List.not_mem_nil, or_false] at hu; subst hu; exact SV.one (by assumption)) | (simp [Value.oneCell']; done)) (by first | (with_reducible exact key_len _ _ (by (first | with_reducible assumption | with_reducible exact shortF_length _ | with_reducible exact stepF_length _ _ _ | with_reducible exact sumF_length _ | with_reducible exact climbF_length _ (by first | with_reducible assumption | with_reducible exact shortF_length _ | with_reducible exact beginF_length _ _ | with_reducible exact getD_mem_len (by assumption) (by omega)) _ _ _ | with_reducible exact beginF_length _ _ | with_reducible exact chainF_length _ _ _ | with_reducible exact recF_length _ _ | with_reducible exact publicF_length _ | with_reducible exact leafF_length _ _ | with_reducible exact joinedF_length _ _ | with_reducible exact nodeF_length _ _ _ | with_reducible exact rootF_length _ _ _ _ _ | with_reducible exact getD_mem_len (by assumption) (by omega) | (with_reducible exact List.length_replicate)))) | with_reducible rfl | (simp only [v8s_length, v32s_length, vis_length, vns_length, v64s_length, List.length_replicate]; first | done | with_reducible assumption | omega) | (rw [v8s_length]; (first | with_reducible assumption | with_reducible exact shortF_length _ | with_reducible exact stepF_length _ _ _ | with_reducible exact sumF_length _ | with_reducible exact climbF_length _ (by first | with_reducible assumption | with_reducible exact shortF_length _ | with_reducible exact beginF_length _ _ | with_reducible exact getD_mem_len (by assumption) (by omega)) _ _ _ | with_reducible exact beginF_length _ _ | with_reducible exact chainF_length _ _ _ | with_reducible exact recF_length _ _ | with_reducible exact publicF_length _ | with_reducible exact leafF_length _ _ | with_reducible exact joinedF_length _ _ | with_reducible exact nodeF_length _ _ _ | with_reducible exact rootF_length _ _ _ _ _ | with_reducible exact getD_mem_len (by assumption) (by omega) | (with_reducible exact List.length_replicate))) | rfl)) (fun _ => ?_)
    refine wpl_q (q_pure rfl) rfl ?_
    refine wpl_nil ?_
    refine ex_then ?_
    refine wpc_ret ?_
    refine ex_then_ret ?_
    refine retv2 (.inl rfl) rfl (rv_agg Tryd.underlying25 rfl Tryd.ti25 rfl (fun w h => h.atB) (key_len _ _ (by (first | with_reducible assumption | with_reducible exact shortF_length _ | with_reducible exact stepF_length _ _ _ | with_reducible exact sumF_length _ | with_reducible exact climbF_length _ (by first | with_reducible assumption | with_reducible exact shortF_length _ | with_reducible exact beginF_length _ _ | with_reducible exact getD_mem_len (by assumption) (by omega)) _ _ _ | with_reducible exact beginF_length _ _ | with_reducible exact chainF_length _ _ _ | with_reducible exact recF_length _ _ | with_reducible exact publicF_length _ | with_reducible exact leafF_length _ _ | with_reducible exact joinedF_length _ _ | with_reducible exact nodeF_length _ _ _ | with_reducible exact rootF_length _ _ _ _ _ | with_reducible exact getD_mem_len (by assumption) (by omega) | (with_reducible exact List.length_replicate))))) (rv_tmp rfl) ?_
    exact fun w h => ⟨by rw [e1, e2, e3], h.below⟩
  ·
    simp only [Bool.not_eq_false', decide_eq_true_eq] at hc8
    obtain ⟨m, rfl⟩ : ∃ m : Nat, ht = (m : Int) := ⟨ht.toNat, by omega⟩
    have e1 : keyR xs m = nodeF xs m 0 := if_pos hc8
    have e2 : keyH m = m := if_pos hc8
    have e3 : keyE m = 0 := if_pos hc8
    refine wpc_skip ?_
    refine ex_then ?_
    refine wpc_seq ?_
    refine wpc_region ?_
    refine wpl_q (q_ldN Tryd.underlying23 rfl Tryd.ti23 rfl (by first | (with_reducible exact key_len _ _ (by (first | with_reducible assumption | with_reducible exact shortF_length _ | with_reducible exact stepF_length _ _ _ | with_reducible exact sumF_length _ | with_reducible exact climbF_length _ (by first | with_reducible assumption | with_reducible exact shortF_length _ | with_reducible exact beginF_length _ _ | with_reducible exact getD_mem_len (by assumption) (by omega)) _ _ _ | with_reducible exact beginF_length _ _ | with_reducible exact chainF_length _ _ _ | with_reducible exact recF_length _ _ | with_reducible exact publicF_length _ | with_reducible exact leafF_length _ _ | with_reducible exact joinedF_length _ _ | with_reducible exact nodeF_length _ _ _ | with_reducible exact rootF_length _ _ _ _ _ | with_reducible exact getD_mem_len (by assumption) (by omega) | (with_reducible exact List.length_replicate)))) | with_reducible rfl | (simp only [v8s_length, v32s_length, vis_length, vns_length, v64s_length, List.length_replicate]; first | done | with_reducible assumption | omega) | (rw [v8s_length]; (first | with_reducible assumption | with_reducible exact shortF_length _ | with_reducible exact stepF_length _ _ _ | with_reducible exact sumF_length _ | with_reducible exact climbF_length _ (by first | with_reducible assumption | with_reducible exact shortF_length _ | with_reducible exact beginF_length _ _ | with_reducible exact getD_mem_len (by assumption) (by omega)) _ _ _ | with_reducible exact beginF_length _ _ | with_reducible exact chainF_length _ _ _ | with_reducible exact recF_length _ _ | with_reducible exact publicF_length _ | with_reducible exact leafF_length _ _ | with_reducible exact joinedF_length _ _ | with_reducible exact nodeF_length _ _ _ | with_reducible exact rootF_length _ _ _ _ _ | with_reducible exact getD_mem_len (by assumption) (by omega) | (with_reducible exact List.length_replicate))) | rfl)) rfl ?_
    refine wpl_q (q_pure rfl) rfl ?_
    refine wpl_q (q_build (cs := v8s xs ++ [Value.int .i64 ((m : Nat) : Int)]) rfl (built_tree _ _ hxs)) rfl ?_
    refine wpl_tp (t_callPF Tryd.hb35 rfl fun w h => levels7 _ _ w (by (first | with_reducible assumption | with_reducible exact shortF_length _ | with_reducible exact stepF_length _ _ _ | with_reducible exact sumF_length _ | with_reducible exact climbF_length _ (by first | with_reducible assumption | with_reducible exact shortF_length _ | with_reducible exact beginF_length _ _ | with_reducible exact getD_mem_len (by assumption) (by omega)) _ _ _ | with_reducible exact beginF_length _ _ | with_reducible exact chainF_length _ _ _ | with_reducible exact recF_length _ _ | with_reducible exact publicF_length _ | with_reducible exact leafF_length _ _ | with_reducible exact joinedF_length _ _ | with_reducible exact nodeF_length _ _ _ | with_reducible exact rootF_length _ _ _ _ _ | with_reducible exact getD_mem_len (by assumption) (by omega) | (with_reducible exact List.length_replicate))) (by omega) (glob h hG)) rfl (fun b13 p13 => ?_)
    obtain ⟨hq1, hq2⟩ := p13
    obtain ⟨u, hu1, hu2, hu3⟩ := hq2.get (show m < m + 1 by omega)
    rw [Nat.sub_self] at hu2 hu3
    refine wpl_q (q_pure rfl) rfl ?_
    refine wpl_q (q_idxW1 Tryd.underlying67 Tryd.ti27 rfl rfl (by first | assumption | exact SV.nil | exact SV.slv (by assumption) (by omega) (by omega) | exact arv_sv (by first | decide | (simp only [maxLen]; omega))) (by first | omega | (simp only [maxLen]; omega) | (simp only [List.length_append, List.length_cons, List.length_nil, List.length_take, maxLen]; omega) | (simp only [List.length_append, List.length_cons, List.length_nil, List.length_take]; omega))) rfl ?_
    refine wpl_q (q_ldW Tryd.underlying27 rfl rfl (fun w h => by first | exact h.seenV | exact h.seenA (by first | decide | (simp only [maxLen]; omega)) (by first | (with_reducible exact key_len _ _ (by (first | with_reducible assumption | with_reducible exact shortF_length _ | with_reducible exact stepF_length _ _ _ | with_reducible exact sumF_length _ | with_reducible exact climbF_length _ (by first | with_reducible assumption | with_reducible exact shortF_length _ | with_reducible exact beginF_length _ _ | with_reducible exact getD_mem_len (by assumption) (by omega)) _ _ _ | with_reducible exact beginF_length _ _ | with_reducible exact chainF_length _ _ _ | with_reducible exact recF_length _ _ | with_reducible exact publicF_length _ | with_reducible exact leafF_length _ _ | with_reducible exact joinedF_length _ _ | with_reducible exact nodeF_length _ _ _ | with_reducible exact rootF_length _ _ _ _ _ | with_reducible exact getD_mem_len (by assumption) (by omega) | (with_reducible exact List.length_replicate)))) | with_reducible rfl | (simp only [v8s_length, v32s_length, vis_length, vns_length, v64s_length, List.length_replicate]; first | done | with_reducible assumption | omega) | (rw [v8s_length]; (first | with_reducible assumption | with_reducible exact shortF_length _ | with_reducible exact stepF_length _ _ _ | with_reducible exact sumF_length _ | with_reducible exact climbF_length _ (by first | with_reducible assumption | with_reducible exact shortF_length _ | with_reducible exact beginF_length _ _ | with_reducible exact getD_mem_len (by assumption) (by omega)) _ _ _ | with_reducible exact beginF_length _ _ | with_reducible exact chainF_length _ _ _ | with_reducible exact recF_length _ _ | with_reducible exact publicF_length _ | with_reducible exact leafF_length _ _ | with_reducible exact joinedF_length _ _ | with_reducible exact nodeF_length _ _ _ | with_reducible exact rootF_length _ _ _ _ _ | with_reducible exact getD_mem_len (by assumption) (by omega) | (with_reducible exact List.length_replicate))) | rfl) | exact h.seen_old (by assumption) | exact h.seen_oldL (by assumption) (by assumption) | exact h.seen_fact (by repeat (first | exact List.mem_cons_self .. | apply List.mem_cons_of_mem))) hu1) rfl ?_
    refine wpl_q (q_idxW (j := 0) Tryd.underlying27 Tryd.ti23 rfl rfl (by first | assumption | exact SV.nil | exact SV.slv (by assumption) (by omega) (by omega) | exact arv_sv (by first | decide | (simp only [maxLen]; omega))) (by first | omega | (simp only [maxLen]; omega) | (simp only [List.length_append, List.length_cons, List.length_nil, List.length_take, maxLen]; omega) | (simp only [List.length_append, List.length_cons, List.length_nil, List.length_take]; omega))) rfl ?_
    refine wpl_q (q_ldWN Tryd.underlying23 rfl Tryd.ti23 rfl (fun w h => h.rowsF (by repeat (first | exact List.mem_cons_self .. | apply List.mem_cons_of_mem)) hu2) (v8s ((lev xs m (2 ^ 0)).getD 0 [])) (part8 (lev_all _ _ _) (by rw [lev_length]; decide)) ((v8s_length _).trans (getD_mem_len (lev_all _ _ _) (by rw [lev_length]; decide)))) rfl ?_
    refine wpl_re 18 rfl (congrArg (fun l : List UInt8 => Value.agg (v8s l).toArray) (lev_get xs m (2 ^ 0) 0 (by decide))) ?_
    refine wpl_q (q_pure rfl) rfl ?_
    refine wpl_q (q_build (cs := v8s (nodeF xs m 0) ++ [Value.int .i64 ((m : Nat) : Int)]) rfl (built_key _ _ (nodeF_length _ _ _))) rfl ?_
    refine wpl_t0 (t_stA Tryd.ti25 rfl rfl (by first | (with_reducible exact key_len _ _ (by (first | with_reducible assumption | with_reducible exact shortF_length _ | with_reducible exact stepF_length _ _ _ | with_reducible exact sumF_length _ | with_reducible exact climbF_length _ (by first | with_reducible assumption | with_reducible exact shortF_length _ | with_reducible exact beginF_length _ _ | with_reducible exact getD_mem_len (by assumption) (by omega)) _ _ _ | with_reducible exact beginF_length _ _ | with_reducible exact chainF_length _ _ _ | with_reducible exact recF_length _ _ | with_reducible exact publicF_length _ | with_reducible exact leafF_length _ _ | with_reducible exact joinedF_length _ _ | with_reducible exact nodeF_length _ _ _ | with_reducible exact rootF_length _ _ _ _ _ | with_reducible exact getD_mem_len (by assumption) (by omega) | (with_reducible exact List.length_replicate)))) | with_reducible rfl | (simp only [v8s_length, v32s_length, vis_length, vns_length, v64s_length, List.length_replicate]; first | done | with_reducible assumption | omega) | (rw [v8s_length]; (first | with_reducible assumption | with_reducible exact shortF_length _ | with_reducible exact stepF_length _ _ _ | with_reducible exact sumF_length _ | with_reducible exact climbF_length _ (by first | with_reducible assumption | with_reducible exact shortF_length _ | with_reducible exact beginF_length _ _ | with_reducible exact getD_mem_len (by assumption) (by omega)) _ _ _ | with_reducible exact beginF_length _ _ | with_reducible exact chainF_length _ _ _ | with_reducible exact recF_length _ _ | with_reducible exact publicF_length _ | with_reducible exact leafF_length _ _ | with_reducible exact joinedF_length _ _ | with_reducible exact nodeF_length _ _ _ | with_reducible exact rootF_length _ _ _ _ _ | with_reducible exact getD_mem_len (by assumption) (by omega) | (with_reducible exact List.length_replicate))) | rfl) (by first | with_reducible exact key_one _ _ | (with_reducible exact sig_one (by assumption) (by assumption) _) | exact v8s_one _ | exact v32s_one _ | exact v64s_one _ | exact vis_one _ | exact vns_one _ | exact v16s_one _ | (intro u hu; simp at hu; rcases hu with h | h <;> subst h <;> rfl) | (intro u hu; simp only [List.mem_cons, List.not_mem_nil, or_false] at hu; subst hu; exact SV.one (by assumption)) | (simp [Value.oneCell']; done)) (by first | (with_reducible exact key_len _ _ (by (first | with_reducible assumption | with_reducible exact shortF_length _ | with_reducible exact stepF_length _ _ _ | with_reducible exact sumF_length _ | with_reducible exact climbF_length _ (by first | with_reducible assumption | with_reducible exact shortF_length _ | with_reducible exact beginF_length _ _ | with_reducible exact getD_mem_len (by assumption) (by omega)) _ _ _ | with_reducible exact beginF_length _ _ | with_reducible exact chainF_length _ _ _ | with_reducible exact recF_length _ _ | with_reducible exact publicF_length _ | with_reducible exact leafF_length _ _ | with_reducible exact joinedF_length _ _ | with_reducible exact nodeF_length _ _ _ | with_reducible exact rootF_length _ _ _ _ _ | with_reducible exact getD_mem_len (by assumption) (by omega) | (with_reducible exact List.length_replicate)))) | with_reducible rfl | (simp only [v8s_length, v32s_length, vis_length, vns_length, v64s_length, List.length_replicate]; first | done | with_reducible assumption | omega) | (rw [v8s_length]; (first | with_reducible assumption | with_reducible exact shortF_length _ | with_reducible exact stepF_length _ _ _ | with_reducible exact sumF_length _ | with_reducible exact climbF_length _ (by first | with_reducible assumption | with_reducible exact shortF_length _ | with_reducible exact beginF_length _ _ | with_reducible exact getD_mem_len (by assumption) (by omega)) _ _ _ | with_reducible exact beginF_length _ _ | with_reducible exact chainF_length _ _ _ | with_reducible exact recF_length _ _ | with_reducible exact publicF_length _ | with_reducible exact leafF_length _ _ | with_reducible exact joinedF_length _ _ | with_reducible exact nodeF_length _ _ _ | with_reducible exact rootF_length _ _ _ _ _ | with_reducible exact getD_mem_len (by assumption) (by omega) | (with_reducible exact List.length_replicate))) | rfl)) (fun _ => ?_)
    refine wpl_q (q_pure rfl) rfl ?_
    refine wpl_nil ?_
    refine ex_then ?_
    refine wpc_ret ?_
    refine retv2 (.inl rfl) rfl (rv_agg Tryd.underlying25 rfl Tryd.ti25 rfl (fun w h => h.atB) (key_len _ _ (by (first | with_reducible assumption | with_reducible exact shortF_length _ | with_reducible exact stepF_length _ _ _ | with_reducible exact sumF_length _ | with_reducible exact climbF_length _ (by first | with_reducible assumption | with_reducible exact shortF_length _ | with_reducible exact beginF_length _ _ | with_reducible exact getD_mem_len (by assumption) (by omega)) _ _ _ | with_reducible exact beginF_length _ _ | with_reducible exact chainF_length _ _ _ | with_reducible exact recF_length _ _ | with_reducible exact publicF_length _ | with_reducible exact leafF_length _ _ | with_reducible exact joinedF_length _ _ | with_reducible exact nodeF_length _ _ _ | with_reducible exact rootF_length _ _ _ _ _ | with_reducible exact getD_mem_len (by assumption) (by omega) | (with_reducible exact List.length_replicate))))) (rv_tmp rfl) ?_
    exact fun w h => ⟨by rw [e1, e2, e3], h.below⟩

end Go.Proofs.YtbkgfndojlhdoaaDoor
