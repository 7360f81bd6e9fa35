/- Base64. -/
import Derived.Test.YtlapmdiabhlbmaaDoorBB
namespace Go.Proofs.YtlapmdiabhlbmaaDoor
set_option linter.unusedSimpArgs false
set_option linter.unusedVariables false
open Go Go.PL Go.RowKit

def b64A : List UInt8 := [65, 66, 67, 68, 69, 70, 71, 72, 73, 74, 75, 76, 77, 78, 79, 80, 81, 82, 83, 84, 85, 86, 87, 88, 89, 90, 97, 98, 99, 100, 101, 102, 103, 104, 105, 106, 107, 108, 109, 110, 111, 112, 113, 114, 115, 116, 117, 118, 119, 120, 121, 122, 48, 49, 50, 51, 52, 53, 54, 55, 56, 57, 43, 47]
def word3 (xs : List UInt8) : Nat := ((xs.getD 0 0).toNat * 2 ^ 16 ||| (xs.getD 1 0).toNat * 2 ^ 8) ||| (xs.getD 2 0).toNat
def b64C (xs : List UInt8) (n k : Nat) : UInt8 := if n < k then 61 else b64A.getD (word3 xs / 2 ^ (18 - 6 * k) &&& 63) 0
def b64G (xs : List UInt8) (n : Nat) : Nat → List UInt8
  | 0 => []
  | k + 1 => b64G xs n k ++ [b64C xs n k]
theorem b64G_length (xs : List UInt8) (n : Nat) : ∀ k, (b64G xs n k).length = k
  | 0 => rfl
  | k + 1 => by rw [b64G, List.length_append, b64G_length xs n k]; rfl
def pad3 (ys : List UInt8) : List UInt8 := ys.take 3 ++ (List.replicate 3 (0 : UInt8)).drop (min ys.length 3)
theorem pad3_length (ys : List UInt8) : (pad3 ys).length = 3 := by
  unfold pad3; rw [List.length_append, List.length_take, List.length_drop, List.length_replicate]; omega
def b64F (xs : List UInt8) : Nat → List UInt8
  | 0 => []
  | g + 1 => b64F xs g ++ b64G (pad3 (xs.drop (3 * g))) (min (xs.drop (3 * g)).length 3) 4
theorem b64F_length (xs : List UInt8) : ∀ g, (b64F xs g).length = 4 * g
  | 0 => rfl
  | g + 1 => by rw [b64F, List.length_append, b64F_length xs g, b64G_length]; omega
def base64F (xs : List UInt8) : List UInt8 := b64F xs ((xs.length + 2) / 3)
theorem pad3_copy (ys : List UInt8) : (v8s (List.replicate 3 0)).take 0 ++ (v8s ys).take (min ys.length 3) ++ (v8s (List.replicate 3 0)).drop (0 + min ys.length 3) = v8s (pad3 ys) := by
  have h : ys.take (min ys.length 3) = ys.take 3 := by rw [← List.take_take, List.take_of_length_le (by rw [List.length_take]; omega)]
  rw [pad3, v8s_append, List.take_zero, List.nil_append, Nat.zero_add]
  simp only [v8s, ← List.map_take, ← List.map_drop, h]
theorem rest3 {r : Rd} {u : Value} {xs : List UInt8} {g : Nat} (h : Seen r u (xs.drop (3 * g)).length 1 (v8s (xs.drop (3 * g)))) :
    Seen r (slv u (min (xs.drop (3 * g)).length 3) (xs.drop (3 * g)).length 1) (xs.drop (3 * (g + 1))).length 1 (v8s (xs.drop (3 * (g + 1)))) := by
  have h2 := h.slv8 (min (xs.drop (3 * g)).length 3) (xs.drop (3 * g)).length (by omega) (Nat.le_refl _)
  have e : ((xs.drop (3 * g)).drop (min (xs.drop (3 * g)).length 3)).take ((xs.drop (3 * g)).length - min (xs.drop (3 * g)).length 3) = xs.drop (3 * (g + 1)) := by
    rw [List.take_of_length_le (by rw [List.length_drop]; omega), List.drop_drop]
    by_cases hc : 3 ≤ (xs.drop (3 * g)).length
    · rw [Nat.min_eq_right hc]; rfl
    · rw [List.length_drop] at hc
      rw [List.drop_of_length_le (by rw [List.length_drop]; omega), List.drop_of_length_le (by omega)]
  have e2 : (xs.drop (3 * g)).length - min (xs.drop (3 * g)).length 3 = (xs.drop (3 * (g + 1))).length := by simp only [List.length_drop]; omega
  rw [e, e2] at h2
  exact h2
theorem word3_lt (xs : List UInt8) : word3 xs < 2 ^ 24 := by
  have h0 := (xs.getD 0 0).toNat_lt
  have h1 := (xs.getD 1 0).toNat_lt
  have h2 := (xs.getD 2 0).toNat_lt
  exact Nat.or_lt_two_pow (Nat.or_lt_two_pow (by omega) (by omega)) (by omega)
theorem and63_lt (n : Nat) : n &&& 63 < 64 := by
  rw [show n &&& 63 = n % 64 from Nat.and_two_pow_sub_one_eq_mod _ 6]; omega

set_option maxRecDepth 100000 in
theorem base64 (bv : Value) (bs : List UInt8) (w : World) (hbv : Seen w.cell? bv bs.length 1 (v8s bs)) (hbl : bs.length ≤ 100000) :
    Calls Tryd.prog 19 [bv].toArray w (Pur w (str (base64F bs))) := by
  have sbv := hbv.sv
  have lbv := sbv.le
  simp only [maxLen] at lbv
  refine enter (m := 47) (R := Mem w [] [] []) Tryd.func19 rfl rfl (Nat.le_of_ble_eq_true rfl) (Mem.start w) ?_
  refine wpc_seq ?_
  refine wpc_region ?_
  refine wpl_q (q_pure rfl) rfl ?_
  refine wpl_nil ?_
  refine ex_then ?_
  refine wpc_seq ?_
  refine wpc_region ?_
  refine wpl_t (t_alloc Tryd.ti61 _ rfl) rfl (fun b3 => ?_)
  refine wpl_nil ?_
  refine ex_then ?_
  refine wpc_seq ?_
  refine wpc_block ?_
  refine wpc_loopc (ι := { x : Nat × Value × Value × Value // (3 * x.1 ≤ bs.length + 2) ∧ (SV x.2.1 (b64F bs x.1).length) ∧ ((x.1 = 0 → x.2.1 = .slice none 0 0)) ∧ ((x.2.2.1 = .pointer none ∨ x.2.2.1 = .pointer (some ⟨b3, 0, none⟩))) ∧ (Seen w.cell? x.2.2.2 (bs.drop (3 * x.1)).length 1 (v8s (bs.drop (3 * x.1)))) }) [(3, _)] (fun x Lc => (0, x.1.2.2.2) :: Lc) (fun x => Mem w [] (bEnts b3 x.1.2.2.1 x.1.2.1 (b64F bs x.1.1)) []) (fun x => bs.length - 3 * x.1.1) ⟨(0, .slice none 0 0, .pointer none, bv), ⟨Nat.zero_le _, SV.nil, fun _ => rfl, .inl rfl, hbv⟩⟩ (by repeat (first | exact trivial | refine ⟨rfl, ?_⟩)) ?_ ?_
  · exact fun w h => h.nilRow 5 1
  · rintro ⟨⟨g, v, p, u⟩, ⟨hi0, hi1, hi2, hi3, hi4⟩⟩; try dsimp only
    have hi0 : 3 * g ≤ bs.length + 2 := hi0; have hi1 : SV v (b64F bs g).length := hi1; have hi2 : (g = 0 → v = .slice none 0 0) := hi2; have hi3 : (p = .pointer none ∨ p = .pointer (some ⟨b3, 0, none⟩)) := hi3; have hi4 : Seen w.cell? u (bs.drop (3 * g)).length 1 (v8s (bs.drop (3 * g))) := hi4
    have hfl := b64F_length bs g
    have su := hi4.sv
    have hdl : (bs.drop (3 * g)).length = bs.length - 3 * g := List.length_drop
    refine wpc_seq ?_
    refine wpc_seq ?_
    refine wpc_region ?_
    refine wpl_q (q_pure rfl) rfl ?_
    refine wpl_q (q_lenW Tryd.underlying22 rfl (by first | assumption | exact SV.nil | exact SV.slv (by assumption) (by omega) (by omega) | exact arv_sv (by first | decide | (simp only [maxLen]; omega)))) rfl ?_
    refine wpl_q (q_pure rfl) rfl ?_
    refine wpl_nil ?_
    refine ex_then ?_
    refine wpc_cond rfl (fun hc10 => ?_) (fun hc10 => ?_)
    ·
      simp only [decide_eq_true_eq, gt_iff_lt] at hc10
      have hp3 := pad3_length (bs.drop (3 * g))
      have hw3 := word3_lt (pad3 (bs.drop (3 * g)))
      simp only [word3] at hw3
      have hx0 := ((pad3 (bs.drop (3 * g))).getD 0 0).toNat_lt
      have hx1 := ((pad3 (bs.drop (3 * g))).getD 1 0).toNat_lt
      have hx2 := ((pad3 (bs.drop (3 * g))).getD 2 0).toNat_lt
      have hor : ((pad3 (bs.drop (3 * g))).getD 0 0).toNat * 2 ^ 16 ||| ((pad3 (bs.drop (3 * g))).getD 1 0).toNat * 2 ^ 8 < 2 ^ 24 := Nat.or_lt_two_pow (by omega) (by omega)
      refine wpc_skip ?_
      refine ex_then ?_
      refine wpc_block ?_
      refine wpc_seq ?_
      refine wpc_region ?_
      refine wpl_t (t_alloc Tryd.ti66 (v8s (List.replicate 3 0)) (by rfl)) rfl (fun b4 => ?_)
      refine wpl_nil ?_
      refine ex_then ?_
      refine wpc_seq ?_
      refine wpc_region ?_
      refine wpl_q (q_arAll Tryd.underlying66 Tryd.ti5 rfl rfl) rfl ?_
      refine wpl_q (q_pure rfl) rfl ?_
      refine wpl_t (t_copy Tryd.underlying22 Tryd.ti5 rfl rfl (fun w h => h.seen_old hi4) (v8s_one _) (by rw [v8s_length]; exact Nat.le_refl _) (min (bs.drop (3 * g)).length 3) rfl (v8s (pad3 (bs.drop (3 * g)))) (pad3_copy _)) rfl (fun b13 => ?_)
      refine wpl_q (q_pure rfl) rfl ?_
      refine wpl_nil ?_
      refine ex_then ?_
      refine wpc_seq ?_
      refine wpc_region ?_
      refine wpl_q (q_idxA1 (j := 0) Tryd.underlying66 Tryd.ti5 rfl rfl (by omega)) rfl ?_
      refine wpl_q (q_ld Tryd.underlying5 rfl rfl (by first | exact v8s_get (by first | decide | omega | exact Nat.zero_lt_one | (simp; omega) | (simp; done) | (simp only [v8s_length, v32s_length, vis_length, vns_length, v64s_length]; omega)) | rfl)) rfl ?_
      refine wpl_q (q8_int Tryd.underlying5 Tryd.underlying3 rfl) rfl ?_
      refine wpl_q (q_shlN (b := 16) rfl rfl (by first | decide | omega) (by first | omega | (simp only [maxLen]; omega) | (simp only [List.length_append, List.length_cons, List.length_nil, List.length_take, maxLen]; omega) | (simp only [List.length_append, List.length_cons, List.length_nil, List.length_take]; omega))) rfl ?_
      refine wpl_q (q_idxA1 (j := 1) Tryd.underlying66 Tryd.ti5 rfl rfl (by omega)) rfl ?_
      refine wpl_q (q_ld Tryd.underlying5 rfl rfl (by first | exact v8s_get (by first | decide | omega | exact Nat.zero_lt_one | (simp; omega) | (simp; done) | (simp only [v8s_length, v32s_length, vis_length, vns_length, v64s_length]; omega)) | rfl)) rfl ?_
      refine wpl_q (q8_int Tryd.underlying5 Tryd.underlying3 rfl) rfl ?_
      refine wpl_q (q_shlN (b := 8) rfl rfl (by first | decide | omega) (by first | omega | (simp only [maxLen]; omega) | (simp only [List.length_append, List.length_cons, List.length_nil, List.length_take, maxLen]; omega) | (simp only [List.length_append, List.length_cons, List.length_nil, List.length_take]; omega))) rfl ?_
      refine wpl_q (q_orN rfl rfl (by first | omega | (simp only [maxLen]; omega) | (simp only [List.length_append, List.length_cons, List.length_nil, List.length_take, maxLen]; omega) | (simp only [List.length_append, List.length_cons, List.length_nil, List.length_take]; omega)) (by first | omega | (simp only [maxLen]; omega) | (simp only [List.length_append, List.length_cons, List.length_nil, List.length_take, maxLen]; omega) | (simp only [List.length_append, List.length_cons, List.length_nil, List.length_take]; omega))) rfl ?_
      refine wpl_q (q_idxA1 (j := 2) Tryd.underlying66 Tryd.ti5 rfl rfl (by omega)) rfl ?_
      refine wpl_q (q_ld Tryd.underlying5 rfl rfl (by first | exact v8s_get (by first | decide | omega | exact Nat.zero_lt_one | (simp; omega) | (simp; done) | (simp only [v8s_length, v32s_length, vis_length, vns_length, v64s_length]; omega)) | rfl)) rfl ?_
      refine wpl_q (q8_int Tryd.underlying5 Tryd.underlying3 rfl) rfl ?_
      refine wpl_q (q_orN rfl rfl (by first | omega | (simp only [maxLen]; omega) | (simp only [List.length_append, List.length_cons, List.length_nil, List.length_take, maxLen]; omega) | (simp only [List.length_append, List.length_cons, List.length_nil, List.length_take]; omega)) (by first | omega | (simp only [maxLen]; omega) | (simp only [List.length_append, List.length_cons, List.length_nil, List.length_take, maxLen]; omega) | (simp only [List.length_append, List.length_cons, List.length_nil, List.length_take]; omega))) rfl ?_
      refine wpl_q (q_pure rfl) rfl ?_
      refine wpl_nil ?_
      refine ex_then ?_
      refine wpc_seq ?_
      refine wpc_seq ?_
      refine wpc_region ?_
      refine wpl_q (q_pure rfl) rfl ?_
      refine wpl_nil ?_
      refine ex_then ?_
      refine wpc_block ?_
      refine wpc_loopc (ι := { x : Nat × Value × Value // (x.1 ≤ 4) ∧ (SV x.2.1 (b64F bs g ++ b64G (pad3 (bs.drop (3 * g))) (min (bs.drop (3 * g)).length 3) x.1).length) ∧ ((x.2.2 = .pointer none ∨ x.2.2 = .pointer (some ⟨b3, 0, none⟩))) }) [(0, _), (3, _), (5, _), (6, _)] (fun x Lc => (27, .int .i64 ((x.1.1 : Nat) : Int)) :: Lc) (fun x => Mem w [] (bEnts b3 x.1.2.2 x.1.2.1 (b64F bs g ++ b64G (pad3 (bs.drop (3 * g))) (min (bs.drop (3 * g)).length 3) x.1.1)) []) (fun x => 4 - x.1.1) ⟨(0, v, p), ⟨Nat.zero_le _, by rw [b64G, List.append_nil]; exact hi1, hi3⟩⟩ (by repeat (first | exact trivial | refine ⟨rfl, ?_⟩)) ?_ ?_
      · exact fun w h => by
          dsimp only
          rw [b64G, List.append_nil]
          exact h.sub (by repeat (first | exact Sub.nil | exact Sub.refl _ | with_reducible refine Sub.keep ?_ | refine Sub.drop ?_)) (by repeat (first | exact Sub.nil | exact Sub.refl _ | with_reducible refine Sub.keep ?_ | refine Sub.drop ?_))
      · rintro ⟨⟨k, v2, p2⟩, ⟨hi0, hi1, hi2⟩⟩; try dsimp only
        have hi0 : k ≤ 4 := hi0; have hi1 : SV v2 (b64F bs g ++ b64G (pad3 (bs.drop (3 * g))) (min (bs.drop (3 * g)).length 3) k).length := hi1; have hi2 : (p2 = .pointer none ∨ p2 = .pointer (some ⟨b3, 0, none⟩)) := hi2
        refine wpc_seq ?_
        refine wpc_region ?_
        refine wpl_q (q_pure rfl) rfl ?_
        refine wpl_nil ?_
        refine ex_then ?_
        refine wpc_seq ?_
        refine wpc_cond rfl (fun hc28 => ?_) (fun hc28 => ?_)
        ·
          try simp only [decide_eq_true_eq, decide_eq_false_iff_not, Bool.and_eq_true, Bool.or_eq_true, beq_iff_eq, bne_iff_ne, ne_eq, Bool.not_eq_true', Bool.not_eq_false', Decidable.not_not] at hc28
          refine wpc_skip ?_
          refine ex_then ?_
          refine wpc_seq ?_
          refine wpc_block ?_
          refine wpc_seq ?_
          refine wpc_region ?_
          refine wpl_q (q_pure rfl) rfl ?_
          refine wpl_q (q_pure rfl) rfl ?_
          refine wpl_nil ?_
          refine ex_then ?_
          refine wpc_seq ?_
          refine wpc_region ?_
          refine wpl_q (q_pure rfl) rfl ?_
          refine wpl_q (q_pure rfl) rfl ?_
          refine wpl_q (q_pure rfl) rfl ?_
          refine wpl_nil ?_
          refine ex_then ?_
          refine wpc_cond rfl (fun hc32 => ?_) (fun hc32 => ?_)
          ·
            simp only [decide_eq_true_eq, gt_iff_lt] at hc32
            have hbc : b64C (pad3 (bs.drop (3 * g))) (min (bs.drop (3 * g)).length 3) k = 61 := if_pos (by omega)
            refine wpc_region ?_
            refine wpl_tp (t_callA Tryd.hb32 rfl fun w h h2 => writeByte b3 p2 v2 (b64F bs g ++ b64G (pad3 (bs.drop (3 * g))) (min (bs.drop (3 * g)).length 3) k) (61 : UInt8) w h2 hi1 hi2 (by rw [List.length_append, b64F_length, b64G_length]; omega)) rfl (fun b33 p33 => ?_)
            refine wpl_nil ?_
            refine ex_block ?_
            refine ex_then ?_
            refine wpc_region ?_
            refine wpl_q (q_addN (b := 1) rfl rfl (by first | omega | (simp only [maxLen]; omega) | (simp only [List.length_append, List.length_cons, List.length_nil, List.length_take, maxLen]; omega) | (simp only [List.length_append, List.length_cons, List.length_nil, List.length_take]; omega))) rfl ?_
            refine wpl_q (q_pure rfl) rfl ?_
            refine wpl_nil ?_
            refine ex_again ⟨(k + 1, b33, .pointer (some ⟨b3, 0, none⟩)), ⟨by omega, by rw [b64G, ← List.append_assoc, hbc]; first | exact p33 | exact p41, Or.inr rfl⟩⟩ ?_ ?_ ?_
            · exact (by repeat (first | exact trivial | refine ⟨rfl, ?_⟩))
            · exact fun w h => by
                dsimp only
                rw [b64G, ← List.append_assoc, hbc]
                exact h.sub (by repeat (first | exact Sub.nil | exact Sub.refl _ | with_reducible refine Sub.keep ?_ | refine Sub.drop ?_)) (by repeat (first | exact Sub.nil | exact Sub.refl _ | with_reducible refine Sub.keep ?_ | refine Sub.drop ?_))
            · (show 4 - (k + 1) < 4 - k); omega
          ·
            simp only [decide_eq_false_iff_not, gt_iff_lt] at hc32
            have hbc : b64C (pad3 (bs.drop (3 * g))) (min (bs.drop (3 * g)).length 3) k = b64A.getD (word3 (pad3 (bs.drop (3 * g))) / 2 ^ (18 - 6 * k) &&& 63) 0 := if_neg (by omega)
            have ha6 := and63_lt (word3 (pad3 (bs.drop (3 * g))) / 2 ^ (18 - 6 * k))
            have hwd : word3 (pad3 (bs.drop (3 * g))) / 2 ^ (18 - 6 * k) ≤ word3 (pad3 (bs.drop (3 * g))) := Nat.div_le_self _ _
            simp only [word3] at ha6 hwd
            refine wpc_region ?_
            refine wpl_q (q_pure rfl) rfl ?_
            refine wpl_q (q_pure rfl) rfl ?_
            refine wpl_q (q_mulN (a := 6) rfl rfl (by first | omega | (simp only [maxLen]; omega) | (simp only [List.length_append, List.length_cons, List.length_nil, List.length_take, maxLen]; omega) | (simp only [List.length_append, List.length_cons, List.length_nil, List.length_take]; omega))) rfl ?_
            refine wpl_q (q_subN (a := 18) rfl rfl (by omega) (by first | omega | (simp only [maxLen]; omega) | (simp only [List.length_append, List.length_cons, List.length_nil, List.length_take, maxLen]; omega) | (simp only [List.length_append, List.length_cons, List.length_nil, List.length_take]; omega))) rfl ?_
            refine wpl_q (q_shrN rfl rfl (by first | decide | omega)) rfl ?_
            refine wpl_q (q_andN (b := 63) rfl rfl (by first | omega | (simp only [maxLen]; omega) | (simp only [List.length_append, List.length_cons, List.length_nil, List.length_take, maxLen]; omega) | (simp only [List.length_append, List.length_cons, List.length_nil, List.length_take]; omega)) (by first | omega | (simp only [maxLen]; omega) | (simp only [List.length_append, List.length_cons, List.length_nil, List.length_take, maxLen]; omega) | (simp only [List.length_append, List.length_cons, List.length_nil, List.length_take]; omega))) rfl ?_
            refine wpl_q (q_strIdx Tryd.underlying9 rfl rfl (by first | omega | (simp only [maxLen]; omega) | (simp only [List.length_append, List.length_cons, List.length_nil, List.length_take, maxLen]; omega) | (simp only [List.length_append, List.length_cons, List.length_nil, List.length_take]; omega))) rfl ?_
            refine wpl_tp (t_callA Tryd.hb32 rfl fun w h h2 => writeByte b3 p2 v2 (b64F bs g ++ b64G (pad3 (bs.drop (3 * g))) (min (bs.drop (3 * g)).length 3) k) _ w h2 hi1 hi2 (by rw [List.length_append, b64F_length, b64G_length]; omega)) rfl (fun b41 p41 => ?_)
            refine wpl_nil ?_
            refine ex_block ?_
            refine ex_then ?_
            refine wpc_region ?_
            refine wpl_q (q_addN (b := 1) rfl rfl (by first | omega | (simp only [maxLen]; omega) | (simp only [List.length_append, List.length_cons, List.length_nil, List.length_take, maxLen]; omega) | (simp only [List.length_append, List.length_cons, List.length_nil, List.length_take]; omega))) rfl ?_
            refine wpl_q (q_pure rfl) rfl ?_
            refine wpl_nil ?_
            refine ex_again ⟨(k + 1, b41, .pointer (some ⟨b3, 0, none⟩)), ⟨by omega, by rw [b64G, ← List.append_assoc, hbc]; first | exact p33 | exact p41, Or.inr rfl⟩⟩ ?_ ?_ ?_
            · exact (by repeat (first | exact trivial | refine ⟨rfl, ?_⟩))
            · exact fun w h => by
                dsimp only
                rw [b64G, ← List.append_assoc, hbc]
                exact h.sub (by repeat (first | exact Sub.nil | exact Sub.refl _ | with_reducible refine Sub.keep ?_ | refine Sub.drop ?_)) (by repeat (first | exact Sub.nil | exact Sub.refl _ | with_reducible refine Sub.keep ?_ | refine Sub.drop ?_))
            · (show 4 - (k + 1) < 4 - k); omega
        ·
          simp only [decide_eq_false_iff_not] at hc28
          obtain rfl : k = 4 := by omega
          refine wpc_exit ?_
          refine ex_then_exit ?_
          refine ex_then_exit ?_
          refine ex_block_hit ?_
          refine ex_then ?_
          refine wpc_region ?_
          refine wpl_q (q_pure rfl) rfl ?_
          refine wpl_q (q_pure rfl) rfl ?_
          refine wpl_q (q_slWl Tryd.underlying22 Tryd.ti5 rfl rfl (by first | assumption | exact SV.nil | exact SV.slv (by assumption) (by omega) (by omega) | exact arv_sv (by first | decide | (simp only [maxLen]; omega))) (by omega)) rfl ?_
          refine wpl_q (q_pure rfl) rfl ?_
          refine wpl_nil ?_
          refine ex_block ?_
          refine ex_again ⟨(g + 1, v2, p2, slv u (min (bs.drop (3 * g)).length 3) (bs.drop (3 * g)).length 1), ⟨by omega, by rw [b64F]; exact hi1, fun h => absurd h (Nat.succ_ne_zero _), hi2, rest3 hi4⟩⟩ ?_ ?_ ?_
          · exact (by repeat (first | exact trivial | refine ⟨rfl, ?_⟩))
          · exact fun w h => by first | exact h | exact h.sub (by repeat (first | exact Sub.nil | exact Sub.refl _ | with_reducible refine Sub.keep ?_ | refine Sub.drop ?_)) (by repeat (first | exact Sub.nil | exact Sub.refl _ | with_reducible refine Sub.keep ?_ | refine Sub.drop ?_))
          · (show bs.length - 3 * (g + 1) < bs.length - 3 * g); omega
    ·
      simp only [decide_eq_false_iff_not, gt_iff_lt] at hc10
      obtain rfl : g = (bs.length + 2) / 3 := by omega
      have hnil : b64F bs ((bs.length + 2) / 3) = [] → v = .slice none 0 0 := fun h => hi2 (by have h1 := congrArg List.length h; rw [hfl, List.length_nil] at h1; omega)
      refine wpc_exit ?_
      refine ex_then_exit ?_
      refine ex_then_exit ?_
      refine ex_block_hit ?_
      refine ex_then ?_
      refine wpc_seq ?_
      refine wpc_region ?_
      refine wpl_tp (t_callA Tryd.hb33 rfl fun w h h2 => string_ b3 p v (b64F bs ((bs.length + 2) / 3)) w h2 hi1 hnil (by omega)) rfl (fun b46 p46 => ?_)
      refine wpl_q (q_pure rfl) rfl ?_
      refine wpl_nil ?_
      refine ex_then ?_
      refine wpc_ret ?_
      refine ret1 (.inl rfl) rfl rfl ?_
      exact fun w h => ⟨rfl, h.below⟩

end Go.Proofs.YtlapmdiabhlbmaaDoor
