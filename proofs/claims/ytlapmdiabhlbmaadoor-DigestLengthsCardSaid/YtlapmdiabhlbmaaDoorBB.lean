/- Hex. -/
import Derived.Test.YtlapmdiabhlbmaaDoorBA
import Derived.Test.YtlapmdiabhlbmaaDoorD11
namespace Go.Proofs.YtlapmdiabhlbmaaDoor
set_option linter.unusedSimpArgs false
set_option linter.unusedVariables false
open Go Go.PL Go.RowKit

def hexD : List UInt8 := [48, 49, 50, 51, 52, 53, 54, 55, 56, 57, 97, 98, 99, 100, 101, 102]
def hexF (xs : List UInt8) : Nat → List UInt8
  | 0 => []
  | i + 1 => hexF xs i ++ [hexD.getD (sr8 (xs.getD i 0) 4).toNat 0] ++ [hexD.getD ((xs.getD i 0) &&& 15).toNat 0]
theorem sr8_lt (x : UInt8) : (sr8 x 4).toNat < 16 := by
  have := x.toNat_lt
  simp only [sr8, UInt8.toNat_ofNat']
  have : min 4 8 = 4 := rfl
  rw [this]; omega
theorem and8_lt (x : UInt8) : (x &&& 15).toNat < 16 := by
  rw [UInt8.toNat_and]
  have : x.toNat &&& (15 : UInt8).toNat = x.toNat % 16 := Nat.and_two_pow_sub_one_eq_mod _ 4
  rw [this]; exact Nat.mod_lt _ (by decide)
theorem hexF_length (xs : List UInt8) : ∀ i, (hexF xs i).length = 2 * i
  | 0 => rfl
  | i + 1 => by rw [hexF, List.length_append, List.length_append, hexF_length xs i]; simp; omega

set_option maxRecDepth 100000 in
theorem hexW (bv : Value) (bs : List UInt8) (w : World) (hbv : Seen w.cell? bv bs.length 1 (v8s bs)) (hbl : bs.length ≤ 100000) :
    Calls Tryd.prog 18 [bv].toArray w (Pur w (str (hexF bs bs.length))) := by
  have sbv := hbv.sv
  have lbv := sbv.le
  simp only [maxLen] at lbv
  refine enter (m := 22) (R := Mem w [] [] []) Tryd.func18 rfl rfl (Nat.le_of_ble_eq_true rfl) (Mem.start w) ?_
  refine wpc_seq ?_
  refine wpc_region ?_
  refine wpl_q (q_pure rfl) rfl ?_
  refine wpl_nil ?_
  refine ex_then ?_
  refine wpc_seq ?_
  refine wpc_region ?_
  refine wpl_t (t_alloc Tryd.ti61 _ rfl) rfl (fun b3 => ?_)
  refine wpl_nil ?_
  refine ex_then ?_
  refine wpc_seq ?_
  refine wpc_seq ?_
  refine wpc_region ?_
  refine wpl_q (q_pure rfl) rfl ?_
  refine wpl_q (q_lenW Tryd.underlying22 rfl (by first | assumption | exact SV.nil | exact SV.slv (by assumption) (by omega) (by omega) | exact arv_sv (by first | decide | (simp only [maxLen]; omega)))) rfl ?_
  refine wpl_q (q_pure rfl) rfl ?_
  refine wpl_nil ?_
  refine ex_then ?_
  refine wpc_block ?_
  refine wpc_loopc (ι := { x : Nat × Value × Value // (x.1 ≤ bs.length) ∧ (SV x.2.1 (hexF bs x.1).length) ∧ ((x.1 = 0 → x.2.1 = .slice none 0 0)) ∧ ((x.2.2 = .pointer none ∨ x.2.2 = .pointer (some ⟨b3, 0, none⟩))) }) [(3, _), (6, _), (7, _)] (fun x Lc => (8, .int .i64 ((x.1.1 : Nat) : Int)) :: Lc) (fun x => Mem w [] (bEnts b3 x.1.2.2 x.1.2.1 (hexF bs x.1.1)) []) (fun x => bs.length - x.1.1) ⟨(0, .slice none 0 0, .pointer none), ⟨Nat.zero_le _, SV.nil, fun _ => rfl, .inl rfl⟩⟩ (by repeat (first | exact trivial | refine ⟨rfl, ?_⟩)) ?_ ?_
  · exact fun w h => h.nilRow 5 1
  · rintro ⟨⟨i, v, p⟩, ⟨hi0, hi1, hi2, hi3⟩⟩; try dsimp only
    have hi0 : i ≤ bs.length := hi0; have hi1 : SV v (hexF bs i).length := hi1; have hi2 : (i = 0 → v = .slice none 0 0) := hi2; have hi3 : (p = .pointer none ∨ p = .pointer (some ⟨b3, 0, none⟩)) := hi3
    have hxl := hexF_length bs i
    have hb1 := sr8_lt (bs.getD i 0)
    have hb2 := and8_lt (bs.getD i 0)
    refine wpc_seq ?_
    refine wpc_region ?_
    refine wpl_q (q_pure rfl) rfl ?_
    refine wpl_nil ?_
    refine ex_then ?_
    refine wpc_seq ?_
    refine wpc_cond rfl (fun hc9 => ?_) (fun hc9 => ?_)
    ·
      try simp only [decide_eq_true_eq, decide_eq_false_iff_not, Bool.and_eq_true, Bool.or_eq_true, beq_iff_eq, bne_iff_ne, ne_eq, Bool.not_eq_true', Bool.not_eq_false', Decidable.not_not] at hc9
      refine wpc_skip ?_
      refine ex_then ?_
      refine wpc_seq ?_
      refine wpc_block ?_
      refine wpc_seq ?_
      refine wpc_region ?_
      refine wpl_q (q_idxW1 Tryd.underlying22 Tryd.ti5 rfl rfl (by first | assumption | exact SV.nil | exact SV.slv (by assumption) (by omega) (by omega) | exact arv_sv (by first | decide | (simp only [maxLen]; omega))) (by first | omega | (simp only [maxLen]; omega) | (simp only [List.length_append, List.length_cons, List.length_nil, List.length_take, maxLen]; omega) | (simp only [List.length_append, List.length_cons, List.length_nil, List.length_take]; omega))) rfl ?_
      refine wpl_q (q_ldW Tryd.underlying5 rfl rfl (fun w h => by first | exact h.seenV | exact h.seenA (by first | decide | (simp only [maxLen]; omega)) (by first | with_reducible rfl | (simp only [v8s_length, v32s_length, vis_length, vns_length, v64s_length, List.length_replicate]; first | done | with_reducible assumption | omega) | (rw [v8s_length]; (first | with_reducible assumption | with_reducible exact shortF_length _ | with_reducible exact stepF_length _ _ _ | with_reducible exact sumF_length _ | with_reducible exact climbF_length _ (by first | with_reducible assumption | with_reducible exact shortF_length _ | with_reducible exact beginF_length _ _ | with_reducible exact getD_mem_len (by assumption) (by omega)) _ _ _ | with_reducible exact beginF_length _ _ | with_reducible exact chainF_length _ _ _ | with_reducible exact recF_length _ _ | with_reducible exact publicF_length _ | with_reducible exact getD_mem_len (by assumption) (by omega) | (with_reducible exact List.length_replicate))) | rfl) | exact h.seen_old (by assumption) | exact h.seen_oldL (by assumption) (by assumption) | exact h.seen_fact (by repeat (first | exact List.mem_cons_self .. | apply List.mem_cons_of_mem))) (by first | exact v8s_get (by first | decide | omega | exact Nat.zero_lt_one | (simp; omega) | (simp; done) | (simp only [v8s_length, v32s_length, vis_length, vns_length, v64s_length]; omega)) | rfl)) rfl ?_
      refine wpl_q (q_pure rfl) rfl ?_
      refine wpl_nil ?_
      refine ex_then ?_
      refine wpc_seq ?_
      refine wpc_region ?_
      refine wpl_q (q_pure rfl) rfl ?_
      refine wpl_q (q8_shr rfl rfl (by first | decide | omega) 4 rfl) rfl ?_
      refine wpl_q (q_strIdx Tryd.underlying9 rfl rfl (by first | omega | (simp only [maxLen]; omega) | (simp only [List.length_append, List.length_cons, List.length_nil, List.length_take, maxLen]; omega) | (simp only [List.length_append, List.length_cons, List.length_nil, List.length_take]; omega))) rfl ?_
      refine wpl_tp (t_callA Tryd.hb32 rfl fun w h h2 => writeByte b3 p v (hexF bs i) _ w h2 hi1 hi3 (by first | omega | (simp only [List.length_append, List.length_cons, List.length_nil]; omega))) rfl (fun b15 p15 => ?_)
      refine wpl_nil ?_
      refine ex_then ?_
      refine wpc_region ?_
      refine wpl_q (q_pure rfl) rfl ?_
      refine wpl_q (q8_and (b := (15 : UInt8)) rfl rfl) rfl ?_
      refine wpl_q (q_strIdx Tryd.underlying9 rfl rfl (by first | omega | (simp only [maxLen]; omega) | (simp only [List.length_append, List.length_cons, List.length_nil, List.length_take, maxLen]; omega) | (simp only [List.length_append, List.length_cons, List.length_nil, List.length_take]; omega))) rfl ?_
      refine wpl_tp (t_callA Tryd.hb32 rfl fun w h h2 => writeByte b3 (.pointer (some ⟨b3, 0, none⟩)) b15 _ _ w h2 p15 (.inr rfl) (by first | omega | (simp only [List.length_append, List.length_cons, List.length_nil]; omega))) rfl (fun b19 p19 => ?_)
      refine wpl_nil ?_
      refine ex_block ?_
      refine ex_then ?_
      refine wpc_region ?_
      refine wpl_q (q_addN (b := 1) rfl rfl (by first | omega | (simp only [maxLen]; omega) | (simp only [List.length_append, List.length_cons, List.length_nil, List.length_take, maxLen]; omega) | (simp only [List.length_append, List.length_cons, List.length_nil, List.length_take]; omega))) rfl ?_
      refine wpl_q (q_pure rfl) rfl ?_
      refine wpl_nil ?_
      refine ex_again ⟨(i + 1, b19, .pointer (some ⟨b3, 0, none⟩)), ⟨by omega, p19, fun h => absurd h (Nat.succ_ne_zero _), Or.inr rfl⟩⟩ ?_ ?_ ?_
      · exact (by repeat (first | exact trivial | refine ⟨rfl, ?_⟩))
      · exact fun w h => by first | exact h | exact h.sub (by repeat (first | exact Sub.nil | exact Sub.refl _ | with_reducible refine Sub.keep ?_ | refine Sub.drop ?_)) (by repeat (first | exact Sub.nil | exact Sub.refl _ | with_reducible refine Sub.keep ?_ | refine Sub.drop ?_))
      · (show bs.length - (i + 1) < bs.length - i); omega
    ·
      simp only [decide_eq_false_iff_not] at hc9
      obtain rfl : i = bs.length := by omega
      have hnil : hexF bs bs.length = [] → v = .slice none 0 0 := fun h => hi2 (by have h1 := congrArg List.length h; rw [hxl, List.length_nil] at h1; omega)
      refine wpc_exit ?_
      refine ex_then_exit ?_
      refine ex_then_exit ?_
      refine ex_block_hit ?_
      refine ex_then ?_
      refine wpc_seq ?_
      refine wpc_region ?_
      refine wpl_tp (t_callA Tryd.hb33 rfl fun w h h2 => string_ b3 p v (hexF bs bs.length) w h2 hi1 hnil (by omega)) rfl (fun b21 p21 => ?_)
      refine wpl_q (q_pure rfl) rfl ?_
      refine wpl_nil ?_
      refine ex_then ?_
      refine wpc_ret ?_
      refine ret1 (.inl rfl) rfl rfl ?_
      exact fun w h => ⟨rfl, h.below⟩

end Go.Proofs.YtlapmdiabhlbmaaDoor
