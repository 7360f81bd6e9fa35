/- The builder of package strings. -/
import Derived.Test.YtlapmdiabhlbmaaDoorPLN
import Derived.Test.YtlapmdiabhlbmaaDoorTI
namespace Go.Proofs.YtlapmdiabhlbmaaDoor
set_option linter.unusedSimpArgs false
set_option linter.unusedVariables false
open Go Go.PL Go.RowKit

instance same_noEscape : SameP Tryd.prog 53 := ⟨fun x w => by
  rw [run_callFunc_extern Tryd.func53 (by kernel_rfl) (by kernel_rfl) (by kernel_rfl) (e := Extern.AbiNoEscape.same) (by kernel_rfl)]
  rw [Lib.run_noEscape]; rfl⟩
/-- What a builder owns: its bytes' row and its block. -/
abbrev bEnts (b : Nat) (p v : Value) (xs : List UInt8) : List Ent := [.row v xs.length 5 1 (v8s xs), .blk b 61 [p, v]]

set_option maxRecDepth 100000 in
theorem copyCheck0 (b : Nat) (v : Value) (xs : List UInt8) (w : World) (hb : Mem w (nums (bEnts b (.pointer none) v xs)) (bEnts b (.pointer none) v xs) [] w) (hv : SV v xs.length)  :
    Calls Tryd.prog 43 [.pointer (some ⟨b, 0, none⟩)].toArray w (GivesA w (bEnts b (.pointer none) v xs) (fun _ : Unit => True) (fun _ => .tuple #[]) (fun _ => bEnts b (.pointer (some ⟨b, 0, none⟩)) v xs)) := by
  refine enter (m := 20) (R := Mem w (nums (bEnts b (.pointer none) v xs)) (bEnts b (.pointer none) v xs) []) Tryd.func43 rfl rfl (Nat.le_of_ble_eq_true rfl) hb ?_
  refine wpc_seq ?_
  refine wpc_region ?_
  refine wpl_q (q_pure rfl) rfl ?_
  refine wpl_q (q_pure rfl) rfl ?_
  refine wpl_q (q_field Tryd.underlying61 rfl Tryd.ti59 rfl rfl _ rfl) rfl ?_
  refine wpl_q (q_ld Tryd.underlying59 rfl rfl rfl) rfl ?_
  refine wpl_q (q_ptrNilT Tryd.underlying59 rfl rfl (by kernel_rfl)) rfl ?_
  refine wpl_nil ?_
  refine ex_then ?_
  refine wpc_cond_t rfl ?_
  refine wpc_region ?_
  refine wpl_q (q_pure rfl) rfl ?_
  refine wpl_q (q_pure rfl) rfl ?_
  refine wpl_q (q_toU Tryd.underlying59 Tryd.underlying94 Tryd.ti61 rfl rfl (by exact Nat.zero_lt_succ _)) rfl ?_
  refine wpl_q (q_same rfl) rfl ?_
  refine wpl_q (q_fromU Tryd.underlying94 Tryd.underlying59 Tryd.ti61 rfl (by kernel_rfl)) rfl ?_
  refine wpl_q (q_pure rfl) rfl ?_
  refine wpl_q (q_field Tryd.underlying61 rfl Tryd.ti59 rfl rfl _ rfl) rfl ?_
  refine wpl_t0 (t_st1 Tryd.ti59 rfl rfl rfl (by first | decide | omega | exact Nat.zero_lt_one | (simp; omega) | (simp; done) | (simp only [v8s_length, v32s_length, vis_length, vns_length, v64s_length]; omega)) _ rfl) (fun _ => ?_)
  refine wpl_nil ?_
  refine ret0 (.inr rfl) rfl ?_
  exact fun w h => ⟨(), trivial, rfl, h⟩

set_option maxRecDepth 100000 in
theorem copyCheck1 (b : Nat) (v : Value) (xs : List UInt8) (w : World) (hb : Mem w (nums (bEnts b (.pointer (some ⟨b, 0, none⟩)) v xs)) (bEnts b (.pointer (some ⟨b, 0, none⟩)) v xs) [] w) (hv : SV v xs.length)  :
    Calls Tryd.prog 43 [.pointer (some ⟨b, 0, none⟩)].toArray w (GivesA w (bEnts b (.pointer (some ⟨b, 0, none⟩)) v xs) (fun _ : Unit => True) (fun _ => .tuple #[]) (fun _ => bEnts b (.pointer (some ⟨b, 0, none⟩)) v xs)) := by
  refine enter (m := 20) (R := Mem w (nums (bEnts b (.pointer (some ⟨b, 0, none⟩)) v xs)) (bEnts b (.pointer (some ⟨b, 0, none⟩)) v xs) []) Tryd.func43 rfl rfl (Nat.le_of_ble_eq_true rfl) hb ?_
  refine wpc_seq ?_
  refine wpc_region ?_
  refine wpl_q (q_pure rfl) rfl ?_
  refine wpl_q (q_pure rfl) rfl ?_
  refine wpl_q (q_field Tryd.underlying61 rfl Tryd.ti59 rfl rfl _ rfl) rfl ?_
  refine wpl_q (q_ld Tryd.underlying59 rfl rfl rfl) rfl ?_
  refine wpl_q (q_ptrNilF Tryd.underlying59 rfl rfl (by kernel_rfl)) rfl ?_
  refine wpl_nil ?_
  refine ex_then ?_
  refine wpc_cond_f rfl ?_
  refine wpc_seq ?_
  refine wpc_region ?_
  refine wpl_q (q_pure rfl) rfl ?_
  refine wpl_q (q_pure rfl) rfl ?_
  refine wpl_q (q_field Tryd.underlying61 rfl Tryd.ti59 rfl rfl _ rfl) rfl ?_
  refine wpl_q (q_ld Tryd.underlying59 rfl rfl rfl) rfl ?_
  refine wpl_q (q_pure rfl) rfl ?_
  refine wpl_q (q_ptrNe Tryd.underlying59 Tryd.ti61 rfl rfl (by kernel_rfl)) rfl ?_
  refine wpl_nil ?_
  refine ex_then ?_
  refine wpc_cond_f rfl ?_
  refine wpc_skip ?_
  refine ret0 (.inr rfl) rfl ?_
  exact fun w h => ⟨(), trivial, rfl, h⟩


theorem copyCheck (b : Nat) (p v : Value) (xs : List UInt8) (w : World) (hb : Mem w (nums (bEnts b p v xs)) (bEnts b p v xs) [] w) (hv : SV v xs.length) (hp : p = .pointer none ∨ p = .pointer (some ⟨b, 0, none⟩)) :
    Calls Tryd.prog 43 [.pointer (some ⟨b, 0, none⟩)].toArray w (GivesA w (bEnts b p v xs) (fun _ : Unit => True) (fun _ => .tuple #[]) (fun _ => bEnts b (.pointer (some ⟨b, 0, none⟩)) v xs)) := by
  rcases hp with rfl | rfl
  · exact copyCheck0 b v xs w hb hv
  · exact copyCheck1 b v xs w hb hv

set_option maxRecDepth 100000 in
theorem writeByte (b : Nat) (p v : Value) (xs : List UInt8) (c : UInt8) (w : World) (hb : Mem w (nums (bEnts b p v xs)) (bEnts b p v xs) [] w) (hv : SV v xs.length) (hp : p = .pointer none ∨ p = .pointer (some ⟨b, 0, none⟩)) (hl : xs.length ≤ 1000000)  :
    Calls Tryd.prog 32 [.pointer (some ⟨b, 0, none⟩), .int .u8 c.toNat].toArray w (GivesA w (bEnts b p v xs) (fun v' => SV v' (xs ++ [c]).length) (fun _ => .nilIface) (fun v' => bEnts b (.pointer (some ⟨b, 0, none⟩)) v' (xs ++ [c]))) := by
  refine enter (m := 17) (R := Mem w (nums (bEnts b p v xs)) (bEnts b p v xs) []) Tryd.func32 rfl rfl (Nat.le_of_ble_eq_true rfl) hb ?_
  refine wpc_seq ?_
  refine wpc_region ?_
  refine wpl_q (q_pure rfl) rfl ?_
  refine wpl_nil ?_
  refine ex_then ?_
  refine wpc_seq ?_
  refine wpc_region ?_
  refine wpl_q (q_pure rfl) rfl ?_
  refine wpl_tp (t_callA Tryd.hb43 rfl fun w h h2 => copyCheck b p v xs w h2 hv hp) rfl (fun b6 p6 => ?_)
  refine wpl_nil ?_
  refine ex_then ?_
  refine wpc_seq ?_
  refine wpc_region ?_
  refine wpl_q (q_pure rfl) rfl ?_
  refine wpl_q (q_pure rfl) rfl ?_
  refine wpl_q (q_pure rfl) rfl ?_
  refine wpl_q (q_field Tryd.underlying61 rfl Tryd.ti22 rfl rfl _ rfl) rfl ?_
  refine wpl_q (q_ld Tryd.underlying22 rfl rfl rfl) rfl ?_
  refine wpl_q (q_pure rfl) rfl ?_
  refine wpl_tp (t_bsV (v8s [_]) Tryd.underlying22 Tryd.ti5 rfl rfl (by decide) (by decide) rfl (v8s_one _)) rfl (fun b13 p13 => ?_)
  refine wpl_tp (t_apW Tryd.underlying22 Tryd.ti5 rfl (by decide) rfl rfl (fun w h => by first | exact h.seenV | exact h.seenA (by first | decide | (simp only [maxLen]; omega)) (by first | with_reducible rfl | (simp only [v8s_length, v32s_length, vis_length, vns_length, v64s_length, List.length_replicate]; first | done | with_reducible assumption | omega) | (rw [v8s_length]; (first | with_reducible assumption | with_reducible exact shortF_length _ | with_reducible exact stepF_length _ _ _ | with_reducible exact sumF_length _ | with_reducible exact climbF_length _ (by first | with_reducible assumption | with_reducible exact shortF_length _ | with_reducible exact beginF_length _ _ | with_reducible exact getD_mem_len (by assumption) (by omega)) _ _ _ | with_reducible exact beginF_length _ _ | with_reducible exact chainF_length _ _ _ | with_reducible exact recF_length _ _ | with_reducible exact publicF_length _ | with_reducible exact getD_mem_len (by assumption) (by omega) | (with_reducible exact List.length_replicate))) | rfl) | exact h.seen_old (by assumption) | exact h.seen_oldL (by assumption) (by assumption) | exact h.seen_fact (by repeat (first | exact List.mem_cons_self .. | apply List.mem_cons_of_mem))) (v8s_one _) (by first | omega | (simp only [maxLen]; omega) | (simp only [List.length_append, List.length_cons, List.length_nil, List.length_take, maxLen]; omega) | (simp only [List.length_append, List.length_cons, List.length_nil, List.length_take]; omega)) (by first | omega | (simp only [maxLen]; omega) | (simp only [List.length_append, List.length_cons, List.length_nil, List.length_take, maxLen]; omega) | (simp only [List.length_append, List.length_cons, List.length_nil, List.length_take]; omega)) _ (by first | with_reducible exact List.nil_append _ | exact (v8s_append _ _).symm | exact (vis_append _ _).symm | exact (vns_append _ _).symm | exact (v64s_append _ _).symm | exact (v32s_append _ _).symm | rfl)) rfl (fun b14 p14 => ?_)
  refine wpl_q (q_pure rfl) rfl ?_
  refine wpl_q (q_field Tryd.underlying61 rfl Tryd.ti22 rfl rfl _ rfl) rfl ?_
  refine wpl_t0 (t_st1 Tryd.ti22 rfl rfl (SV.one (by first | assumption | exact SV.nil | exact SV.slv (by assumption) (by omega) (by omega) | exact arv_sv (by first | decide | (simp only [maxLen]; omega)))) (by first | decide | omega | exact Nat.zero_lt_one | (simp; omega) | (simp; done) | (simp only [v8s_length, v32s_length, vis_length, vns_length, v64s_length]; omega)) _ rfl) (fun _ => ?_)
  refine wpl_nil ?_
  refine ex_then ?_
  refine wpc_seq ?_
  refine wpc_region ?_
  refine wpl_q (q_pure rfl) rfl ?_
  refine wpl_nil ?_
  refine ex_then ?_
  refine wpc_ret ?_
  refine ret1 (.inl rfl) rfl rfl ?_
  exact fun w h => ⟨b14, by rw [List.length_append]; exact p14, rfl, by
      dsimp only [bEnts]
      rw [List.length_append]
      exact h.sub (by repeat (first | exact Sub.nil | exact Sub.refl _ | with_reducible refine Sub.keep ?_ | refine Sub.drop ?_)) (by repeat (first | exact Sub.nil | exact Sub.refl _ | with_reducible refine Sub.keep ?_ | refine Sub.drop ?_))⟩

set_option maxRecDepth 100000 in
theorem string1 (b : Nat) (p v : Value) (xs : List UInt8) (w : World) (hb : Mem w (nums (bEnts b p v xs)) (bEnts b p v xs) [] w) (hv : SV v xs.length) (hne : xs ≠ []) (hl : xs.length ≤ 1000000)  :
    Calls Tryd.prog 33 [.pointer (some ⟨b, 0, none⟩)].toArray w (GivesA w (bEnts b p v xs) (fun _ : Unit => True) (fun _ => str xs) (fun _ => [])) := by
  have hl0 : 0 < xs.length := List.length_pos_iff.2 hne
  refine enter (m := 14) (R := Mem w (nums (bEnts b p v xs)) (bEnts b p v xs) []) Tryd.func33 rfl rfl (Nat.le_of_ble_eq_true rfl) hb ?_
  refine wpc_seq ?_
  refine wpc_region ?_
  refine wpl_q (q_pure rfl) rfl ?_
  refine wpl_nil ?_
  refine ex_then ?_
  refine wpc_seq ?_
  refine wpc_draw 10 (by kernel_rfl) (fun _ h => h.drew) ?_
  refine wpd_p 0 rfl (by kernel_rfl) trivial (q_pure rfl) rfl sk0 ?_
  refine wpd_p 1 rfl (by kernel_rfl) trivial (q_pure rfl) rfl sk0 ?_
  refine wpd_p 2 rfl (by kernel_rfl) trivial (q_field Tryd.underlying61 rfl Tryd.ti22 rfl rfl _ rfl) rfl sk0 ?_
  refine wpd_qB 3 [4, 10] rfl (by kernel_rfl) trivial (q_ld Tryd.underlying22 rfl rfl rfl) rfl (fun _ h => h) ?_
  refine wpd_p 5 rfl (by kernel_rfl) trivial (q_pure rfl) rfl sk0 ?_
  refine wpd_p 6 rfl (by kernel_rfl) trivial (q_pure rfl) rfl sk0 ?_
  refine wpd_p 7 rfl (by kernel_rfl) trivial (q_field Tryd.underlying61 rfl Tryd.ti22 rfl rfl _ rfl) rfl sk0 ?_
  refine wpd_qB 8 [9, 10] rfl (by kernel_rfl) trivial (q_ld Tryd.underlying22 rfl rfl rfl) rfl (fun _ h => h) ?_
  refine wpd_p 9 rfl (by kernel_rfl) trivial (q_lenW Tryd.underlying22 rfl (by first | assumption | exact SV.nil | exact SV.slv (by assumption) (by omega) (by omega) | exact arv_sv (by first | decide | (simp only [maxLen]; omega)))) rfl sk0 ?_
  refine wpd_p 4 rfl (by kernel_rfl) trivial (q_sliceData rfl hv (.inl hl0)) rfl sk0 ?_
  refine wpd_t 10 rfl (by kernel_rfl) trivial (t_unsafeStrL Tryd.underlying81 (by kernel_rfl) rfl rfl .here hne (by omega)) rfl (fun _ => skk rfl) (fun b13 => ?_)
  refine wpd_p 11 rfl (by kernel_rfl) trivial (q_pure rfl) rfl (skk rfl) ?_
  refine wpd_done (by kernel_rfl) ?_
  refine ex_then ?_
  refine wpc_ret ?_
  refine ret1 (.inl rfl) rfl rfl ?_
  exact fun w h => ⟨(), trivial, rfl, h.sub .nil .nil⟩

set_option maxRecDepth 100000 in
theorem string0 (b : Nat) (p : Value) (w : World) (hb : Mem w (nums (bEnts b p (.slice none 0 0) [])) (bEnts b p (.slice none 0 0) []) [] w)  :
    Calls Tryd.prog 33 [.pointer (some ⟨b, 0, none⟩)].toArray w (GivesA w (bEnts b p (.slice none 0 0) []) (fun _ : Unit => True) (fun _ => str []) (fun _ => [])) := by
  refine enter (m := 14) (R := Mem w (nums (bEnts b p (.slice none 0 0) [])) (bEnts b p (.slice none 0 0) []) []) Tryd.func33 rfl rfl (Nat.le_of_ble_eq_true rfl) hb ?_
  refine wpc_seq ?_
  refine wpc_region ?_
  refine wpl_q (q_pure rfl) rfl ?_
  refine wpl_nil ?_
  refine ex_then ?_
  refine wpc_seq ?_
  refine wpc_draw 12 (by kernel_rfl) (fun _ h => h.drew) ?_
  refine wpd_p 0 rfl (by kernel_rfl) trivial (q_pure rfl) rfl sk0 ?_
  refine wpd_p 1 rfl (by kernel_rfl) trivial (q_pure rfl) rfl sk0 ?_
  refine wpd_p 2 rfl (by kernel_rfl) trivial (q_field Tryd.underlying61 rfl Tryd.ti22 rfl rfl _ rfl) rfl sk0 ?_
  refine wpd_q 3 rfl (by kernel_rfl) trivial (q_ld Tryd.underlying22 rfl rfl rfl) rfl (fun _ h => h) ?_
  refine wpd_p 5 rfl (by kernel_rfl) trivial (q_pure rfl) rfl sk0 ?_
  refine wpd_p 6 rfl (by kernel_rfl) trivial (q_pure rfl) rfl sk0 ?_
  refine wpd_p 7 rfl (by kernel_rfl) trivial (q_field Tryd.underlying61 rfl Tryd.ti22 rfl rfl _ rfl) rfl sk0 ?_
  refine wpd_q 8 rfl (by kernel_rfl) trivial (q_ld Tryd.underlying22 rfl rfl rfl) rfl (fun _ h => h) ?_
  refine wpd_p 9 rfl (by kernel_rfl) trivial (q_lenW Tryd.underlying22 rfl (by first | assumption | exact SV.nil | exact SV.slv (by assumption) (by omega) (by omega) | exact arv_sv (by first | decide | (simp only [maxLen]; omega)))) rfl sk0 ?_
  refine wpd_p 4 rfl (by kernel_rfl) trivial (q_sliceData rfl SV.nil (.inr rfl)) rfl sk0 ?_
  refine wpd_p 10 rfl (by kernel_rfl) trivial (q_unsafeStr0 rfl rfl) rfl sk0 ?_
  refine wpd_p 11 rfl (by kernel_rfl) trivial (q_pure rfl) rfl sk0 ?_
  refine wpd_done (by kernel_rfl) ?_
  refine ex_then ?_
  refine wpc_ret ?_
  refine ret1 (.inl rfl) rfl rfl ?_
  exact fun w h => ⟨(), trivial, rfl, h.sub .nil .nil⟩


theorem string_ (b : Nat) (p v : Value) (xs : List UInt8) (w : World) (hb : Mem w (nums (bEnts b p v xs)) (bEnts b p v xs) [] w) (hv : SV v xs.length) (hn : xs = [] → v = .slice none 0 0) (hl : xs.length ≤ 1000000) :
    Calls Tryd.prog 33 [.pointer (some ⟨b, 0, none⟩)].toArray w (GivesA w (bEnts b p v xs) (fun _ : Unit => True) (fun _ => str xs) (fun _ => [])) := by
  by_cases h : xs = []
  · obtain rfl := hn h
    subst h
    exact string0 b p w hb
  · exact string1 b p v xs w hb hv h hl

end Go.Proofs.YtlapmdiabhlbmaaDoor
