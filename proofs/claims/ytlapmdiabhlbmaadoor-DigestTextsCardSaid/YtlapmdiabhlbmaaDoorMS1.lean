/- What the statement reaches, in order. -/
import Derived.Test.YtlapmdiabhlbmaaDoorMSPLN
import Derived.Test.YtlapmdiabhlbmaaDoorMSTI
import Derived.Test.YtlapmdiabhlbmaaDoorMSPLI
import Derived.Test.YtlapmdiabhlbmaaDoorMSPLZ
import Derived.KernelRfl
import Derived.Shelf.Strings.Trim
import Derived.Shelf.Small.Strs
import Derived.Shelf.LaysM
import Derived.Shelf.Bytes.WriteByte
import Derived.Shelf.Bytes.Bytes
import Derived.Test.YtlapmdiabhlbmaaDoorProg
import Derived.Test.YtlapmdiabhlbmaaDoorMSPLL
import Derived.Lib.TrimByte
import Derived.Lib.Bytealg
import Derived.Stop.LaidErr
import Derived.WalkKit
import Derived.ProofKit
import Derived.OpenShut
import Derived.ChangeOld
import Derived.Below
import Derived.Carry
import Derived.LaidMore
import Derived.Deep.DeepHandedRow
import Derived.Deep.DeepWitnessRowRef
import Derived.Lib.LaidTab
import Derived.Stop.Joined
set_option linter.unusedSimpArgs false
set_option linter.unusedVariables false
set_option maxRecDepth 100000
namespace Go.Proofs.YtlapmdiabhlbmaaDoor
open Go Go.PL Go.RowKit
instance same_noEscape : SameP Tryd.prog 53 := ⟨fun x w => by
  rw [run_callFunc_extern Tryd.func53 zz3 zz3 zz3 (e := Extern.AbiNoEscape.same) zz3]
  rw [Lib.run_noEscape]; rfl⟩
abbrev bEnts (b : Nat) (p v : Value) (xs : List UInt8) : List Ent := [.row v xs.length 5 1 (v8s xs), .blk b 61 [p, v]]
theorem copyCheck0 (b : Nat) (v : Value) (xs : List UInt8) (w : World) (hb : Mem w (nums (bEnts b (.pointer none) v xs)) (bEnts b (.pointer none) v xs) [] w) (hv : SV v xs.length)  :
    Calls Tryd.prog 43 [.pointer (some ⟨b, 0, none⟩)].toArray w (GivesA w (bEnts b (.pointer none) v xs) (fun _ : Unit => True) (fun _ => .tuple #[]) (fun _ => bEnts b (.pointer (some ⟨b, 0, none⟩)) v xs)) := by
  refine enter (m := 20) (R := Mem w (nums (bEnts b (.pointer none) v xs)) (bEnts b (.pointer none) v xs) []) Tryd.func43 rfl rfl (Nat.le_of_ble_eq_true rfl) hb ?_
  refine wpc_seq <| wpc_region <| wpl_q (q_pure rfl) rfl <| wpl_q (q_pure rfl) rfl <| wpl_q (q_field Tryd.underlying61 rfl Tryd.ti59 rfl rfl _ rfl) rfl <| wpl_q (q_ld Tryd.underlying59 rfl rfl rfl) rfl ?_
  refine wpl_q (q_ptrNilT Tryd.underlying59 rfl rfl zz3) rfl ?_
  refine wpl_nil <| ex_then ?_
  refine wpc_cond_t rfl ?_
  refine wpc_region <| wpl_q (q_pure rfl) rfl <| wpl_q (q_pure rfl) rfl ?_
  refine wpl_q (q_toU Tryd.underlying59 Tryd.underlying94 Tryd.ti61 rfl rfl (by exact Nat.zero_lt_succ _)) rfl ?_
  refine wpl_q (q_same rfl) rfl ?_
  refine wpl_q (q_fromU Tryd.underlying94 Tryd.underlying59 Tryd.ti61 rfl zz3) rfl ?_
  refine wpl_q (q_pure rfl) rfl <| wpl_q (q_field Tryd.underlying61 rfl Tryd.ti59 rfl rfl _ rfl) rfl ?_
  refine wpl_t0 (t_st1 Tryd.ti59 rfl rfl rfl zz7 _ rfl) (fun _ => ?_)
  refine wpl_nil ?_
  refine ret0 (.inr rfl) rfl ?_
  exact fun w h => ⟨(), trivial, rfl, h⟩
theorem copyCheck1 (b : Nat) (v : Value) (xs : List UInt8) (w : World) (hb : Mem w (nums (bEnts b (.pointer (some ⟨b, 0, none⟩)) v xs)) (bEnts b (.pointer (some ⟨b, 0, none⟩)) v xs) [] w) (hv : SV v xs.length)  :
    Calls Tryd.prog 43 [.pointer (some ⟨b, 0, none⟩)].toArray w (GivesA w (bEnts b (.pointer (some ⟨b, 0, none⟩)) v xs) (fun _ : Unit => True) (fun _ => .tuple #[]) (fun _ => bEnts b (.pointer (some ⟨b, 0, none⟩)) v xs)) := by
  refine enter (m := 20) (R := Mem w (nums (bEnts b (.pointer (some ⟨b, 0, none⟩)) v xs)) (bEnts b (.pointer (some ⟨b, 0, none⟩)) v xs) []) Tryd.func43 rfl rfl (Nat.le_of_ble_eq_true rfl) hb ?_
  refine wpc_seq <| wpc_region <| wpl_q (q_pure rfl) rfl <| wpl_q (q_pure rfl) rfl <| wpl_q (q_field Tryd.underlying61 rfl Tryd.ti59 rfl rfl _ rfl) rfl <| wpl_q (q_ld Tryd.underlying59 rfl rfl rfl) rfl ?_
  refine wpl_q (q_ptrNilF Tryd.underlying59 rfl rfl zz3) rfl ?_
  refine wpl_nil <| ex_then ?_
  refine wpc_cond_f rfl ?_
  refine wpc_seq <| wpc_region <| wpl_q (q_pure rfl) rfl <| wpl_q (q_pure rfl) rfl <| wpl_q (q_field Tryd.underlying61 rfl Tryd.ti59 rfl rfl _ rfl) rfl <| wpl_q (q_ld Tryd.underlying59 rfl rfl rfl) rfl <| wpl_q (q_pure rfl) rfl ?_
  refine wpl_q (q_ptrNe Tryd.underlying59 Tryd.ti61 rfl rfl zz3) rfl ?_
  refine wpl_nil <| ex_then ?_
  refine wpc_cond_f rfl ?_
  refine wpc_skip ?_
  refine ret0 (.inr rfl) rfl ?_
  exact fun w h => ⟨(), trivial, rfl, h⟩
theorem copyCheck (b : Nat) (p v : Value) (xs : List UInt8) (w : World) (hb : Mem w (nums (bEnts b p v xs)) (bEnts b p v xs) [] w) (hv : SV v xs.length) (hp : p = .pointer none ∨ p = .pointer (some ⟨b, 0, none⟩)) :
    Calls Tryd.prog 43 [.pointer (some ⟨b, 0, none⟩)].toArray w (GivesA w (bEnts b p v xs) (fun _ : Unit => True) (fun _ => .tuple #[]) (fun _ => bEnts b (.pointer (some ⟨b, 0, none⟩)) v xs)) := by
  rcases hp with rfl | rfl
  · exact copyCheck0 b v xs w hb hv
  · exact copyCheck1 b v xs w hb hv
theorem writeByte (b : Nat) (p v : Value) (xs : List UInt8) (c : UInt8) (w : World) (hb : Mem w (nums (bEnts b p v xs)) (bEnts b p v xs) [] w) (hv : SV v xs.length) (hp : p = .pointer none ∨ p = .pointer (some ⟨b, 0, none⟩)) (hl : xs.length ≤ 1000000)  :
    Calls Tryd.prog 32 [.pointer (some ⟨b, 0, none⟩), .int .u8 c.toNat].toArray w (GivesA w (bEnts b p v xs) (fun v' => SV v' (xs ++ [c]).length) (fun _ => .nilIface) (fun v' => bEnts b (.pointer (some ⟨b, 0, none⟩)) v' (xs ++ [c]))) := by
  refine enter (m := 17) (R := Mem w (nums (bEnts b p v xs)) (bEnts b p v xs) []) Tryd.func32 rfl rfl (Nat.le_of_ble_eq_true rfl) hb ?_
  refine wpc_seq <| wpc_region <| wpl_q (q_pure rfl) rfl <| wpl_nil <| ex_then <| wpc_seq <| wpc_region <| wpl_q (q_pure rfl) rfl ?_
  refine wpl_tp (t_callA Tryd.hb43 rfl fun w h h2 => copyCheck b p v xs w h2 hv hp) rfl (fun b6 p6 => ?_)
  refine wpl_nil <| ex_then <| wpc_seq <| wpc_region <| wpl_q (q_pure rfl) rfl <| wpl_q (q_pure rfl) rfl <| wpl_q (q_pure rfl) rfl <| wpl_q (q_field Tryd.underlying61 rfl Tryd.ti22 rfl rfl _ rfl) rfl <| wpl_q (q_ld Tryd.underlying22 rfl rfl rfl) rfl <| wpl_q (q_pure rfl) rfl ?_
  refine wpl_tp (t_bsV (v8s [_]) Tryd.underlying22 Tryd.ti5 rfl rfl zz15 zz15 rfl (v8s_one _)) rfl (fun b13 p13 => ?_)
  refine wpl_tp (t_apW Tryd.underlying22 Tryd.ti5 rfl zz15 rfl rfl (fun w h => zz1) (v8s_one _) zz0 zz0 _ (by first | with_reducible exact List.nil_append _ | exact (v8s_append _ _).symm | exact (vis_append _ _).symm | exact (vns_append _ _).symm | exact (v64s_append _ _).symm | exact (v32s_append _ _).symm | rfl)) rfl (fun b14 p14 => ?_)
  refine wpl_q (q_pure rfl) rfl <| wpl_q (q_field Tryd.underlying61 rfl Tryd.ti22 rfl rfl _ rfl) rfl ?_
  refine wpl_t0 (t_st1 Tryd.ti22 rfl rfl (SV.one zz2) zz7 _ rfl) (fun _ => ?_)
  refine wpl_nil <| ex_then <| wpc_seq <| wpc_region <| wpl_q (q_pure rfl) rfl <| wpl_nil <| ex_then <| wpc_ret ?_
  refine ret1 (.inl rfl) rfl rfl ?_
  exact fun w h => ⟨b14, by rw [List.length_append]; exact p14, rfl, by
      dsimp only [bEnts]
      rw [List.length_append]
      exact h.sub zz4 zz4⟩
theorem string1 (b : Nat) (p v : Value) (xs : List UInt8) (w : World) (hb : Mem w (nums (bEnts b p v xs)) (bEnts b p v xs) [] w) (hv : SV v xs.length) (hne : xs ≠ []) (hl : xs.length ≤ 1000000)  :
    Calls Tryd.prog 33 [.pointer (some ⟨b, 0, none⟩)].toArray w (GivesA w (bEnts b p v xs) (fun _ : Unit => True) (fun _ => str xs) (fun _ => [])) := by
  have hl0 : 0 < xs.length := List.length_pos_iff.2 hne
  refine enter (m := 14) (R := Mem w (nums (bEnts b p v xs)) (bEnts b p v xs) []) Tryd.func33 rfl rfl (Nat.le_of_ble_eq_true rfl) hb ?_
  refine wpc_seq <| wpc_region <| wpl_q (q_pure rfl) rfl <| wpl_nil <| ex_then <| wpc_seq ?_
  refine wpc_draw 10 zz3 (fun _ h => h.drew) ?_
  refine wpd_p 0 rfl zz3 trivial (q_pure rfl) rfl sk0 ?_
  refine wpd_p 1 rfl zz3 trivial (q_pure rfl) rfl sk0 ?_
  refine wpd_p 2 rfl zz3 trivial (q_field Tryd.underlying61 rfl Tryd.ti22 rfl rfl _ rfl) rfl sk0 ?_
  refine wpd_qB 3 [4, 10] rfl zz3 trivial (q_ld Tryd.underlying22 rfl rfl rfl) rfl (fun _ h => h) ?_
  refine wpd_p 5 rfl zz3 trivial (q_pure rfl) rfl sk0 ?_
  refine wpd_p 6 rfl zz3 trivial (q_pure rfl) rfl sk0 ?_
  refine wpd_p 7 rfl zz3 trivial (q_field Tryd.underlying61 rfl Tryd.ti22 rfl rfl _ rfl) rfl sk0 ?_
  refine wpd_qB 8 [9, 10] rfl zz3 trivial (q_ld Tryd.underlying22 rfl rfl rfl) rfl (fun _ h => h) ?_
  refine wpd_p 9 rfl zz3 trivial (q_lenW Tryd.underlying22 rfl zz2) rfl sk0 ?_
  refine wpd_p 4 rfl zz3 trivial (q_sliceData rfl hv (.inl hl0)) rfl sk0 ?_
  refine wpd_t 10 rfl zz3 trivial (t_unsafeStrL Tryd.underlying81 zz3 rfl rfl .here hne zz6) rfl (fun _ => skk rfl) (fun b13 => ?_)
  refine wpd_p 11 rfl zz3 trivial (q_pure rfl) rfl (skk rfl) ?_
  refine wpd_done zz3 ?_
  refine ex_then <| wpc_ret ?_
  refine ret1 (.inl rfl) rfl rfl ?_
  exact fun w h => ⟨(), trivial, rfl, h.sub .nil .nil⟩
theorem string0 (b : Nat) (p : Value) (w : World) (hb : Mem w (nums (bEnts b p (.slice none 0 0) [])) (bEnts b p (.slice none 0 0) []) [] w)  :
    Calls Tryd.prog 33 [.pointer (some ⟨b, 0, none⟩)].toArray w (GivesA w (bEnts b p (.slice none 0 0) []) (fun _ : Unit => True) (fun _ => str []) (fun _ => [])) := by
  refine enter (m := 14) (R := Mem w (nums (bEnts b p (.slice none 0 0) [])) (bEnts b p (.slice none 0 0) []) []) Tryd.func33 rfl rfl (Nat.le_of_ble_eq_true rfl) hb ?_
  refine wpc_seq <| wpc_region <| wpl_q (q_pure rfl) rfl <| wpl_nil <| ex_then <| wpc_seq ?_
  refine wpc_draw 12 zz3 (fun _ h => h.drew) ?_
  refine wpd_p 0 rfl zz3 trivial (q_pure rfl) rfl sk0 ?_
  refine wpd_p 1 rfl zz3 trivial (q_pure rfl) rfl sk0 ?_
  refine wpd_p 2 rfl zz3 trivial (q_field Tryd.underlying61 rfl Tryd.ti22 rfl rfl _ rfl) rfl sk0 ?_
  refine wpd_q 3 rfl zz3 trivial (q_ld Tryd.underlying22 rfl rfl rfl) rfl (fun _ h => h) ?_
  refine wpd_p 5 rfl zz3 trivial (q_pure rfl) rfl sk0 ?_
  refine wpd_p 6 rfl zz3 trivial (q_pure rfl) rfl sk0 ?_
  refine wpd_p 7 rfl zz3 trivial (q_field Tryd.underlying61 rfl Tryd.ti22 rfl rfl _ rfl) rfl sk0 ?_
  refine wpd_q 8 rfl zz3 trivial (q_ld Tryd.underlying22 rfl rfl rfl) rfl (fun _ h => h) ?_
  refine wpd_p 9 rfl zz3 trivial (q_lenW Tryd.underlying22 rfl zz2) rfl sk0 ?_
  refine wpd_p 4 rfl zz3 trivial (q_sliceData rfl SV.nil (.inr rfl)) rfl sk0 ?_
  refine wpd_p 10 rfl zz3 trivial (q_unsafeStr0 rfl rfl) rfl sk0 ?_
  refine wpd_p 11 rfl zz3 trivial (q_pure rfl) rfl sk0 ?_
  refine wpd_done zz3 ?_
  refine ex_then <| wpc_ret ?_
  refine ret1 (.inl rfl) rfl rfl ?_
  exact fun w h => ⟨(), trivial, rfl, h.sub .nil .nil⟩
theorem string_ (b : Nat) (p v : Value) (xs : List UInt8) (w : World) (hb : Mem w (nums (bEnts b p v xs)) (bEnts b p v xs) [] w) (hv : SV v xs.length) (hn : xs = [] → v = .slice none 0 0) (hl : xs.length ≤ 1000000) :
    Calls Tryd.prog 33 [.pointer (some ⟨b, 0, none⟩)].toArray w (GivesA w (bEnts b p v xs) (fun _ : Unit => True) (fun _ => str xs) (fun _ => [])) := by
  by_cases h : xs = []
  · obtain rfl := hn h
    subst h
    exact string0 b p w hb
  · exact string1 b p v xs w hb hv h hl
end Go.Proofs.YtlapmdiabhlbmaaDoor
namespace Go.Proofs.YtlapmdiabhlbmaaDoor
open Go Go.PL Go.RowKit
theorem same_step (xs ys : List UInt8) (i : Nat) (h : xs.take i = ys.take i) (h1 : i < xs.length) (h2 : i < ys.length) (he : xs.getD i 0 = ys.getD i 0) : xs.take (i + 1) = ys.take (i + 1) := by
  rw [List.take_add_one, List.take_add_one, h]
  simp only [List.getD_eq_getElem?_getD, List.getElem?_eq_getElem h1, List.getElem?_eq_getElem h2, Option.getD_some] at he
  simp [h1, h2, he]
theorem refSame (av : Value) (xs : List UInt8) (bv : Value) (ys : List UInt8) (w : World) (hav : Seen w.cell? av xs.length 1 (v8s xs)) (hbv : Seen w.cell? bv ys.length 1 (v8s ys))  :
    Calls Tryd.prog 15 [av, bv].toArray w (Pur w (.bool (decide (xs = ys)))) := by
  have sav := hav.sv
  have lav := sav.le
  simp only [maxLen] at lav
  have sbv := hbv.sv
  have lbv := sbv.le
  simp only [maxLen] at lbv
  refine enter (m := 26) (R := Mem w [] [] []) Tryd.func15 rfl rfl (Nat.le_of_ble_eq_true rfl) (Mem.start w) ?_
  refine wpc_seq <| wpc_region <| wpl_q (q_pure rfl) rfl <| wpl_nil <| ex_then <| wpc_seq <| wpc_seq <| wpc_region <| wpl_q (q_pure rfl) rfl ?_
  refine wpl_q (q_lenW Tryd.underlying22 rfl zz2) rfl ?_
  refine wpl_q (q_pure rfl) rfl ?_
  refine wpl_q (q_lenW Tryd.underlying22 rfl zz2) rfl ?_
  refine wpl_q (q_pure rfl) rfl <| wpl_nil <| ex_then ?_
  refine wpc_cond rfl (fun hc10 => ?_) (fun hc10 => ?_)
  ·
   simp only [decide_eq_true_eq, bne_iff_ne, ne_eq] at hc10
   have hne : xs ≠ ys := fun e => hc10 (by rw [e])
   refine wpc_seq <| wpc_region <| wpl_q (q_pure rfl) rfl <| wpl_nil <| ex_then <| wpc_ret ?_
   refine ex_then_ret ?_
   refine ret1 (.inl rfl) rfl rfl ?_
   exact fun w h => ⟨by simp [hne], h.below⟩
  ·
   simp only [bne_eq_false_iff_eq] at hc10
   have hl : xs.length = ys.length := by omega
   refine wpc_skip <| ex_then <| wpc_seq <| wpc_seq <| wpc_region <| wpl_q (q_pure rfl) rfl <| wpl_nil <| ex_then <| wpc_block ?_
   refine wpc_loopc (ι := { x : Nat // (x ≤ xs.length) ∧ (xs.take x = ys.take x) }) [(0, _), (1, _)] (fun x Lc => (5, .int .i64 ((x.1 : Nat) : Int)) :: Lc) (fun x => Mem w [] [] []) (fun x => xs.length - x.1) ⟨0, ⟨Nat.zero_le _, rfl⟩⟩ zz5 ?_ ?_
   ·
    exact fun w h => h
   ·
    rintro ⟨i, ⟨hi0, hi1⟩⟩; try dsimp only
    have hi0 : i ≤ xs.length := hi0; have hi1 : xs.take i = ys.take i := hi1
    refine wpc_seq <| wpc_seq <| wpc_region <| wpl_q (q_pure rfl) rfl <| wpl_q (q_pure rfl) rfl ?_
    refine wpl_q (q_lenW Tryd.underlying22 rfl zz2) rfl ?_
    refine wpl_q (q_pure rfl) rfl <| wpl_nil <| ex_then ?_
    refine wpc_cond rfl (fun hc14 => ?_) (fun hc14 => ?_)
    ·
     try simp only [decide_eq_true_eq, decide_eq_false_iff_not, Bool.and_eq_true, Bool.or_eq_true, beq_iff_eq, bne_iff_ne, ne_eq, Bool.not_eq_true', Bool.not_eq_false', Decidable.not_not] at hc14
     refine wpc_skip <| ex_then <| wpc_seq <| wpc_block <| wpc_seq ?_
     refine wpc_draw 9 zz3 (fun _ h => h.drew) ?_
     refine wpd_p 0 rfl zz3 trivial (q_pure rfl) rfl sk0 ?_
     refine wpd_p 1 rfl zz3 trivial (q_pure rfl) rfl sk0 ?_
     refine wpd_p 2 rfl zz3 trivial (q_idxW1 Tryd.underlying22 Tryd.ti5 rfl rfl zz2 zz0) rfl sk0 ?_
     refine wpd_q 3 rfl zz3 trivial (q_ldW Tryd.underlying5 rfl rfl (fun w h => zz1) zz13) rfl (fun _ h => h) ?_
     refine wpd_p 4 rfl zz3 trivial (q_pure rfl) rfl sk0 ?_
     refine wpd_p 5 rfl zz3 trivial (q_pure rfl) rfl sk0 ?_
     refine wpd_p 6 rfl zz3 trivial (q_idxW1 Tryd.underlying22 Tryd.ti5 rfl rfl zz2 zz0) rfl sk0 ?_
     refine wpd_q 7 rfl zz3 trivial (q_ldW Tryd.underlying5 rfl rfl (fun w h => zz1) zz13) rfl (fun _ h => h) ?_
     refine wpd_p 8 rfl zz3 trivial (q8_neq rfl rfl) rfl sk0 ?_
     refine wpd_done zz3 ?_
     refine ex_then ?_
     refine wpc_cond rfl (fun hc25 => ?_) (fun hc25 => ?_)
     ·
      simp only [Bool.not_eq_true', decide_eq_false_iff_not] at hc25
      have hne : xs ≠ ys := fun e => hc25 (by rw [e])
      refine wpc_seq <| wpc_region <| wpl_q (q_pure rfl) rfl <| wpl_nil <| ex_then <| wpc_ret ?_
      refine ex_block_ret ?_
      refine ex_then_ret ?_
      refine ex_then_ret ?_
      refine ex_block_ret ?_
      refine ex_then_ret ?_
      refine ret1 (.inl rfl) rfl rfl ?_
      exact fun w h => ⟨by simp [hne], h.below⟩
     ·
      simp only [Bool.not_eq_false', decide_eq_true_eq] at hc25
      refine wpc_skip <| ex_block <| ex_then <| wpc_region <| wpl_q (q_pure rfl) rfl ?_
      refine wpl_q (q_addN (b := 1) rfl rfl zz0) rfl ?_
      refine wpl_q (q_pure rfl) rfl <| wpl_nil ?_
      refine ex_again ⟨i + 1, ⟨zz6, same_step xs ys i hi1 zz6 zz6 hc25⟩⟩ ?_ ?_ ?_
      ·
       exact zz5
      ·
       exact fun w h => by first | exact h | exact h.sub SubC.h SubC.h | exact h.sub zz4 zz4
      ·
       (show xs.length - (i + 1) < xs.length - i); omega
    ·
     simp only [decide_eq_false_iff_not] at hc14
     obtain rfl : i = xs.length := by omega
     have heq : xs = ys := by rw [List.take_length, hl, List.take_length] at hi1; exact hi1
     refine wpc_exit ?_
     refine ex_then_exit ?_
     refine ex_then_exit ?_
     refine ex_block_hit ?_
     refine ex_then <| wpc_seq <| wpc_region <| wpl_q (q_pure rfl) rfl <| wpl_nil <| ex_then <| wpc_ret ?_
     refine ret1 (.inl rfl) rfl rfl ?_
     exact fun w h => ⟨by simp [heq], h.below⟩
end Go.Proofs.YtlapmdiabhlbmaaDoor
namespace Go.Proofs.YtlapmdiabhlbmaaDoor
open Go Go.PL Go.RowKit
def hexD : List UInt8 := [48, 49, 50, 51, 52, 53, 54, 55, 56, 57, 97, 98, 99, 100, 101, 102]
def hexF (xs : List UInt8) : Nat → List UInt8
  | 0 => []
  | i + 1 => hexF xs i ++ [hexD.getD (sr8 (xs.getD i 0) 4).toNat 0] ++ [hexD.getD ((xs.getD i 0) &&& 15).toNat 0]
theorem sr8_lt (x : UInt8) : (sr8 x 4).toNat < 16 := by
  have := x.toNat_lt
  simp only [sr8, UInt8.toNat_ofNat']
  have : min 4 8 = 4 := rfl
  rw [this]; omega
theorem and8_lt (x : UInt8) : (x &&& 15).toNat < 16 := by
  rw [UInt8.toNat_and]
  have : x.toNat &&& (15 : UInt8).toNat = x.toNat % 16 := Nat.and_two_pow_sub_one_eq_mod _ 4
  rw [this]; exact Nat.mod_lt _ zz15
theorem hexF_length (xs : List UInt8) : ∀ i, (hexF xs i).length = 2 * i
  | 0 => rfl
  | i + 1 => by rw [hexF, List.length_append, List.length_append, hexF_length xs i]; simp; omega
theorem hexW (bv : Value) (bs : List UInt8) (w : World) (hbv : Seen w.cell? bv bs.length 1 (v8s bs)) (hbl : bs.length ≤ 100000) :
    Calls Tryd.prog 18 [bv].toArray w (Pur w (str (hexF bs bs.length))) := by
  have sbv := hbv.sv
  have lbv := sbv.le
  simp only [maxLen] at lbv
  refine enter (m := 22) (R := Mem w [] [] []) Tryd.func18 rfl rfl (Nat.le_of_ble_eq_true rfl) (Mem.start w) ?_
  refine wpc_seq <| wpc_region <| wpl_q (q_pure rfl) rfl <| wpl_nil <| ex_then <| wpc_seq <| wpc_region ?_
  refine wpl_t (t_alloc Tryd.ti61 _ rfl) rfl (fun b3 => ?_)
  refine wpl_nil <| ex_then <| wpc_seq <| wpc_seq <| wpc_region <| wpl_q (q_pure rfl) rfl ?_
  refine wpl_q (q_lenW Tryd.underlying22 rfl zz2) rfl ?_
  refine wpl_q (q_pure rfl) rfl <| wpl_nil <| ex_then <| wpc_block ?_
  refine wpc_loopc (ι := { x : Nat × Value × Value // (x.1 ≤ bs.length) ∧ (SV x.2.1 (hexF bs x.1).length) ∧ ((x.1 = 0 → x.2.1 = .slice none 0 0)) ∧ ((x.2.2 = .pointer none ∨ x.2.2 = .pointer (some ⟨b3, 0, none⟩))) }) [(3, _), (6, _), (7, _)] (fun x Lc => (8, .int .i64 ((x.1.1 : Nat) : Int)) :: Lc) (fun x => Mem w [] (bEnts b3 x.1.2.2 x.1.2.1 (hexF bs x.1.1)) []) (fun x => bs.length - x.1.1) ⟨(0, .slice none 0 0, .pointer none), ⟨Nat.zero_le _, SV.nil, fun _ => rfl, .inl rfl⟩⟩ zz5 ?_ ?_
  · exact fun w h => h.nilRow 5 1
  · rintro ⟨⟨i, v, p⟩, ⟨hi0, hi1, hi2, hi3⟩⟩; try dsimp only
    have hi0 : i ≤ bs.length := hi0; have hi1 : SV v (hexF bs i).length := hi1; have hi2 : (i = 0 → v = .slice none 0 0) := hi2; have hi3 : (p = .pointer none ∨ p = .pointer (some ⟨b3, 0, none⟩)) := hi3
    have hxl := hexF_length bs i
    have hb1 := sr8_lt (bs.getD i 0)
    have hb2 := and8_lt (bs.getD i 0)
    refine wpc_seq <| wpc_region <| wpl_q (q_pure rfl) rfl <| wpl_nil <| ex_then <| wpc_seq ?_
    refine wpc_cond rfl (fun hc9 => ?_) (fun hc9 => ?_)
    ·
      try simp only [decide_eq_true_eq, decide_eq_false_iff_not, Bool.and_eq_true, Bool.or_eq_true, beq_iff_eq, bne_iff_ne, ne_eq, Bool.not_eq_true', Bool.not_eq_false', Decidable.not_not] at hc9
      refine wpc_skip <| ex_then <| wpc_seq <| wpc_block <| wpc_seq <| wpc_region ?_
      refine wpl_q (q_idxW1 Tryd.underlying22 Tryd.ti5 rfl rfl zz2 zz0) rfl ?_
      refine wpl_q (q_ldW Tryd.underlying5 rfl rfl (fun w h => zz1) zz13) rfl ?_
      refine wpl_q (q_pure rfl) rfl <| wpl_nil <| ex_then <| wpc_seq <| wpc_region <| wpl_q (q_pure rfl) rfl ?_
      refine wpl_q (q8_shr rfl rfl zz10 4 rfl) rfl ?_
      refine wpl_q (q_strIdx Tryd.underlying9 rfl rfl zz0) rfl ?_
      refine wpl_tp (t_callA Tryd.hb32 rfl fun w h h2 => writeByte b3 p v (hexF bs i) _ w h2 hi1 hi3 (by first | omega | (simp only [List.length_append, List.length_cons, List.length_nil]; omega))) rfl (fun b15 p15 => ?_)
      refine wpl_nil <| ex_then <| wpc_region <| wpl_q (q_pure rfl) rfl ?_
      refine wpl_q (q8_and (b := (15 : UInt8)) rfl rfl) rfl ?_
      refine wpl_q (q_strIdx Tryd.underlying9 rfl rfl zz0) rfl ?_
      refine wpl_tp (t_callA Tryd.hb32 rfl fun w h h2 => writeByte b3 (.pointer (some ⟨b3, 0, none⟩)) b15 _ _ w h2 p15 (.inr rfl) (by first | omega | (simp only [List.length_append, List.length_cons, List.length_nil]; omega))) rfl (fun b19 p19 => ?_)
      refine wpl_nil <| ex_block <| ex_then <| wpc_region ?_
      refine wpl_q (q_addN (b := 1) rfl rfl zz0) rfl ?_
      refine wpl_q (q_pure rfl) rfl <| wpl_nil ?_
      refine ex_again ⟨(i + 1, b19, .pointer (some ⟨b3, 0, none⟩)), ⟨zz6, p19, fun h => absurd h (Nat.succ_ne_zero _), Or.inr rfl⟩⟩ ?_ ?_ ?_
      · exact zz5
      · exact fun w h => by first | exact h | exact h.sub zz4 zz4
      · (show bs.length - (i + 1) < bs.length - i); omega
    ·
      simp only [decide_eq_false_iff_not] at hc9
      obtain rfl : i = bs.length := by omega
      have hnil : hexF bs bs.length = [] → v = .slice none 0 0 := fun h => hi2 (by have h1 := congrArg List.length h; rw [hxl, List.length_nil] at h1; omega)
      refine wpc_exit ?_
      refine ex_then_exit ?_
      refine ex_then_exit ?_
      refine ex_block_hit ?_
      refine ex_then <| wpc_seq <| wpc_region ?_
      refine wpl_tp (t_callA Tryd.hb33 rfl fun w h h2 => string_ b3 p v (hexF bs bs.length) w h2 hi1 hnil zz6) rfl (fun b21 p21 => ?_)
      refine wpl_q (q_pure rfl) rfl <| wpl_nil <| ex_then <| wpc_ret ?_
      refine ret1 (.inl rfl) rfl rfl ?_
      exact fun w h => ⟨rfl, h.below⟩
end Go.Proofs.YtlapmdiabhlbmaaDoor
namespace Go.Proofs.YtlapmdiabhlbmaaDoor
open Go Go.PL Go.RowKit
def b64A : List UInt8 := [65, 66, 67, 68, 69, 70, 71, 72, 73, 74, 75, 76, 77, 78, 79, 80, 81, 82, 83, 84, 85, 86, 87, 88, 89, 90, 97, 98, 99, 100, 101, 102, 103, 104, 105, 106, 107, 108, 109, 110, 111, 112, 113, 114, 115, 116, 117, 118, 119, 120, 121, 122, 48, 49, 50, 51, 52, 53, 54, 55, 56, 57, 43, 47]
def word3 (xs : List UInt8) : Nat := ((xs.getD 0 0).toNat * 2 ^ 16 ||| (xs.getD 1 0).toNat * 2 ^ 8) ||| (xs.getD 2 0).toNat
def b64C (xs : List UInt8) (n k : Nat) : UInt8 := if n < k then 61 else b64A.getD (word3 xs / 2 ^ (18 - 6 * k) &&& 63) 0
def b64G (xs : List UInt8) (n : Nat) : Nat → List UInt8
  | 0 => []
  | k + 1 => b64G xs n k ++ [b64C xs n k]
theorem b64G_length (xs : List UInt8) (n : Nat) : ∀ k, (b64G xs n k).length = k
  | 0 => rfl
  | k + 1 => by rw [b64G, List.length_append, b64G_length xs n k]; rfl
def pad3 (ys : List UInt8) : List UInt8 := ys.take 3 ++ (List.replicate 3 (0 : UInt8)).drop (min ys.length 3)
theorem pad3_length (ys : List UInt8) : (pad3 ys).length = 3 := by
  unfold pad3; rw [List.length_append, List.length_take, List.length_drop, List.length_replicate]; omega
def b64F (xs : List UInt8) : Nat → List UInt8
  | 0 => []
  | g + 1 => b64F xs g ++ b64G (pad3 (xs.drop (3 * g))) (min (xs.drop (3 * g)).length 3) 4
theorem b64F_length (xs : List UInt8) : ∀ g, (b64F xs g).length = 4 * g
  | 0 => rfl
  | g + 1 => by rw [b64F, List.length_append, b64F_length xs g, b64G_length]; omega
def base64F (xs : List UInt8) : List UInt8 := b64F xs ((xs.length + 2) / 3)
theorem pad3_copy (ys : List UInt8) : (v8s (List.replicate 3 0)).take 0 ++ (v8s ys).take (min ys.length 3) ++ (v8s (List.replicate 3 0)).drop (0 + min ys.length 3) = v8s (pad3 ys) := by
  have h : ys.take (min ys.length 3) = ys.take 3 := by rw [← List.take_take, List.take_of_length_le (by rw [List.length_take]; omega)]
  rw [pad3, v8s_append, List.take_zero, List.nil_append, Nat.zero_add]
  simp only [v8s, ← List.map_take, ← List.map_drop, h]
theorem rest3 {r : Rd} {u : Value} {xs : List UInt8} {g : Nat} (h : Seen r u (xs.drop (3 * g)).length 1 (v8s (xs.drop (3 * g)))) :
    Seen r (slv u (min (xs.drop (3 * g)).length 3) (xs.drop (3 * g)).length 1) (xs.drop (3 * (g + 1))).length 1 (v8s (xs.drop (3 * (g + 1)))) := by
  have h2 := h.slv8 (min (xs.drop (3 * g)).length 3) (xs.drop (3 * g)).length zz6 (Nat.le_refl _)
  have e : ((xs.drop (3 * g)).drop (min (xs.drop (3 * g)).length 3)).take ((xs.drop (3 * g)).length - min (xs.drop (3 * g)).length 3) = xs.drop (3 * (g + 1)) := by
    rw [List.take_of_length_le (by rw [List.length_drop]; omega), List.drop_drop]
    by_cases hc : 3 ≤ (xs.drop (3 * g)).length
    · rw [Nat.min_eq_right hc]; rfl
    · rw [List.length_drop] at hc
      rw [List.drop_of_length_le (by rw [List.length_drop]; omega), List.drop_of_length_le zz6]
  have e2 : (xs.drop (3 * g)).length - min (xs.drop (3 * g)).length 3 = (xs.drop (3 * (g + 1))).length := by simp only [List.length_drop]; omega
  rw [e, e2] at h2
  exact h2
theorem word3_lt (xs : List UInt8) : word3 xs < 2 ^ 24 := by
  have h0 := (xs.getD 0 0).toNat_lt
  have h1 := (xs.getD 1 0).toNat_lt
  have h2 := (xs.getD 2 0).toNat_lt
  exact Nat.or_lt_two_pow (Nat.or_lt_two_pow zz6 zz6) zz6
theorem and63_lt (n : Nat) : n &&& 63 < 64 := by
  rw [show n &&& 63 = n % 64 from Nat.and_two_pow_sub_one_eq_mod _ 6]; omega
theorem base64 (bv : Value) (bs : List UInt8) (w : World) (hbv : Seen w.cell? bv bs.length 1 (v8s bs)) (hbl : bs.length ≤ 100000) :
    Calls Tryd.prog 19 [bv].toArray w (Pur w (str (base64F bs))) := by
  have sbv := hbv.sv
  have lbv := sbv.le
  simp only [maxLen] at lbv
  refine enter (m := 47) (R := Mem w [] [] []) Tryd.func19 rfl rfl (Nat.le_of_ble_eq_true rfl) (Mem.start w) ?_
  refine wpc_seq <| wpc_region <| wpl_q (q_pure rfl) rfl <| wpl_nil <| ex_then <| wpc_seq <| wpc_region ?_
  refine wpl_t (t_alloc Tryd.ti61 _ rfl) rfl (fun b3 => ?_)
  refine wpl_nil <| ex_then <| wpc_seq <| wpc_block ?_
  refine wpc_loopc (ι := { x : Nat × Value × Value × Value // (3 * x.1 ≤ bs.length + 2) ∧ (SV x.2.1 (b64F bs x.1).length) ∧ ((x.1 = 0 → x.2.1 = .slice none 0 0)) ∧ ((x.2.2.1 = .pointer none ∨ x.2.2.1 = .pointer (some ⟨b3, 0, none⟩))) ∧ (Seen w.cell? x.2.2.2 (bs.drop (3 * x.1)).length 1 (v8s (bs.drop (3 * x.1)))) }) [(3, _)] (fun x Lc => (0, x.1.2.2.2) :: Lc) (fun x => Mem w [] (bEnts b3 x.1.2.2.1 x.1.2.1 (b64F bs x.1.1)) []) (fun x => bs.length - 3 * x.1.1) ⟨(0, .slice none 0 0, .pointer none, bv), ⟨Nat.zero_le _, SV.nil, fun _ => rfl, .inl rfl, hbv⟩⟩ zz5 ?_ ?_
  · exact fun w h => h.nilRow 5 1
  · rintro ⟨⟨g, v, p, u⟩, ⟨hi0, hi1, hi2, hi3, hi4⟩⟩; try dsimp only
    have hi0 : 3 * g ≤ bs.length + 2 := hi0; have hi1 : SV v (b64F bs g).length := hi1; have hi2 : (g = 0 → v = .slice none 0 0) := hi2; have hi3 : (p = .pointer none ∨ p = .pointer (some ⟨b3, 0, none⟩)) := hi3; have hi4 : Seen w.cell? u (bs.drop (3 * g)).length 1 (v8s (bs.drop (3 * g))) := hi4
    have hfl := b64F_length bs g
    have su := hi4.sv
    have hdl : (bs.drop (3 * g)).length = bs.length - 3 * g := List.length_drop
    refine wpc_seq <| wpc_seq <| wpc_region <| wpl_q (q_pure rfl) rfl ?_
    refine wpl_q (q_lenW Tryd.underlying22 rfl zz2) rfl ?_
    refine wpl_q (q_pure rfl) rfl <| wpl_nil <| ex_then ?_
    refine wpc_cond rfl (fun hc10 => ?_) (fun hc10 => ?_)
    ·
      simp only [decide_eq_true_eq, gt_iff_lt] at hc10
      have hp3 := pad3_length (bs.drop (3 * g))
      have hw3 := word3_lt (pad3 (bs.drop (3 * g)))
      simp only [word3] at hw3
      have hx0 := ((pad3 (bs.drop (3 * g))).getD 0 0).toNat_lt
      have hx1 := ((pad3 (bs.drop (3 * g))).getD 1 0).toNat_lt
      have hx2 := ((pad3 (bs.drop (3 * g))).getD 2 0).toNat_lt
      have hor : ((pad3 (bs.drop (3 * g))).getD 0 0).toNat * 2 ^ 16 ||| ((pad3 (bs.drop (3 * g))).getD 1 0).toNat * 2 ^ 8 < 2 ^ 24 := Nat.or_lt_two_pow zz6 zz6
      refine wpc_skip <| ex_then <| wpc_block <| wpc_seq <| wpc_region ?_
      refine wpl_t (t_alloc Tryd.ti66 (v8s (List.replicate 3 0)) (by rfl)) rfl (fun b4 => ?_)
      refine wpl_nil <| ex_then <| wpc_seq <| wpc_region <| wpl_q (q_arAll Tryd.underlying66 Tryd.ti5 rfl rfl) rfl <| wpl_q (q_pure rfl) rfl ?_
      refine wpl_t (t_copy Tryd.underlying22 Tryd.ti5 rfl rfl (fun w h => h.seen_old hi4) (v8s_one _) (by rw [v8s_length]; exact Nat.le_refl _) (min (bs.drop (3 * g)).length 3) rfl (v8s (pad3 (bs.drop (3 * g)))) (pad3_copy _)) rfl (fun b13 => ?_)
      refine wpl_q (q_pure rfl) rfl <| wpl_nil <| ex_then <| wpc_seq <| wpc_region ?_
      refine wpl_q (q_idxA1 (j := 0) Tryd.underlying66 Tryd.ti5 rfl rfl zz6) rfl ?_
      refine wpl_q (q_ld Tryd.underlying5 rfl rfl zz13) rfl ?_
      refine wpl_q (q8_int Tryd.underlying5 Tryd.underlying3 rfl) rfl ?_
      refine wpl_q (q_shlN (b := 16) rfl rfl zz10 zz0) rfl ?_
      refine wpl_q (q_idxA1 (j := 1) Tryd.underlying66 Tryd.ti5 rfl rfl zz6) rfl ?_
      refine wpl_q (q_ld Tryd.underlying5 rfl rfl zz13) rfl ?_
      refine wpl_q (q8_int Tryd.underlying5 Tryd.underlying3 rfl) rfl ?_
      refine wpl_q (q_shlN (b := 8) rfl rfl zz10 zz0) rfl ?_
      refine wpl_q (q_orN rfl rfl zz0 zz0) rfl ?_
      refine wpl_q (q_idxA1 (j := 2) Tryd.underlying66 Tryd.ti5 rfl rfl zz6) rfl ?_
      refine wpl_q (q_ld Tryd.underlying5 rfl rfl zz13) rfl ?_
      refine wpl_q (q8_int Tryd.underlying5 Tryd.underlying3 rfl) rfl ?_
      refine wpl_q (q_orN rfl rfl zz0 zz0) rfl ?_
      refine wpl_q (q_pure rfl) rfl <| wpl_nil <| ex_then <| wpc_seq <| wpc_seq <| wpc_region <| wpl_q (q_pure rfl) rfl <| wpl_nil <| ex_then <| wpc_block ?_
      refine wpc_loopc (ι := { x : Nat × Value × Value // (x.1 ≤ 4) ∧ (SV x.2.1 (b64F bs g ++ b64G (pad3 (bs.drop (3 * g))) (min (bs.drop (3 * g)).length 3) x.1).length) ∧ ((x.2.2 = .pointer none ∨ x.2.2 = .pointer (some ⟨b3, 0, none⟩))) }) [(0, _), (3, _), (5, _), (6, _)] (fun x Lc => (27, .int .i64 ((x.1.1 : Nat) : Int)) :: Lc) (fun x => Mem w [] (bEnts b3 x.1.2.2 x.1.2.1 (b64F bs g ++ b64G (pad3 (bs.drop (3 * g))) (min (bs.drop (3 * g)).length 3) x.1.1)) []) (fun x => 4 - x.1.1) ⟨(0, v, p), ⟨Nat.zero_le _, by rw [b64G, List.append_nil]; exact hi1, hi3⟩⟩ zz5 ?_ ?_
      · exact fun w h => by
          dsimp only
          rw [b64G, List.append_nil]
          exact h.sub zz4 zz4
      · rintro ⟨⟨k, v2, p2⟩, ⟨hi0, hi1, hi2⟩⟩; try dsimp only
        have hi0 : k ≤ 4 := hi0; have hi1 : SV v2 (b64F bs g ++ b64G (pad3 (bs.drop (3 * g))) (min (bs.drop (3 * g)).length 3) k).length := hi1; have hi2 : (p2 = .pointer none ∨ p2 = .pointer (some ⟨b3, 0, none⟩)) := hi2
        refine wpc_seq <| wpc_region <| wpl_q (q_pure rfl) rfl <| wpl_nil <| ex_then <| wpc_seq ?_
        refine wpc_cond rfl (fun hc28 => ?_) (fun hc28 => ?_)
        ·
          try simp only [decide_eq_true_eq, decide_eq_false_iff_not, Bool.and_eq_true, Bool.or_eq_true, beq_iff_eq, bne_iff_ne, ne_eq, Bool.not_eq_true', Bool.not_eq_false', Decidable.not_not] at hc28
          refine wpc_skip <| ex_then <| wpc_seq <| wpc_block <| wpc_seq <| wpc_region <| wpl_q (q_pure rfl) rfl <| wpl_q (q_pure rfl) rfl <| wpl_nil <| ex_then <| wpc_seq <| wpc_region ?_
          refine wpl_q (q_pure rfl) rfl <| wpl_q (q_pure rfl) rfl <| wpl_q (q_pure rfl) rfl <| wpl_nil <| ex_then ?_
          refine wpc_cond rfl (fun hc32 => ?_) (fun hc32 => ?_)
          ·
            simp only [decide_eq_true_eq, gt_iff_lt] at hc32
            have hbc : b64C (pad3 (bs.drop (3 * g))) (min (bs.drop (3 * g)).length 3) k = 61 := if_pos zz6
            refine wpc_region ?_
            refine wpl_tp (t_callA Tryd.hb32 rfl fun w h h2 => writeByte b3 p2 v2 (b64F bs g ++ b64G (pad3 (bs.drop (3 * g))) (min (bs.drop (3 * g)).length 3) k) (61 : UInt8) w h2 hi1 hi2 (by rw [List.length_append, b64F_length, b64G_length]; omega)) rfl (fun b33 p33 => ?_)
            refine wpl_nil <| ex_block <| ex_then <| wpc_region ?_
            refine wpl_q (q_addN (b := 1) rfl rfl zz0) rfl ?_
            refine wpl_q (q_pure rfl) rfl <| wpl_nil ?_
            refine ex_again ⟨(k + 1, b33, .pointer (some ⟨b3, 0, none⟩)), ⟨zz6, by rw [b64G, ← List.append_assoc, hbc]; first | exact p33 | exact p41, Or.inr rfl⟩⟩ ?_ ?_ ?_
            · exact zz5
            · exact fun w h => by
                dsimp only
                rw [b64G, ← List.append_assoc, hbc]
                exact h.sub zz4 zz4
            · (show 4 - (k + 1) < 4 - k); omega
          ·
            simp only [decide_eq_false_iff_not, gt_iff_lt] at hc32
            have hbc : b64C (pad3 (bs.drop (3 * g))) (min (bs.drop (3 * g)).length 3) k = b64A.getD (word3 (pad3 (bs.drop (3 * g))) / 2 ^ (18 - 6 * k) &&& 63) 0 := if_neg zz6
            have ha6 := and63_lt (word3 (pad3 (bs.drop (3 * g))) / 2 ^ (18 - 6 * k))
            have hwd : word3 (pad3 (bs.drop (3 * g))) / 2 ^ (18 - 6 * k) ≤ word3 (pad3 (bs.drop (3 * g))) := Nat.div_le_self _ _
            simp only [word3] at ha6 hwd
            refine wpc_region <| wpl_q (q_pure rfl) rfl <| wpl_q (q_pure rfl) rfl ?_
            refine wpl_q (q_mulN (a := 6) rfl rfl zz0) rfl ?_
            refine wpl_q (q_subN (a := 18) rfl rfl zz6 zz0) rfl ?_
            refine wpl_q (q_shrN rfl rfl zz10) rfl ?_
            refine wpl_q (q_andN (b := 63) rfl rfl zz0 zz0) rfl ?_
            refine wpl_q (q_strIdx Tryd.underlying9 rfl rfl zz0) rfl ?_
            refine wpl_tp (t_callA Tryd.hb32 rfl fun w h h2 => writeByte b3 p2 v2 (b64F bs g ++ b64G (pad3 (bs.drop (3 * g))) (min (bs.drop (3 * g)).length 3) k) _ w h2 hi1 hi2 (by rw [List.length_append, b64F_length, b64G_length]; omega)) rfl (fun b41 p41 => ?_)
            refine wpl_nil <| ex_block <| ex_then <| wpc_region ?_
            refine wpl_q (q_addN (b := 1) rfl rfl zz0) rfl ?_
            refine wpl_q (q_pure rfl) rfl <| wpl_nil ?_
            refine ex_again ⟨(k + 1, b41, .pointer (some ⟨b3, 0, none⟩)), ⟨zz6, by rw [b64G, ← List.append_assoc, hbc]; first | exact p33 | exact p41, Or.inr rfl⟩⟩ ?_ ?_ ?_
            · exact zz5
            · exact fun w h => by
                dsimp only
                rw [b64G, ← List.append_assoc, hbc]
                exact h.sub zz4 zz4
            · (show 4 - (k + 1) < 4 - k); omega
        ·
          simp only [decide_eq_false_iff_not] at hc28
          obtain rfl : k = 4 := by omega
          refine wpc_exit ?_
          refine ex_then_exit ?_
          refine ex_then_exit ?_
          refine ex_block_hit ?_
          refine ex_then <| wpc_region <| wpl_q (q_pure rfl) rfl <| wpl_q (q_pure rfl) rfl ?_
          refine wpl_q (q_slWl Tryd.underlying22 Tryd.ti5 rfl rfl zz2 zz6) rfl ?_
          refine wpl_q (q_pure rfl) rfl <| wpl_nil <| ex_block ?_
          refine ex_again ⟨(g + 1, v2, p2, slv u (min (bs.drop (3 * g)).length 3) (bs.drop (3 * g)).length 1), ⟨zz6, by rw [b64F]; exact hi1, fun h => absurd h (Nat.succ_ne_zero _), hi2, rest3 hi4⟩⟩ ?_ ?_ ?_
          · exact zz5
          · exact fun w h => by first | exact h | exact h.sub zz4 zz4
          · (show bs.length - 3 * (g + 1) < bs.length - 3 * g); omega
    ·
      simp only [decide_eq_false_iff_not, gt_iff_lt] at hc10
      obtain rfl : g = (bs.length + 2) / 3 := by omega
      have hnil : b64F bs ((bs.length + 2) / 3) = [] → v = .slice none 0 0 := fun h => hi2 (by have h1 := congrArg List.length h; rw [hfl, List.length_nil] at h1; omega)
      refine wpc_exit ?_
      refine ex_then_exit ?_
      refine ex_then_exit ?_
      refine ex_block_hit ?_
      refine ex_then <| wpc_seq <| wpc_region ?_
      refine wpl_tp (t_callA Tryd.hb33 rfl fun w h h2 => string_ b3 p v (b64F bs ((bs.length + 2) / 3)) w h2 hi1 hnil zz6) rfl (fun b46 p46 => ?_)
      refine wpl_q (q_pure rfl) rfl <| wpl_nil <| ex_then <| wpc_ret ?_
      refine ret1 (.inl rfl) rfl rfl ?_
      exact fun w h => ⟨rfl, h.below⟩
end Go.Proofs.YtlapmdiabhlbmaaDoor
namespace Go.Proofs.YtlapmdiabhlbmaaDoor
open Go Go.PL Go.RowKit
theorem mem_getD {l : List UInt8} {i : Nat} (h : i < l.length) : l.getD i 0 ∈ l := by
  rw [List.getD_eq_getElem?_getD, List.getElem?_eq_getElem h]; exact List.getElem_mem h
def B64ok (c : UInt8) : Prop := c.toNat ≠ 61 ∧ ((65 ≤ c.toNat ∧ c.toNat ≤ 90) ∨ (97 ≤ c.toNat ∧ c.toNat ≤ 122) ∨ (48 ≤ c.toNat ∧ c.toNat ≤ 57) ∨ c.toNat = 43 ∨ c.toNat = 47)
instance (c : UInt8) : Decidable (B64ok c) := by unfold B64ok; infer_instance
theorem b64A_ok : ∀ j, j < 64 → B64ok (b64A.getD j 0) := by decide
theorem b64G_get (xs : List UInt8) (n : Nat) : ∀ m k, k < m → (b64G xs n m).getD k 0 = b64C xs n k
  | 0, k, h => absurd h (Nat.not_lt_zero _)
  | m + 1, k, h => by
    rw [b64G, List.getD_eq_getElem?_getD]
    by_cases e : k < m
    · rw [List.getElem?_append_left (by rw [b64G_length]; exact e), ← List.getD_eq_getElem?_getD, b64G_get xs n m k e]
    · obtain rfl : k = m := by omega
      rw [List.getElem?_append_right (by rw [b64G_length]; exact Nat.le_refl _), b64G_length, Nat.sub_self]; rfl
theorem b64F_get (xs : List UInt8) : ∀ g i, i < 4 * g → (b64F xs g).getD i 0 = b64C (pad3 (xs.drop (3 * (i / 4)))) (min (xs.drop (3 * (i / 4))).length 3) (i % 4)
  | 0, i, h => absurd h zz6
  | g + 1, i, h => by
    rw [b64F, List.getD_eq_getElem?_getD]
    by_cases e : i < 4 * g
    · rw [List.getElem?_append_left (by rw [b64F_length]; exact e), ← List.getD_eq_getElem?_getD, b64F_get xs g i e]
    · rw [List.getElem?_append_right (by rw [b64F_length]; omega), b64F_length, ← List.getD_eq_getElem?_getD, b64G_get _ _ 4 _ zz6]
      rw [show i / 4 = g from zz6, show i - 4 * g = i % 4 from zz6]
theorem base64F_length (xs : List UInt8) : (base64F xs).length = (xs.length + 2) / 3 * 4 := by rw [base64F, b64F_length]; omega
theorem base64_char (xs : List UInt8) (i : Nat) (h : i < (base64F xs).length) : (((base64F xs).getD i 0).toNat = 61 ∧ (base64F xs).length - (3 - xs.length % 3) % 3 ≤ i) ∨ (B64ok ((base64F xs).getD i 0) ∧ i < (base64F xs).length - (3 - xs.length % 3) % 3) := by
  rw [base64F_length] at h ⊢
  have e : (base64F xs).getD i 0 = b64C (pad3 (xs.drop (3 * (i / 4)))) (min (xs.drop (3 * (i / 4))).length 3) (i % 4) := b64F_get xs _ i zz6
  have hl : (xs.drop (3 * (i / 4))).length = xs.length - 3 * (i / 4) := List.length_drop
  rw [e, b64C]
  split
  · rename_i hlt
    rw [hl] at hlt
    exact .inl ⟨rfl, zz6⟩
  · rename_i hlt
    rw [hl] at hlt
    exact .inr ⟨b64A_ok _ (and63_lt _), zz6⟩
end Go.Proofs.YtlapmdiabhlbmaaDoor
namespace Go.Proofs.YtlapmdiabhlbmaaDoor
open Go Go.PL
open Go.Shelf
def Tryd.lays162_ren : Go.Shelf.Ren := ⟨fun | 162 => 36 | 232 => 45 | 227 => 46 | 234 => 47 | 236 => 48 | 228 => 55 | 271 => 56 | 151 => 57 | 120 => 61 | 197 => 62 | 152 => 63 | 260 => 65 | 137 => 34 | 119 => 66 | 224 => 67 | 225 => 68 | 217 => 44 | 266 => 54 | n => n, fun | 9 => 9 | 4 => 4 | 3 => 3 | 5 => 5 | 117 => 85 | 116 => 84 | 0 => 0 | 124 => 88 | 21 => 21 | 105 => 97 | 46 => 52 | 119 => 105 | 139 => 108 | 138 => 107 | n => n, fun | 3 => 3 | 4 => 4 | n => n⟩
theorem Tryd.lays162 : Go.Proofs.Lays.n162 Tryd.prog Tryd.lays162_ren := {
  mixed := by kernel_rfl
  f119 := Tryd.func66.trans (congrArg some zz3)
  f120 := Tryd.func61.trans (congrArg some zz3)
  f137 := Tryd.func34.trans (congrArg some zz3)
  f151 := Tryd.func57.trans (congrArg some zz3)
  f152 := Tryd.func63.trans (congrArg some zz3)
  f162 := Tryd.func36.trans (congrArg some zz3)
  f197 := Tryd.func62.trans (congrArg some zz3)
  f217 := Tryd.func44.trans (congrArg some zz3)
  f224 := Tryd.func67.trans (congrArg some zz3)
  f225 := Tryd.func68.trans (congrArg some zz3)
  f227 := Tryd.func46.trans (congrArg some zz3)
  f228 := Tryd.func55.trans (congrArg some zz3)
  f232 := Tryd.func45.trans (congrArg some zz3)
  f234 := Tryd.func47.trans (congrArg some zz3)
  f236 := Tryd.func48.trans (congrArg some zz3)
  f260 := Tryd.func65.trans (congrArg some zz3)
  f266 := Tryd.func54.trans (congrArg some zz3)
  f271 := Tryd.func56.trans (congrArg some zz3)
  t0 := Tryd.underlying0
  a0 := Tryd.isAgg0
  z0 := Tryd.sizeOf0
  v0 := Tryd.zeroValue0
  t3 := Tryd.underlying3
  a3 := Tryd.isAgg3
  z3 := Tryd.sizeOf3
  v3 := Tryd.zeroValue3
  t4 := Tryd.underlying4
  a4 := Tryd.isAgg4
  z4 := Tryd.sizeOf4
  v4 := Tryd.zeroValue4
  t5 := Tryd.underlying5
  a5 := Tryd.isAgg5
  z5 := Tryd.sizeOf5
  v5 := Tryd.zeroValue5
  t9 := Tryd.underlying9
  a9 := Tryd.isAgg9
  z9 := Tryd.sizeOf9
  v9 := Tryd.zeroValue9
  t21 := Tryd.underlying21
  a21 := Tryd.isAgg21
  z21 := Tryd.sizeOf21
  v21 := Tryd.zeroValue21
  t46 := Tryd.underlying52
  a46 := Tryd.isAgg52
  z46 := Tryd.sizeOf52
  v46 := Tryd.zeroValue52
  t105 := Tryd.underlying97
  a105 := Tryd.isAgg97
  z105 := Tryd.sizeOf97
  v105 := Tryd.zeroValue97
  t116 := Tryd.underlying84
  a116 := Tryd.isAgg84
  z116 := Tryd.sizeOf84
  t117 := Tryd.underlying85
  a117 := Tryd.isAgg85
  z117 := Tryd.sizeOf85
  v117 := Tryd.zeroValue85
  t119 := Tryd.underlying105
  a119 := Tryd.isAgg105
  z119 := Tryd.sizeOf105
  t124 := Tryd.underlying88
  a124 := Tryd.isAgg88
  z124 := Tryd.sizeOf88
  v124 := Tryd.zeroValue88
  t138 := Tryd.underlying107
  a138 := Tryd.isAgg107
  z138 := Tryd.sizeOf107
  v138 := Tryd.zeroValue107
  t139 := Tryd.underlying108
  a139 := Tryd.isAgg108
  z139 := Tryd.sizeOf108
  v139 := Tryd.zeroValue108
  g3 := by kernel_rfl
  g4 := by kernel_rfl }
open Go.RowKit in
theorem Tryd.strings_TrimRight_one (s : ByteArray) (c : UInt8) (hc : c.toNat < 128) (w : World) (hs : s.size ≤ 9223372036854775807) :
    Calls Tryd.prog 36 #[.string s, .string ⟨#[c]⟩] w fun e w' => e = .returned (.string ⟨(Lib.trimRightB s.data.toList c).toArray⟩) ∧ w' = w := Any.strings_TrimRight_one Tryd.lays162 s c hc w hs
def Tryd.lays137_ren : Go.Shelf.Ren := ⟨fun | 137 => 34 | 217 => 44 | 266 => 54 | n => n, fun | 9 => 9 | 5 => 5 | 3 => 3 | n => n, fun | n => n⟩
theorem Tryd.lays137 : Go.Proofs.Lays.n137 Tryd.prog Tryd.lays137_ren := {
  mixed := by kernel_rfl
  f137 := Tryd.func34.trans (congrArg some zz3)
  f217 := Tryd.func44.trans (congrArg some zz3)
  f266 := Tryd.func54.trans (congrArg some zz3)
  t3 := Tryd.underlying3
  a3 := Tryd.isAgg3
  z3 := Tryd.sizeOf3
  v3 := Tryd.zeroValue3
  t5 := Tryd.underlying5
  a5 := Tryd.isAgg5
  z5 := Tryd.sizeOf5
  v5 := Tryd.zeroValue5
  t9 := Tryd.underlying9
  a9 := Tryd.isAgg9
  z9 := Tryd.sizeOf9
  v9 := Tryd.zeroValue9 }
open Go.RowKit in
theorem Tryd.strings_IndexByte (s : ByteArray) (c : Int) (w : World) :
    Calls Tryd.prog 34 #[.string s, .int .u8 c] w fun e w' => e = .returned (.int .i64 (Lib.indexByte s.data.toList c.toNat.toUInt8)) ∧ w' = w := Any.strings_IndexByte Tryd.lays137 s c w
def Tryd.laysM179_ren : Go.Shelf.Ren := ⟨fun | 179 => 37 | 251 => 49 | 252 => 50 | 181 => 58 | 184 => 59 | 290 => 60 | 324 => 64 | n => n, fun | 130 => 89 | 5 => 5 | 75 => 63 | 0 => 0 | 93 => 71 | 91 => 69 | 3 => 3 | 131 => 90 | 4 => 4 | 37 => 22 | 20 => 20 | 80 => 65 | 9 => 9 | n => n, fun | 14 => 1 | n => n⟩
theorem Tryd.laysM179 : Go.Proofs.LaysM.n179 Tryd.prog Tryd.laysM179_ren := {
  mixed := by kernel_rfl
  f179 := Tryd.func37.trans (congrArg some zz3)
  f181 := Tryd.func58.trans (congrArg some zz3)
  f184 := Tryd.func59.trans (congrArg some zz3)
  f251 := Tryd.func49.trans (congrArg some zz3)
  f252 := Tryd.func50.trans (congrArg some zz3)
  f290 := Tryd.func60.trans (congrArg some zz3)
  f324 := Tryd.func64.trans (congrArg some zz3)
  t0 := Tryd.underlying0
  a0 := Tryd.isAgg0
  z0 := Tryd.sizeOf0
  v0 := Tryd.zeroValue0
  t3 := Tryd.underlying3
  a3 := Tryd.isAgg3
  z3 := Tryd.sizeOf3
  v3 := Tryd.zeroValue3
  t4 := Tryd.underlying4
  a4 := Tryd.isAgg4
  z4 := Tryd.sizeOf4
  v4 := Tryd.zeroValue4
  t5 := Tryd.underlying5
  a5 := Tryd.isAgg5
  z5 := Tryd.sizeOf5
  v5 := Tryd.zeroValue5
  t20 := Tryd.underlying20
  a20 := Tryd.isAgg20
  z20 := Tryd.sizeOf20
  v20 := Tryd.zeroValue20
  t37 := Tryd.underlying22
  a37 := Tryd.isAgg22
  z37 := Tryd.sizeOf22
  v37 := Tryd.zeroValue22
  t75 := Tryd.underlying63
  a75 := Tryd.isAgg63
  z75 := Tryd.sizeOf63
  v75 := Tryd.zeroValue63
  t91 := Tryd.underlying69
  a91 := Tryd.isAgg69
  z91 := Tryd.sizeOf69
  v91 := Tryd.zeroValue69
  t93 := Tryd.underlying71
  a93 := Tryd.isAgg71
  z93 := Tryd.sizeOf71
  v93 := Tryd.zeroValue71
  t130 := Tryd.underlying89
  a130 := Tryd.isAgg89
  z130 := Tryd.sizeOf89
  v130 := Tryd.zeroValue89
  t131 := Tryd.underlying90
  a131 := Tryd.isAgg90
  z131 := Tryd.sizeOf90
  v131 := Tryd.zeroValue90
  g14 := by kernel_rfl
  t9 := Tryd.underlying9
  a9 := Tryd.isAgg9
  z9 := Tryd.sizeOf9
  v9 := Tryd.zeroValue9
  t80 := Tryd.underlying65
  a80 := Tryd.isAgg65
  z80 := Tryd.sizeOf65
  v80 := Tryd.zeroValue65
  i0 := by kernel_rfl
  i3 := by kernel_rfl
  i4 := by kernel_rfl
  i5 := by kernel_rfl
  i9 := by kernel_rfl
  i20 := by kernel_rfl
  i37 := by kernel_rfl
  i75 := by kernel_rfl
  i80 := by kernel_rfl
  i91 := by kernel_rfl
  i93 := by kernel_rfl
  i130 := by kernel_rfl
  i131 := by kernel_rfl
  m14 := by kernel_rfl }
open Go.RowKit in
theorem Tryd.Buffer_WriteByte (B b : Nat) (bs : List Value) (c : Int) (w : World) (h : Lib.IsBuffer 71 5 B b bs w) (hBw : B ≤ w.heap.size) (h1 : ∀ v ∈ bs, v.oneCell' = true) (hlim : bs.length + 1 ≤ 140737488355328) :
    Calls Tryd.prog 37 #[.pointer (some ⟨b, 0, none⟩), .int .u8 c] w fun e w' => e = .returned .nilIface ∧ Lib.IsBuffer 71 5 B b (bs ++ [.int .u8 c]) w' ∧ Below B w w' := Any.Buffer_WriteByte Tryd.laysM179 B b bs c w h hBw h1 hlim
def Tryd.laysM183_ren : Go.Shelf.Ren := ⟨fun | 183 => 38 | n => n, fun | 130 => 89 | 37 => 22 | 0 => 0 | 93 => 71 | 3 => 3 | 5 => 5 | 91 => 69 | n => n, fun | n => n⟩
theorem Tryd.laysM183 : Go.Proofs.LaysM.n183 Tryd.prog Tryd.laysM183_ren := {
  mixed := by kernel_rfl
  f183 := Tryd.func38.trans (congrArg some zz3)
  t0 := Tryd.underlying0
  a0 := Tryd.isAgg0
  z0 := Tryd.sizeOf0
  v0 := Tryd.zeroValue0
  t3 := Tryd.underlying3
  a3 := Tryd.isAgg3
  z3 := Tryd.sizeOf3
  v3 := Tryd.zeroValue3
  t37 := Tryd.underlying22
  a37 := Tryd.isAgg22
  z37 := Tryd.sizeOf22
  v37 := Tryd.zeroValue22
  t93 := Tryd.underlying71
  a93 := Tryd.isAgg71
  z93 := Tryd.sizeOf71
  v93 := Tryd.zeroValue71
  t130 := Tryd.underlying89
  a130 := Tryd.isAgg89
  z130 := Tryd.sizeOf89
  v130 := Tryd.zeroValue89
  t5 := Tryd.underlying5
  a5 := Tryd.isAgg5
  z5 := Tryd.sizeOf5
  v5 := Tryd.zeroValue5
  t91 := Tryd.underlying69
  a91 := Tryd.isAgg69
  z91 := Tryd.sizeOf69
  v91 := Tryd.zeroValue69
  i0 := by kernel_rfl
  i3 := by kernel_rfl
  i5 := by kernel_rfl
  i37 := by kernel_rfl
  i91 := by kernel_rfl
  i93 := by kernel_rfl
  i130 := by kernel_rfl }
open Go.RowKit in
theorem Tryd.Buffer_Bytes (B b : Nat) (bs : List Value) (w : World) (h : Lib.IsBuffer 71 5 B b bs w) :
    Calls Tryd.prog 38 #[.pointer (some ⟨b, 0, none⟩)] w fun e w' => ∃ v, e = .returned v ∧ w'.ownsRow B 5 1 v bs.length bs ∧ ∃ n, w' = w.drewN n := Any.Buffer_Bytes Tryd.laysM183 B b bs w h
end Go.Proofs.YtlapmdiabhlbmaaDoor
namespace Go.Proofs.YtlapmdiabhlbmaaDoor
open Go Go.PL Go.RowKit
def plB (l : List UInt8) (c : UInt8) : Int := if c ∈ l then ((l.idxOf c : Nat) : Int) else -1
theorem indexByte_plB (l : List UInt8) (c : UInt8) : Go.Lib.indexByte l c = plB l c := by
  induction l with
  | nil => rfl
  | cons b l ih =>
    unfold Go.Lib.indexByte
    rw [ih]
    by_cases hb : b = c
    · subst hb
      simp [plB]
    · have hb2 : (b == c) = false := by simpa using hb
      have hc : c ∈ b :: l ↔ c ∈ l := by simp [List.mem_cons, Ne.symm hb]
      unfold plB
      rw [hb2, List.idxOf_cons, hb2]
      by_cases hm : c ∈ l
      · rw [if_pos hm, if_pos (hc.2 hm)]
        simp
      · rw [if_neg hm, if_neg (fun h => hm (hc.1 h))]; rfl
theorem plB_in {l : List UInt8} {c : UInt8} (h : c ∈ l) : plB l c = ((l.idxOf c : Nat) : Int) := if_pos h
theorem plB_no {l : List UInt8} {c : UInt8} (h : c ∉ l) : plB l c = -1 := if_neg h
theorem plB_neg {l : List UInt8} {c : UInt8} : plB l c < 0 ↔ c ∉ l := by
  unfold plB; split
  · rename_i h; simp [h]
  · rename_i h; simp [h]
theorem getD_idx {l : List UInt8} {c : UInt8} (h : c ∈ l) : l.idxOf c < l.length ∧ l.getD (l.idxOf c) 0 = c := by
  have h1 := List.idxOf_lt_length_iff.2 h
  refine ⟨h1, ?_⟩
  rw [List.getD_eq_getElem?_getD, List.getElem?_eq_getElem h1]
  exact List.getElem_idxOf h1
def hexV (a b : UInt8) : UInt8 := UInt8.ofNat (16 * hexD.idxOf a + hexD.idxOf b)
def hxOk (xs : List UInt8) : Prop := xs.length % 2 = 0 ∧ ∀ c ∈ xs, c ∈ hexD
instance (xs : List UInt8) : Decidable (hxOk xs) := by unfold hxOk; exact inferInstance
def hxO (xs : List UInt8) : Nat → List UInt8
  | 0 => []
  | k + 1 => hxO xs k ++ [hexV (xs.getD (2 * k) 0) (xs.getD (2 * k + 1) 0)]
theorem hxO_len (xs : List UInt8) : ∀ k, (hxO xs k).length = k
  | 0 => rfl
  | k + 1 => by rw [hxO, List.length_append, hxO_len xs k]; rfl
def fhV (xs : List UInt8) : List UInt8 := if hxOk xs then hxO xs (xs.length / 2) else []
def fhE (xs : List UInt8) : Int := if hxOk xs then 0 else 12
theorem sr8_eq (x : UInt8) : (sr8 x 4).toNat = x.toNat / 16 := by
  have := x.toNat_lt
  simp only [sr8, UInt8.toNat_ofNat']
  have : min 4 8 = 4 := rfl
  rw [this]; omega
theorem and8_eq (x : UInt8) : (x &&& 15).toNat = x.toNat % 16 := by
  rw [UInt8.toNat_and]; exact Nat.and_two_pow_sub_one_eq_mod _ 4
theorem gd_l {u v : List UInt8} {i : Nat} (h : i < u.length) : (u ++ v).getD i 0 = u.getD i 0 := by
  rw [List.getD_eq_getElem?_getD, List.getElem?_append_left h, ← List.getD_eq_getElem?_getD]
theorem gd_r {u v : List UInt8} {i : Nat} (h : u.length ≤ i) : (u ++ v).getD i 0 = v.getD (i - u.length) 0 := by
  rw [List.getD_eq_getElem?_getD, List.getElem?_append_right h, ← List.getD_eq_getElem?_getD]
theorem take_snoc (xs : List UInt8) {i : Nat} (h : i < xs.length) : xs.take (i + 1) = xs.take i ++ [xs.getD i 0] := by
  rw [List.take_add_one, List.getD_eq_getElem?_getD, List.getElem?_eq_getElem h]; simp
theorem mem_hexD {c : UInt8} (h : c ∈ hexD) : hexD.idxOf c < 16 ∧ hexD.getD (hexD.idxOf c) 0 = c := getD_idx h
theorem hexV_nat {a b : UInt8} (ha : a ∈ hexD) (hb : b ∈ hexD) : (hexV a b).toNat = 16 * hexD.idxOf a + hexD.idxOf b := by
  have h1 := (mem_hexD ha).1
  have h2 := (mem_hexD hb).1
  unfold hexV
  rw [UInt8.toNat_ofNat']; omega
theorem word3_eq (xs : List UInt8) : word3 xs = (xs.getD 0 0).toNat * 65536 + (xs.getD 1 0).toNat * 256 + (xs.getD 2 0).toNat := by
  have h0 := (xs.getD 0 0).toNat_lt
  have h1 := (xs.getD 1 0).toNat_lt
  have h2 := (xs.getD 2 0).toNat_lt
  have e1 := Nat.two_pow_add_eq_or_of_lt (b := (xs.getD 1 0).toNat * 2 ^ 8) (i := 16) zz6 (xs.getD 0 0).toNat
  have e2 := Nat.two_pow_add_eq_or_of_lt (b := (xs.getD 2 0).toNat) (i := 8) zz6 ((xs.getD 0 0).toNat * 256 + (xs.getD 1 0).toNat)
  unfold word3
  rw [Nat.mul_comm _ (2 ^ 16), ← e1, show 2 ^ 16 * (xs.getD 0 0).toNat + (xs.getD 1 0).toNat * 2 ^ 8 = 2 ^ 8 * ((xs.getD 0 0).toNat * 256 + (xs.getD 1 0).toNat) from zz6, ← e2]
theorem pad3_get (ys : List UInt8) {j : Nat} (h : j < 3) : (pad3 ys).getD j 0 = ys.getD j 0 := by
  unfold pad3
  by_cases hj : j < ys.length
  · rw [gd_l (by rw [List.length_take]; omega), List.getD_eq_getElem?_getD, List.getElem?_take, if_pos h, ← List.getD_eq_getElem?_getD]
  · rw [gd_r (by rw [List.length_take]; omega), List.getD_eq_getElem?_getD, List.getD_eq_getElem?_getD, List.getElem?_eq_none (by omega : ys.length ≤ j)]
    rw [List.getElem?_drop, List.getElem?_replicate]
    split <;> rfl
theorem drop_get (b : List UInt8) (k j : Nat) : (b.drop k).getD j 0 = b.getD (k + j) 0 := by
  rw [List.getD_eq_getElem?_getD, List.getElem?_drop, ← List.getD_eq_getElem?_getD]
def wd (b : List UInt8) (g : Nat) : Nat := (b.getD (3 * g) 0).toNat * 65536 + (b.getD (3 * g + 1) 0).toNat * 256 + (b.getD (3 * g + 2) 0).toNat
theorem wd_lt (b : List UInt8) (g : Nat) : wd b g < 16777216 := by
  have h0 := (b.getD (3 * g) 0).toNat_lt
  have h1 := (b.getD (3 * g + 1) 0).toNat_lt
  have h2 := (b.getD (3 * g + 2) 0).toNat_lt
  unfold wd; omega
theorem word_wd (b : List UInt8) (g : Nat) : word3 (pad3 (b.drop (3 * g))) = wd b g := by
  rw [word3_eq, pad3_get _ zz6, pad3_get _ zz6, pad3_get _ zz6, drop_get, drop_get, drop_get]; rfl
theorem and63 (n : Nat) : n &&& 63 = n % 64 := Nat.and_two_pow_sub_one_eq_mod _ 6
theorem b64A_idx : ∀ j, j < 64 → b64A.getD j 0 ∈ b64A ∧ b64A.idxOf (b64A.getD j 0) = j ∧ b64A.getD j 0 ≠ 61 := by decide
theorem b64A_mem {c : UInt8} (h : c ∈ b64A) : b64A.idxOf c < 64 ∧ b64A.getD (b64A.idxOf c) 0 = c := getD_idx h
def sx (b : List UInt8) (i : Nat) : Nat := wd b (i / 4) / 2 ^ (18 - 6 * (i % 4)) % 64
theorem sx_lt (b : List UInt8) (i : Nat) : sx b i < 64 := Nat.mod_lt _ zz15
theorem chr_ok (b : List UInt8) {i : Nat} (h : i < (base64F b).length) (hl : i < (base64F b).length - (3 - b.length % 3) % 3) : (base64F b).getD i 0 = b64A.getD (sx b i) 0 := by
  rcases base64_char b i h with ⟨_, h2⟩ | ⟨h1, _⟩
  · omega
  · rw [base64F_length] at h
    have e : (base64F b).getD i 0 = b64C (pad3 (b.drop (3 * (i / 4)))) (min (b.drop (3 * (i / 4))).length 3) (i % 4) := b64F_get b _ i zz6
    rw [e] at h1 ⊢
    unfold b64C at h1 ⊢
    split at h1
    · exact absurd rfl h1.1
    · rename_i h3
      rw [if_neg h3, and63, word_wd]; rfl
theorem chr_pad (b : List UInt8) {i : Nat} (h : i < (base64F b).length) (hl : (base64F b).length - (3 - b.length % 3) % 3 ≤ i) : (base64F b).getD i 0 = 61 := by
  rcases base64_char b i h with ⟨h1, _⟩ | ⟨_, h2⟩
  · exact UInt8.toNat_inj.1 h1
  · omega
def xv (p : List UInt8) : Nat → Nat
  | 0 => 0
  | i + 1 => (xv p i * 64) % 16777216 + b64A.idxOf (p.getD i 0)
def outB (p : List UInt8) : Nat → List UInt8
  | 0 => []
  | i + 1 => if 0 < i % 4 then outB p i ++ [UInt8.ofNat (xv p (i + 1) / 2 ^ (6 * (i % 4 + 1) % 8))] else outB p i
def plainS (s : List UInt8) : List UInt8 := Go.Lib.trimRightB s 61
def fbOk (s : List UInt8) : Prop := s.length % 4 = 0 ∧ (∀ c ∈ plainS s, c ∈ b64A) ∧ base64F (outB (plainS s) (plainS s).length) = s
instance (s : List UInt8) : Decidable (fbOk s) := by unfold fbOk; exact inferInstance
def fbV (s : List UInt8) : List UInt8 := if fbOk s then outB (plainS s) (plainS s).length else []
def fbE (s : List UInt8) : Int := if fbOk s then 0 else 12
section
variable {b p : List UInt8} {L : Nat} (hL : L ≤ p.length) (hc : ∀ i, i < L → b64A.idxOf (p.getD i 0) = sx b i)
include hc
theorem xv_1 {g : Nat} (h : 4 * g + 1 ≤ L) : xv p (4 * g + 1) % 64 = wd b g / 262144 := by
  have hw := wd_lt b g
  have h1 := hc (4 * g) zz6
  unfold sx at h1
  rw [show 4 * g / 4 = g from zz6, show 4 * g % 4 = 0 from zz6] at h1
  have h2 : (2 : Nat) ^ (18 - 6 * 0) = 262144 := rfl
  rw [h2] at h1
  rw [xv, h1]; omega
theorem xv_2 {g : Nat} (h : 4 * g + 2 ≤ L) : xv p (4 * g + 2) % 4096 = wd b g / 4096 := by
  have hw := wd_lt b g
  have h0 := xv_1 hc (g := g) zz6
  have h1 := hc (4 * g + 1) zz6
  unfold sx at h1
  rw [show (4 * g + 1) / 4 = g from zz6, show (4 * g + 1) % 4 = 1 from zz6] at h1
  have h2 : (2 : Nat) ^ (18 - 6 * 1) = 4096 := rfl
  rw [h2] at h1
  rw [xv, h1]; omega
theorem xv_3 {g : Nat} (h : 4 * g + 3 ≤ L) : xv p (4 * g + 3) % 262144 = wd b g / 64 := by
  have hw := wd_lt b g
  have h0 := xv_2 hc (g := g) zz6
  have h1 := hc (4 * g + 2) zz6
  unfold sx at h1
  rw [show (4 * g + 2) / 4 = g from zz6, show (4 * g + 2) % 4 = 2 from zz6] at h1
  have h2 : (2 : Nat) ^ (18 - 6 * 2) = 64 := rfl
  rw [h2] at h1
  rw [xv, h1]; omega
theorem xv_4 {g : Nat} (h : 4 * g + 4 ≤ L) : xv p (4 * g + 4) % 16777216 = wd b g := by
  have hw := wd_lt b g
  have h0 := xv_3 hc (g := g) zz6
  have h1 := hc (4 * g + 3) zz6
  unfold sx at h1
  rw [show (4 * g + 3) / 4 = g from zz6, show (4 * g + 3) % 4 = 3 from zz6] at h1
  have h2 : (2 : Nat) ^ (18 - 6 * 3) = 1 := rfl
  rw [h2] at h1
  rw [xv, h1]; omega
omit hc in
theorem byte_eq {n : Nat} {c : UInt8} (h : n % 256 = c.toNat) : UInt8.ofNat n = c := UInt8.toNat_inj.1 (by rw [UInt8.toNat_ofNat']; exact h)
theorem out_2 {g : Nat} (h : 4 * g + 2 ≤ L) (hb : 3 * g + 1 ≤ b.length) (ih : outB p (4 * g) = b.take (3 * g)) : outB p (4 * g + 2) = b.take (3 * g + 1) := by
  have h0 := (b.getD (3 * g) 0).toNat_lt
  have h1 := (b.getD (3 * g + 1) 0).toNat_lt
  have h2 := (b.getD (3 * g + 2) 0).toNat_lt
  have hx := xv_2 hc (g := g) h
  unfold wd at hx
  rw [outB, if_pos zz6, outB, if_neg zz6, ih, take_snoc b zz6]
  congr 2
  rw [show (4 * g + 1) % 4 = 1 from zz6]
  exact byte_eq (by show xv p (4 * g + 2) / 2 ^ 4 % 256 = _; omega)
theorem out_3 {g : Nat} (h : 4 * g + 3 ≤ L) (hb : 3 * g + 2 ≤ b.length) (ih : outB p (4 * g) = b.take (3 * g)) : outB p (4 * g + 3) = b.take (3 * g + 2) := by
  have h0 := (b.getD (3 * g) 0).toNat_lt
  have h1 := (b.getD (3 * g + 1) 0).toNat_lt
  have h2 := (b.getD (3 * g + 2) 0).toNat_lt
  have hx := xv_3 hc (g := g) h
  unfold wd at hx
  rw [outB, if_pos zz6, out_2 hc zz6 zz6 ih, take_snoc b (i := 3 * g + 1) zz6]
  congr 2
  rw [show (4 * g + 2) % 4 = 2 from zz6]
  exact byte_eq (by show xv p (4 * g + 3) / 2 ^ 2 % 256 = _; omega)
theorem out_4 {g : Nat} (h : 4 * g + 4 ≤ L) (hb : 3 * g + 3 ≤ b.length) (ih : outB p (4 * g) = b.take (3 * g)) : outB p (4 * g + 4) = b.take (3 * g + 3) := by
  have h0 := (b.getD (3 * g) 0).toNat_lt
  have h1 := (b.getD (3 * g + 1) 0).toNat_lt
  have h2 := (b.getD (3 * g + 2) 0).toNat_lt
  have hx := xv_4 hc (g := g) h
  unfold wd at hx
  rw [outB, if_pos zz6, out_3 hc zz6 zz6 ih, take_snoc b (i := 3 * g + 2) zz6]
  congr 2
  rw [show (4 * g + 3) % 4 = 3 from zz6]
  exact byte_eq (by show xv p (4 * g + 4) / 2 ^ 0 % 256 = _; omega)
theorem out_g : ∀ g, 4 * g ≤ L → 3 * g ≤ b.length → outB p (4 * g) = b.take (3 * g)
  | 0, _, _ => rfl
  | g + 1, h1, h2 => out_4 hc zz6 zz6 (out_g g zz6 zz6)
end
theorem fb_back (b : List UInt8) : fbOk (base64F b) ∧ fbV (base64F b) = b := by
  have hl := base64F_length b
  have hp : plainS (base64F b) = (base64F b).take ((base64F b).length - (3 - b.length % 3) % 3) := by
    refine Go.Lib.trimRightB_take _ _ _ zz6 (fun j c hj hc => ?_) (fun c h0 hc => ?_)
    · have h := (List.getElem?_eq_some_iff.1 hc).1
      have := chr_pad b h hj
      rw [List.getD_eq_getElem?_getD, hc] at this
      exact this
    · have h := (List.getElem?_eq_some_iff.1 hc).1
      have e := chr_ok b h zz6
      rw [List.getD_eq_getElem?_getD, hc] at e
      have e : c = b64A.getD (sx b _) 0 := e
      rw [e]
      exact (b64A_idx _ (sx_lt b _)).2.2
  have hpl : (plainS (base64F b)).length = (base64F b).length - (3 - b.length % 3) % 3 := by rw [hp, List.length_take]; omega
  have hg : ∀ i, i < (plainS (base64F b)).length → (plainS (base64F b)).getD i 0 = b64A.getD (sx b i) 0 := by
    intro i hi
    rw [hp, List.getD_eq_getElem?_getD, List.getElem?_take, if_pos zz6, ← List.getD_eq_getElem?_getD]
    exact chr_ok b zz6 zz6
  have hc : ∀ i, i < (plainS (base64F b)).length → b64A.idxOf ((plainS (base64F b)).getD i 0) = sx b i := fun i hi => by
    rw [hg i hi]; exact (b64A_idx _ (sx_lt b i)).2.1
  have ho : outB (plainS (base64F b)) (plainS (base64F b)).length = b := by
    have h3 := out_g hc (b.length / 3) zz6 zz6
    rcases (show b.length % 3 = 0 ∨ b.length % 3 = 1 ∨ b.length % 3 = 2 from zz6) with hr | hr | hr
    · rw [show (plainS (base64F b)).length = 4 * (b.length / 3) from zz6, h3, show 3 * (b.length / 3) = b.length from zz6, List.take_length]
    · have q := out_2 hc (g := b.length / 3) zz6 zz6 h3
      rw [show (plainS (base64F b)).length = 4 * (b.length / 3) + 2 from zz6, q, show 3 * (b.length / 3) + 1 = b.length from zz6, List.take_length]
    · have q := out_3 hc (g := b.length / 3) zz6 zz6 h3
      rw [show (plainS (base64F b)).length = 4 * (b.length / 3) + 3 from zz6, q, show 3 * (b.length / 3) + 2 = b.length from zz6, List.take_length]
  have hk : fbOk (base64F b) := by
    refine ⟨zz6, fun c hm => ?_, by rw [ho]⟩
    obtain ⟨i, hi, rfl⟩ := List.mem_iff_getElem.1 hm
    have e := hg i hi
    rw [List.getD_eq_getElem?_getD, List.getElem?_eq_getElem hi] at e
    have e : (plainS (base64F b))[i] = b64A.getD (sx b i) 0 := e
    rw [e]
    exact (b64A_idx _ (sx_lt b i)).1
  exact ⟨hk, by rw [fbV, if_pos hk, ho]⟩
theorem fb_fwd {s : List UInt8} (h : fbOk s) : base64F (fbV s) = s := by rw [fbV, if_pos h]; exact h.2.2
theorem fb_some {s b : List UInt8} (h : base64F b = s) : fbOk s ∧ fbV s = b := by subst h; exact fb_back b
def grN (s : List UInt8) (i : Nat) : Nat → Option (Nat × Nat)
  | 0 => some (0, 0)
  | j + 1 => match grN s i j with
    | none => none
    | some (n, p) => if s.getD (i + j) 0 = 61 ∧ 1 < j ∧ i + 4 = s.length then some (n * 64, p + 1) else if 0 < p ∨ s.getD (i + j) 0 ∉ b64A then none else some (n * 64 + b64A.idxOf (s.getD (i + j) 0), p)
def thr (n : Nat) : List UInt8 := [UInt8.ofNat (n / 65536), UInt8.ofNat (n / 256), UInt8.ofNat n]
def thrOk (n p : Nat) : Prop := ∀ j, j < 3 → 3 - p ≤ j → (thr n).getD j 0 = 0
instance (n p : Nat) : Decidable (thrOk n p) := by unfold thrOk; exact inferInstance
def grB (s : List UInt8) (i : Nat) : Option (List UInt8) := match grN s i 4 with
  | none => none
  | some (n, p) => if thrOk n p then some ((thr n).take (3 - p)) else none
def fbR (s : List UInt8) : Nat → Option (List UInt8)
  | 0 => some []
  | g + 1 => match fbR s g with
    | none => none
    | some b => match grB s (4 * g) with
      | none => none
      | some x => some (b ++ x)
theorem grN_S {s : List UInt8} {i j n p : Nat} (h : grN s i j = some (n, p)) : grN s i (j + 1) = if s.getD (i + j) 0 = 61 ∧ 1 < j ∧ i + 4 = s.length then some (n * 64, p + 1) else if 0 < p ∨ s.getD (i + j) 0 ∉ b64A then none else some (n * 64 + b64A.idxOf (s.getD (i + j) 0), p) := by
  rw [grN, h]
theorem grN_no {s : List UInt8} {i j : Nat} (h : grN s i j = none) : ∀ k, j ≤ k → grN s i k = none := by
  intro k hk
  obtain ⟨d, rfl⟩ : ∃ d, k = j + d := ⟨k - j, zz6⟩
  induction d with
  | zero => exact h
  | succ d ih => rw [← Nat.add_assoc, grN, ih zz6]
theorem fbR_no {s : List UInt8} {g : Nat} (h : fbR s g = none) : ∀ k, g ≤ k → fbR s k = none := by
  intro k hk
  obtain ⟨d, rfl⟩ : ∃ d, k = g + d := ⟨k - g, zz6⟩
  induction d with
  | zero => exact h
  | succ d ih => rw [← Nat.add_assoc, fbR, ih zz6]
theorem fbR_S {s b : List UInt8} {g : Nat} (h : fbR s g = some b) : fbR s (g + 1) = match grB s (4 * g) with
      | none => none
      | some x => some (b ++ x) := by rw [fbR, h]
theorem grB_no {s : List UInt8} {i : Nat} (h : grN s i 4 = none) : grB s i = none := by unfold grB; rw [h]
theorem grB_bad {s : List UInt8} {i n p : Nat} (h : grN s i 4 = some (n, p)) (k : ¬ thrOk n p) : grB s i = none := by unfold grB; rw [h]; exact if_neg k
theorem grB_ok {s : List UInt8} {i n p : Nat} (h : grN s i 4 = some (n, p)) (k : thrOk n p) : grB s i = some ((thr n).take (3 - p)) := by unfold grB; rw [h]; exact if_pos k
theorem grN_lt {s : List UInt8} {i : Nat} : ∀ {j n p : Nat}, grN s i j = some (n, p) → n < 64 ^ j ∧ p ≤ j - 2
  | 0, n, p, h => by
    injection h with h; injection h with h1 h2
    subst h1 h2; exact ⟨zz15, zz6⟩
  | j + 1, n, p, h => by
    rw [grN] at h
    split at h
    · cases h
    · rename_i n0 p0 e
      have q := grN_lt e
      have e64 : 64 ^ (j + 1) = 64 ^ j * 64 := Nat.pow_succ ..
      split at h
      · rename_i hc
        injection h with h; injection h with h1 h2
        subst h1 h2
        exact ⟨zz6, zz6⟩
      · split at h
        · cases h
        · rename_i hn
          injection h with h; injection h with h1 h2
          subst h1 h2
          have := (b64A_mem (Decidable.byContradiction fun e => hn (.inr e))).1
          exact ⟨zz6, zz6⟩
theorem b64F_app {xs ys : List UInt8} : ∀ {g : Nat}, 3 * g ≤ xs.length → b64F (xs ++ ys) g = b64F xs g
  | 0, _ => rfl
  | g + 1, h => by
    have e1 : (xs ++ ys).drop (3 * g) = xs.drop (3 * g) ++ ys := by rw [List.drop_append_of_le_length zz6]
    have e2 : (xs.drop (3 * g)).length = xs.length - 3 * g := List.length_drop
    show b64F (xs ++ ys) g ++ b64G (pad3 ((xs ++ ys).drop (3 * g))) (min ((xs ++ ys).drop (3 * g)).length 3) 4 = b64F xs g ++ b64G (pad3 (xs.drop (3 * g))) (min (xs.drop (3 * g)).length 3) 4
    have e3 : pad3 (xs.drop (3 * g) ++ ys) = pad3 (xs.drop (3 * g)) := by
      unfold pad3
      rw [List.take_append_of_le_length zz6, List.length_append, show min ((xs.drop (3 * g)).length + ys.length) 3 = min (xs.drop (3 * g)).length 3 from zz6]
    rw [b64F_app zz6, e1, e3, List.length_append, show min ((xs.drop (3 * g)).length + ys.length) 3 = min (xs.drop (3 * g)).length 3 from zz6]
theorem b64G_4 (ys : List UInt8) (m : Nat) : b64G ys m 4 = [b64C ys m 0, b64C ys m 1, b64C ys m 2, b64C ys m 3] := rfl
theorem b64C_in {ys : List UInt8} {m k : Nat} (h : k ≤ m) : b64C ys m k = b64A.getD (word3 ys / 2 ^ (18 - 6 * k) % 64) 0 := by unfold b64C; rw [if_neg zz6, and63]
theorem b64C_out {ys : List UInt8} {m k : Nat} (h : m < k) : b64C ys m k = 61 := if_pos h
theorem ofNat_nat (n : Nat) : (UInt8.ofNat n).toNat = n % 256 := by rw [UInt8.toNat_ofNat']
theorem thr_word {n p : Nat} (hn : n < 16777216) (hp : p ≤ 2) (hk : thrOk n p) : word3 (pad3 ((thr n).take (3 - p))) = n ∧ min ((thr n).take (3 - p)).length 3 = 3 - p := by
  have l : ((thr n).take (3 - p)).length = 3 - p := by rw [List.length_take]; show min (3 - p) 3 = 3 - p; omega
  refine ⟨?_, zz6⟩
  have hz : ∀ j, j < 3 → ((thr n).take (3 - p)).getD j 0 = (thr n).getD j 0 := by
    intro j hj
    by_cases hh : j < 3 - p
    · rw [List.getD_eq_getElem?_getD, List.getElem?_take, if_pos hh, ← List.getD_eq_getElem?_getD]
    · rw [hk j hj zz6, List.getD_eq_getElem?_getD, List.getElem?_eq_none zz6]; rfl
  rw [word3_eq, pad3_get _ zz6, pad3_get _ zz6, pad3_get _ zz6, hz 0 zz6, hz 1 zz6, hz 2 zz6]
  show (UInt8.ofNat (n / 65536)).toNat * 65536 + (UInt8.ofNat (n / 256)).toNat * 256 + (UInt8.ofNat n).toNat = n
  rw [ofNat_nat, ofNat_nat, ofNat_nat]; omega
theorem take4 (s : List UInt8) {g : Nat} (h : 4 * g + 4 ≤ s.length) : s.take (4 * g + 4) = s.take (4 * g) ++ [s.getD (4 * g) 0, s.getD (4 * g + 1) 0, s.getD (4 * g + 2) 0, s.getD (4 * g + 3) 0] := by
  rw [take_snoc s (i := 4 * g + 3) zz6, take_snoc s (i := 4 * g + 2) zz6, take_snoc s (i := 4 * g + 1) zz6, take_snoc s (i := 4 * g) zz6]
  simp
theorem idx_chr {c : UInt8} {v : Nat} (h : c ∈ b64A) (e : v = b64A.idxOf c) : b64A.getD v 0 = c := by subst e; exact (b64A_mem h).2
theorem gr_cases {s : List UInt8} {i n p : Nat} (h : grN s i 4 = some (n, p)) : (p = 0 ∨ i + 4 = s.length) ∧ p ≤ 2 ∧ n < 16777216 ∧
    s.getD i 0 = b64A.getD (n / 2 ^ 18 % 64) 0 ∧ s.getD (i + 1) 0 = b64A.getD (n / 2 ^ 12 % 64) 0 ∧ s.getD (i + 2) 0 = (if p < 2 then b64A.getD (n / 2 ^ 6 % 64) 0 else 61) ∧ s.getD (i + 3) 0 = (if p < 1 then b64A.getD (n / 2 ^ 0 % 64) 0 else 61) := by
  have step : ∀ j n p, grN s i (j + 1) = some (n, p) → ∃ n0 p0, grN s i j = some (n0, p0) ∧ ((s.getD (i + j) 0 = 61 ∧ 1 < j ∧ i + 4 = s.length ∧ n = n0 * 64 ∧ p = p0 + 1) ∨ (p0 = 0 ∧ s.getD (i + j) 0 ∈ b64A ∧ n = n0 * 64 + b64A.idxOf (s.getD (i + j) 0) ∧ p = 0)) := by
    intro j n p h
    rw [grN] at h
    split at h
    · cases h
    · rename_i n0 p0 e
      refine ⟨n0, p0, e, ?_⟩
      split at h
      · rename_i hc
        injection h with h; injection h with h1 h2
        exact .inl ⟨hc.1, hc.2.1, hc.2.2, h1.symm, h2.symm⟩
      · split at h
        · cases h
        · rename_i hn
          injection h with h; injection h with h1 h2
          have hp : p0 = 0 := by omega
          exact .inr ⟨hp, Decidable.byContradiction fun e => hn (.inr e), h1.symm, zz6⟩
  obtain ⟨n3, p3, e3, c3⟩ := step 3 n p h
  obtain ⟨n2, p2, e2, c2⟩ := step 2 n3 p3 e3
  obtain ⟨n1, p1, e1, c1⟩ := step 1 n2 p2 e2
  obtain ⟨n0, p0, e0, c0⟩ := step 0 n1 p1 e1
  have hz : n0 = 0 ∧ p0 = 0 := by
    injection e0 with e0; injection e0 with h1 h2; exact ⟨h1.symm, h2.symm⟩
  rcases c0 with ⟨_, h1, _⟩ | ⟨_, m0, f0, q0⟩
  · omega
  rcases c1 with ⟨_, h1, _⟩ | ⟨_, m1, f1, q1⟩
  · omega
  have l0 := (b64A_mem m0).1
  have l1 := (b64A_mem m1).1
  simp only [Nat.add_zero] at m0 f0 l0
  rcases c2 with ⟨s2, _, hl, f2, q2⟩ | ⟨_, m2, f2, q2⟩
  · rcases c3 with ⟨s3, _, _, f3, q3⟩ | ⟨q3, _, _, _⟩
    · refine ⟨.inr hl, zz6, zz6, ?_, ?_, ?_, ?_⟩
      · exact (idx_chr m0 zz6).symm
      · exact (idx_chr m1 zz6).symm
      · rw [if_neg zz6]; exact s2
      · rw [if_neg zz6]; exact s3
    · omega
  · have l2 := (b64A_mem m2).1
    rcases c3 with ⟨s3, _, hl, f3, q3⟩ | ⟨_, m3, f3, q3⟩
    · refine ⟨.inr hl, zz6, zz6, ?_, ?_, ?_, ?_⟩
      · exact (idx_chr m0 zz6).symm
      · exact (idx_chr m1 zz6).symm
      · rw [if_pos zz6]; exact (idx_chr m2 zz6).symm
      · rw [if_neg zz6]; exact s3
    · have l3 := (b64A_mem m3).1
      refine ⟨.inl q3, zz6, zz6, ?_, ?_, ?_, ?_⟩
      · exact (idx_chr m0 zz6).symm
      · exact (idx_chr m1 zz6).symm
      · rw [if_pos zz6]; exact (idx_chr m2 zz6).symm
      · rw [if_pos zz6]; exact (idx_chr m3 zz6).symm
theorem fbR_inv {s : List UInt8} : ∀ {g : Nat} {b : List UInt8}, fbR s g = some b → 4 * g ≤ s.length → b64F b g = s.take (4 * g) ∧ b.length ≤ 3 * g ∧ (4 * g < s.length → b.length = 3 * g) ∧ (0 < g → 3 * g < b.length + 3)
  | 0, b, h, _ => by
    injection h with h; subst h
    exact ⟨rfl, Nat.le_refl _, fun _ => rfl, fun h => absurd h zz15⟩
  | g + 1, b, h, hl => by
    rw [fbR] at h
    split at h
    · cases h
    · rename_i b0 e0
      split at h
      · cases h
      · rename_i x ex
        injection h with h; subst h
        obtain ⟨i1, i2, i3, i4⟩ := fbR_inv e0 zz6
        have i3 := i3 zz6
        unfold grB at ex
        split at ex
        · cases ex
        · rename_i n p en
          split at ex
          · rename_i hk
            injection ex with ex; subst ex
            obtain ⟨k0, k1, k2, k3, k4, k5, k6⟩ := gr_cases en
            obtain ⟨t1, t2⟩ := thr_word k2 k1 hk
            have l : ((thr n).take (3 - p)).length = 3 - p := by rw [List.length_take]; show min (3 - p) 3 = 3 - p; omega
            have ed : (b0 ++ (thr n).take (3 - p)).drop (3 * g) = (thr n).take (3 - p) := by rw [List.drop_append_of_le_length zz6, List.drop_of_length_le zz6]; rfl
            refine ⟨?_, by rw [List.length_append]; omega, fun hh => by rw [List.length_append]; omega, fun _ => by rw [List.length_append]; omega⟩
            rw [b64F, b64F_app zz6, i1, ed, show 4 * (g + 1) = 4 * g + 4 from zz6, take4 s zz6, b64G_4, t2]
            congr 1
            rw [k3, k4, k5, k6, b64C_in zz6, b64C_in zz6, t1]
            congr 1; congr 1; congr 1
            · split
              · rw [b64C_in zz6, t1]
              · rw [b64C_out zz6]
            · congr 1
              split
              · rw [b64C_in zz6, t1]
              · rw [b64C_out zz6]
          · cases ex
theorem fbR_sound {s b : List UInt8} (h0 : s.length % 4 = 0) (h : fbR s (s.length / 4) = some b) : base64F b = s := by
  obtain ⟨i1, i2, _, i4⟩ := fbR_inv h zz6
  unfold base64F
  rcases Nat.eq_zero_or_pos (s.length / 4) with hz | hz
  · have hb : b = [] := List.eq_nil_of_length_eq_zero zz6
    have hs : s = [] := List.eq_nil_of_length_eq_zero zz6
    subst hb hs; rfl
  · have := i4 hz
    rw [show (b.length + 2) / 3 = s.length / 4 from zz6, i1, show 4 * (s.length / 4) = s.length from zz6, List.take_length]
theorem gr_in {s : List UInt8} {i j n v : Nat} (h : grN s i j = some (n, 0)) (hv : v < 64) (hc : s.getD (i + j) 0 = b64A.getD v 0) : grN s i (j + 1) = some (n * 64 + v, 0) := by
  obtain ⟨h1, h2, h3⟩ := b64A_idx v hv
  rw [grN_S h, hc, if_neg (fun e => h3 e.1), if_neg (fun e => e.elim (fun e => absurd e (Nat.lt_irrefl 0)) (fun e => e h1)), h2]
theorem gr_out {s : List UInt8} {i j n p : Nat} (h : grN s i j = some (n, p)) (hj : 1 < j) (hl : i + 4 = s.length) (hc : s.getD (i + j) 0 = 61) : grN s i (j + 1) = some (n * 64, p + 1) := by
  rw [grN_S h, if_pos ⟨hc, hj, hl⟩]
theorem thr_wd (b : List UInt8) (g : Nat) : thr (wd b g) = [b.getD (3 * g) 0, b.getD (3 * g + 1) 0, b.getD (3 * g + 2) 0] := by
  have h0 := (b.getD (3 * g) 0).toNat_lt
  have h1 := (b.getD (3 * g + 1) 0).toNat_lt
  have h2 := (b.getD (3 * g + 2) 0).toNat_lt
  unfold thr wd
  rw [byte_eq (c := b.getD (3 * g) 0) zz6, byte_eq (c := b.getD (3 * g + 1) 0) zz6, byte_eq (c := b.getD (3 * g + 2) 0) zz6]
theorem getD_z {b : List UInt8} {i : Nat} (h : b.length ≤ i) : b.getD i 0 = 0 := by rw [List.getD_eq_getElem?_getD, List.getElem?_eq_none h]; rfl
theorem fbR_step (b : List UInt8) {g : Nat} (hg : g < (b.length + 2) / 3) : grB (base64F b) (4 * g) = some ((b.drop (3 * g)).take 3) := by
  have hl := base64F_length b
  have hw := wd_lt b g
  have b0 := (b.getD (3 * g) 0).toNat_lt
  have b1 := (b.getD (3 * g + 1) 0).toNat_lt
  have b2 := (b.getD (3 * g + 2) 0).toNat_lt
  have c0 := chr_ok b (i := 4 * g + 0) zz6 zz6
  have c1 := chr_ok b (i := 4 * g + 1) zz6 zz6
  have g0 : grN (base64F b) (4 * g) 0 = some (0, 0) := rfl
  have g1 := gr_in g0 (sx_lt b _) c0
  have g2 := gr_in g1 (sx_lt b _) c1
  have v0 : sx b (4 * g + 0) = wd b g / 262144 % 64 := by unfold sx; rw [show (4 * g + 0) / 4 = g from zz6, show (4 * g + 0) % 4 = 0 from zz6]
  have v1 : sx b (4 * g + 1) = wd b g / 4096 % 64 := by unfold sx; rw [show (4 * g + 1) / 4 = g from zz6, show (4 * g + 1) % 4 = 1 from zz6]
  have v2 : sx b (4 * g + 2) = wd b g / 64 % 64 := by unfold sx; rw [show (4 * g + 2) / 4 = g from zz6, show (4 * g + 2) % 4 = 2 from zz6]
  have v3 : sx b (4 * g + 3) = wd b g / 1 % 64 := by unfold sx; rw [show (4 * g + 3) / 4 = g from zz6, show (4 * g + 3) % 4 = 3 from zz6]
  have key : ∀ p, p ≤ 2 → (∀ j, j < 3 → 3 - p ≤ j → b.length ≤ 3 * g + j) → (3 - p ≤ b.length - 3 * g) → grN (base64F b) (4 * g) 4 = some (wd b g, p) → grB (base64F b) (4 * g) = some ((b.drop (3 * g)).take 3) := by
    intro p hp hz hle he
    have hk : thrOk (wd b g) p := by
      intro j hj hpj
      have := hz j hj hpj
      rw [thr_wd]
      rcases (show j = 0 ∨ j = 1 ∨ j = 2 from zz6) with rfl | rfl | rfl
      · exact getD_z (b := b) (i := 3 * g) this
      · exact getD_z (b := b) (i := 3 * g + 1) this
      · exact getD_z (b := b) (i := 3 * g + 2) this
    rw [grB_ok he hk, thr_wd]
    congr 1
    apply List.ext_getElem?
    intro j
    rw [List.getElem?_take, List.getElem?_take, List.getElem?_drop]
    by_cases h1 : j < 3 - p
    · rw [if_pos h1, if_pos zz6, List.getElem?_eq_getElem (by omega : 3 * g + j < b.length)]
      have e : b.getD (3 * g + j) 0 = b[3 * g + j]'(zz6) := by rw [List.getD_eq_getElem?_getD, List.getElem?_eq_getElem (by omega : 3 * g + j < b.length)]; rfl
      rw [← e]
      rcases (show j = 0 ∨ j = 1 ∨ j = 2 from zz6) with rfl | rfl | rfl <;> rfl
    · rw [if_neg h1]
      split
      · rename_i h2
        rw [List.getElem?_eq_none (hz j h2 zz6)]
      · rfl
  by_cases m1 : b.length < 3 * g + 2
  · have z1 := getD_z (b := b) (i := 3 * g + 1) zz6
    have z2 := getD_z (b := b) (i := 3 * g + 2) zz6
    have n1 : (b.getD (3 * g + 1) 0).toNat = 0 := by rw [z1]; rfl
    have n2 : (b.getD (3 * g + 2) 0).toNat = 0 := by rw [z2]; rfl
    have g3 := gr_out g2 zz15 zz6 (chr_pad b (i := 4 * g + 2) zz6 zz6)
    have g4 := gr_out g3 zz15 zz6 (chr_pad b (i := 4 * g + 3) zz6 zz6)
    refine key 2 zz6 (fun j h1 h2 => zz6) zz6 (g4.trans ?_)
    rw [v0, v1]
    unfold wd; rw [n1, n2]
    exact congrArg some (Prod.ext (by dsimp only; omega) rfl)
  · have c2 := chr_ok b (i := 4 * g + 2) zz6 zz6
    have g3 := gr_in g2 (sx_lt b _) c2
    by_cases m2 : b.length < 3 * g + 3
    · have z2 := getD_z (b := b) (i := 3 * g + 2) zz6
      have n2 : (b.getD (3 * g + 2) 0).toNat = 0 := by rw [z2]; rfl
      have g4 := gr_out g3 zz15 zz6 (chr_pad b (i := 4 * g + 3) zz6 zz6)
      refine key 1 zz6 (fun j h1 h2 => zz6) zz6 (g4.trans ?_)
      rw [v0, v1, v2]
      unfold wd; rw [n2]
      exact congrArg some (Prod.ext (by dsimp only; omega) rfl)
    · have c3 := chr_ok b (i := 4 * g + 3) zz6 zz6
      have g4 := gr_in g3 (sx_lt b _) c3
      refine key 0 zz6 (fun j h1 h2 => zz6) zz6 (g4.trans ?_)
      rw [v0, v1, v2, v3]
      exact congrArg some (Prod.ext (by dsimp only; omega) rfl)
theorem fbR_all (b : List UInt8) : ∀ g, g ≤ (b.length + 2) / 3 → fbR (base64F b) g = some (b.take (3 * g))
  | 0, _ => rfl
  | g + 1, h => by
    rw [fbR_S (fbR_all b g zz6), fbR_step b zz6]
    show some (b.take (3 * g) ++ (b.drop (3 * g)).take 3) = _
    rw [← List.take_add]
    congr 2
theorem fbR_back (b : List UInt8) : fbR (base64F b) ((base64F b).length / 4) = some b := by
  have hl := base64F_length b
  rw [show (base64F b).length / 4 = (b.length + 2) / 3 from zz6, fbR_all b _ (Nat.le_refl _), List.take_of_length_le zz6]
theorem fbR_eq (s : List UInt8) : (s.length % 4 = 0 ∧ ∃ b, fbR s (s.length / 4) = some b) ↔ fbOk s := by
  constructor
  · rintro ⟨h0, b, h⟩
    exact (fb_some (fbR_sound h0 h)).1
  · intro h
    have q := fbR_back (fbV s)
    rw [fb_fwd h] at q
    exact ⟨h.1, _, q⟩
theorem fbR_val {s b : List UInt8} (h0 : s.length % 4 = 0) (h : fbR s (s.length / 4) = some b) : fbOk s ∧ fbV s = b := fb_some (fbR_sound h0 h)
theorem fbR_none {s : List UInt8} (h : s.length % 4 ≠ 0 ∨ fbR s (s.length / 4) = none) : ¬ fbOk s := fun hk => by
  obtain ⟨h0, b, hb⟩ := (fbR_eq s).2 hk
  rcases h with h | h
  · exact h h0
  · rw [h] at hb; cases hb
end Go.Proofs.YtlapmdiabhlbmaaDoor
namespace Go.Proofs.YtlapmdiabhlbmaaDoor
open Go Go.PL Go.RowKit
theorem plB_at {l : List UInt8} {c : UInt8} {i : Nat} (hi : i < l.length) (h : ∀ j, j < i → l.getD j 0 ≠ c) (e : l.getD i 0 = c) : plB l c = ((i : Nat) : Int) := by
  have hm : c ∈ l := by rw [← e]; exact mem_getD hi
  rw [plB_in hm]
  obtain ⟨h1, h2⟩ := getD_idx hm
  have h3 : l.idxOf c = i := by
    rcases Nat.lt_trichotomy (l.idxOf c) i with h4 | h4 | h4
    · exact absurd h2 (h _ h4)
    · exact h4
    · have e1 : l[i] = c := by rw [List.getD_eq_getElem?_getD, List.getElem?_eq_getElem hi] at e; exact e
      have q := List.not_of_lt_findIdx (p := (· == c)) (xs := l) (i := i) h4
      rw [e1] at q
      simp at q
  rw [h3]
theorem plB_un {l : List UInt8} {c : UInt8} (h : ∀ j, j < l.length → l.getD j 0 ≠ c) : plB l c = -1 := plB_no fun hm => by
  obtain ⟨h1, h2⟩ := getD_idx hm
  exact h _ h1 h2
section
variable {P : Program} {n : Cx} {L : Slots} {Q : Exit → Act → World → Prop} {w0 : World} {Ln : List Nat} {M : List Ent} {S : List Fact}
theorem t_callB {k : FuncId} {args : Array Operand} {at_ : Array TypeId} {vs : List Value} {ι : Type} {p : ι → Prop} {V : ι → Value} {Z : ι → List Ent} {T : ι → List Fact} (hb : HasBody P k) (hv : evs L args.toList = some vs)
    (hc : ∀ w, Mem w0 Ln M S w → Calls P k vs.toArray w (fun e w' => ∃ x, p x ∧ e = .returned (V x) ∧ Mem w0 Ln (Z x) (T x) w')) :
    TOpP P Q n (Mem w0 Ln M S) L (.call { callee := .value (.func k), args := args, argTypes := at_ }) ι p V (fun x => Mem w0 Ln (Z x) (T x)) := by
  have h : TOp P Q n (Mem w0 Ln M S) L (.call { callee := .value (.func k), args := args, argTypes := at_ }) { x : ι // p x } (fun x => V x.1) (fun x => Mem w0 Ln (Z x.1) (T x.1)) := by
    intro d ty pos af g a w K hs hm0 hk
    have hargs : args.map a.eval = vs.toArray := by
      have e : (args.map a.eval).toList = vs := by rw [Array.toList_map]; exact evs_eval hs hv
      rw [← e]
    have hrun : (execOp a.eval ⟨d, .call { callee := .value (.func k), args := args, argTypes := at_ }, ty, pos, af, g⟩).run P w = .ok (.enter k vs.toArray) w := by
      have hf : ev L (.func k) = some (.func (.func k) #[] #[]) := rfl
      simp only [execOp, resolve, hs.eval hf, hargs]
      simp [Deferred.ofValue, invoke, run_callFunc hb]
    unfold Oper.wp
    rw [hrun]
    refine (hc w hm0).mono ?_
    rintro e w' ⟨x, hp, rfl, h⟩
    exact hk ⟨x, hp⟩ w' h
  exact h.rep fun x w h => ⟨x.1, x.2, rfl, h⟩
end
theorem sv_own {w : World} {v : Value} {n : Nat} {e : TypeId} {xs : List Value} (h : w.ownsRow 0 e 1 v n xs) : SV v n := by
  rcases h.2 with ⟨rfl, rfl⟩ | ⟨g, cap, cur, rfl, _, _, h1, h2, _⟩
  · exact SV.nil
  · exact ⟨_, _, rfl, h1, h2, fun h => by cases h⟩
theorem indexB (l : List UInt8) (c : UInt8) (w : World) : Calls Tryd.prog 34 [str l, .int .u8 c.toNat].toArray w (Pur w (.int .i64 (plB l c))) := by
  refine (Tryd.strings_IndexByte ⟨l.toArray⟩ (c.toNat : Int) w).mono ?_
  rintro e w' ⟨h1, h2⟩
  subst h2
  refine ⟨?_, Below.refl _ _⟩
  rw [h1, indexByte_plB]
  have : ((c.toNat : Int)).toNat.toUInt8 = c := by rw [Int.toNat_natCast]; exact UInt8.ofNat_toNat
  rw [this]
theorem trimR (l : List UInt8) (w : World) (h : l.length ≤ maxLen) : Calls Tryd.prog 36 [str l, str [61]].toArray w (Pur w (str (plainS l))) := by
  refine (Tryd.strings_TrimRight_one ⟨l.toArray⟩ 61 zz15 w (by unfold maxLen at h; show l.toArray.size ≤ _; simpa using h)).mono ?_
  rintro e w' ⟨h1, h2⟩
  subst h2
  exact ⟨h1, Below.refl _ _⟩
abbrev bufE (b : Nat) (v : Value) (lr : Int) (xs : List UInt8) (n : Nat) : List Ent := [.blk b 71 [v, .int .i64 0, .int .i8 lr], .row v n 5 1 (v8s xs)]
theorem buf_is {w0 w : World} {b n : Nat} {v : Value} {lr : Int} {xs : List UInt8} (hn : xs.length = n) (h : Mem w0 [] (bufE b v lr xs n) [] w) : Lib.IsBuffer 71 5 w0.heap.size b (v8s xs) w := by
  subst hn
  have h1 := h.new (.blk b 71 [v, .int .i64 0, .int .i8 lr]) (List.mem_cons_self ..) b rfl
  have h2 := h.own (.row v xs.length 5 1 (v8s xs)) (List.mem_cons_of_mem _ (List.mem_cons_self ..))
  have h3 := h.new (.row v xs.length 5 1 (v8s xs)) (List.mem_cons_of_mem _ (List.mem_cons_self ..))
  have h4 := (List.pairwise_cons.1 h.apart).1 (.row v xs.length 5 1 (v8s xs)) (List.mem_cons_self ..) b rfl
  refine ⟨h1.elim id (fun h => by cases h), v, lr, h.own (.blk b 71 [v, .int .i64 0, .int .i8 lr]) (List.mem_cons_self ..), ?_, h4⟩
  rw [v8s_length]
  obtain ⟨g1, g2⟩ := h2
  refine ⟨g1, ?_⟩
  rcases g2 with g2 | ⟨g, cap, cur, rfl, _, r⟩
  · exact .inl g2
  · exact .inr ⟨g, cap, cur, rfl, (h3 g rfl).elim id (fun h => by cases h), r⟩
theorem buf_mem {w0 w w' : World} {M : List Ent} {b : Nat} {xs : List UInt8} (hm : Mem w0 [] M [] w) (hb : Below w0.heap.size w w') (h : Lib.IsBuffer 71 5 w0.heap.size b (v8s xs) w') : ∃ x : Value × Int, SV x.1 xs.length ∧ Mem w0 [] (bufE b x.1 x.2 xs xs.length) [] w' := by
  obtain ⟨h1, v, lr, h2, h3, h4⟩ := h
  rw [v8s_length] at h3
  have h0 : w'.ownsRow 0 5 1 v xs.length (v8s xs) := by
    obtain ⟨g1, g2⟩ := h3
    refine ⟨g1, ?_⟩
    rcases g2 with g2 | ⟨g, cap, cur, rfl, _, r⟩
    · exact .inl g2
    · exact .inr ⟨g, cap, cur, rfl, Nat.zero_le _, r⟩
  refine ⟨(v, lr), ?_, ⟨hb.os.trans hm.os, hb.tape.trans hm.tape, hb.output.trans hm.output, Nat.le_trans hm.size hb.size, fun k hk _ => (hb.block k hk).trans (hm.old k hk (by simp)), ?_, ?_, ?_, fun s hs => by cases hs⟩⟩
  · exact sv_own h0
  · intro e he
    rcases List.mem_cons.1 he with rfl | he
    · exact h2
    · rw [List.mem_singleton] at he; subst he; exact h0
  · intro e he k hk
    rcases List.mem_cons.1 he with rfl | he
    · injection hk with hk; subst hk; exact .inl h1
    · rw [List.mem_singleton] at he; subst he
      exact .inl (World.ownsRow.lt h3 k hk).1
  · refine List.pairwise_cons.2 ⟨fun f hf k hk => ?_, List.pairwise_singleton _ _⟩
    rw [List.mem_singleton] at hf; subst hf
    injection hk with hk; subst hk
    exact h4
theorem bufWrite {w0 : World} (b n : Nat) (v : Value) (lr : Int) (xs : List UInt8) (c : UInt8) (w : World) (hn : xs.length = n) (h : Mem w0 [] (bufE b v lr xs n) [] w) (hl : n ≤ 1000000) : Calls Tryd.prog 37 [.pointer (some ⟨b, 0, none⟩), .int .u8 c.toNat].toArray w (fun e w' => ∃ x : Value × Int, SV x.1 (n + 1) ∧ e = .returned .nilIface ∧ Mem w0 [] (bufE b x.1 x.2 (xs ++ [c]) (n + 1)) [] w') := by
  refine (Tryd.Buffer_WriteByte w0.heap.size b (v8s xs) (c.toNat : Int) w (buf_is hn h) h.size (v8s_one _) (by rw [v8s_length]; omega)).mono ?_
  rintro e w' ⟨h1, h2, h3⟩
  have e1 : v8s xs ++ [.int .u8 (c.toNat : Int)] = v8s (xs ++ [c]) := by rw [v8s_append]; rfl
  rw [e1] at h2
  obtain ⟨x, hx, hm⟩ := buf_mem h h3 h2
  have hl2 : (xs ++ [c]).length = n + 1 := by rw [List.length_append, hn]; rfl
  rw [hl2] at hx hm
  exact ⟨x, hx, h1, hm⟩
theorem bufBytes {w0 : World} (b n : Nat) (v : Value) (lr : Int) (xs : List UInt8) (w : World) (hn : xs.length = n) (h : Mem w0 [] (bufE b v lr xs n) [] w) : Calls Tryd.prog 38 [.pointer (some ⟨b, 0, none⟩)].toArray w (fun e w' => ∃ x : Value, SV x n ∧ e = .returned x ∧ Mem w0 [] [.row x n 5 1 (v8s xs)] [] w') := by
  refine (Tryd.Buffer_Bytes w0.heap.size b (v8s xs) w (buf_is hn h)).mono ?_
  rintro e w' ⟨x, h1, h2, m, h3⟩
  subst hn h3
  rw [v8s_length] at h2
  have h0 : (w.drewN m).ownsRow 0 5 1 x xs.length (v8s xs) := by
    obtain ⟨g1, g2⟩ := h2
    refine ⟨g1, ?_⟩
    rcases g2 with g2 | ⟨g, cap, cur, rfl, _, r⟩
    · exact .inl g2
    · exact .inr ⟨g, cap, cur, rfl, Nat.zero_le _, r⟩
  refine ⟨x, sv_own h0, h1, ⟨h.os, h.tape, h.output, h.size, h.old, ?_, ?_, List.pairwise_singleton _ _, fun s hs => by cases hs⟩⟩
  · intro e he; rw [List.mem_singleton] at he; subst he; exact h0
  · intro e he k hk; rw [List.mem_singleton] at he; subst he
    exact .inl (World.ownsRow.lt h2 k hk).1
end Go.Proofs.YtlapmdiabhlbmaaDoor
namespace Go.Proofs.YtlapmdiabhlbmaaDoor
open Go Go.PL Go.RowKit
theorem of8_hex {a b : UInt8} (ha : a ∈ hexD) (hb : b ∈ hexD) : of8 (((hexD.idxOf a * 2 ^ 4 ||| hexD.idxOf b : Nat)) : Int) = hexV a b := by
  have h1 := (mem_hexD ha).1
  have h2 := (mem_hexD hb).1
  have e := Nat.two_pow_add_eq_or_of_lt (b := hexD.idxOf b) (i := 4) zz6 (hexD.idxOf a)
  rw [Nat.mul_comm, ← e]
  exact UInt8.toNat_inj.1 (by rw [hexV_nat ha hb, of8, UInt8.toNat_ofNat']; omega)
theorem of8_hex2 {a b : UInt8} (ha : a ∈ hexD) (hb : b ∈ hexD) : of8 (((16 * hexD.idxOf a + hexD.idxOf b : Nat)) : Int) = hexV a b := by
  have h1 := (mem_hexD ha).1
  have h2 := (mem_hexD hb).1
  exact UInt8.toNat_inj.1 (by rw [hexV_nat ha hb, of8, UInt8.toNat_ofNat']; omega)
theorem hx_no {xs : List UInt8} {i : Nat} (hi : i < xs.length) (h : xs.getD i 0 ∉ hexD) : ¬ hxOk xs := fun k => h (k.2 _ (mem_getD hi))
theorem hx_odd {xs : List UInt8} (h : xs.length % 2 = 1) : ¬ hxOk xs := fun k => by have := k.1; omega
theorem hx_yes {xs : List UInt8} {k : Nat} (hk : xs.length = 2 * k) (h : ∀ j, j < 2 * k → xs.getD j 0 ∈ hexD) : hxOk xs := ⟨zz6, fun c hc => by
  obtain ⟨i, hi, rfl⟩ := List.mem_iff_getElem.1 hc
  have q := h i zz6
  rw [List.getD_eq_getElem?_getD, List.getElem?_eq_getElem hi] at q
  exact q⟩
theorem fh_no {xs : List UInt8} (h : ¬ hxOk xs) : fhV xs = [] ∧ fhE xs = 12 := ⟨if_neg h, if_neg h⟩
theorem fh_yes {xs : List UInt8} (h : hxOk xs) : fhV xs = hxO xs (xs.length / 2) ∧ fhE xs = 0 := ⟨if_pos h, if_pos h⟩
theorem memD_2 {xs : List UInt8} {k : Nat} (h : ∀ j, j < 2 * k → xs.getD j 0 ∈ hexD) (h1 : xs.getD (2 * k) 0 ∈ hexD) (h2 : xs.getD (2 * k + 1) 0 ∈ hexD) : ∀ j, j < 2 * (k + 1) → xs.getD j 0 ∈ hexD := fun j hj => by
  rcases (show j < 2 * k ∨ j = 2 * k ∨ j = 2 * k + 1 from zz6) with h | rfl | rfl
  · rename_i q; exact q j h
  · exact h1
  · exact h2
theorem refPlaceB (l : List UInt8) (c : UInt8) (w : World) (hll : l.length ≤ 100000)  :
    Calls Tryd.prog 35 [str l, .int .u8 c.toNat].toArray w (Pur w (.int .i64 (plB l c))) := by
  have lmx : l.length ≤ maxLen := by unfold maxLen; omega
  simp only [maxLen] at lmx
  refine enter (m := 18) (R := Mem w [] [] []) Tryd.func35 rfl rfl (Nat.le_of_ble_eq_true rfl) (Mem.start w) ?_
  refine wpc_seq <| wpc_region <| wpl_q (q_pure rfl) rfl <| wpl_nil <| ex_then <| wpc_seq <| wpc_seq <| wpc_region <| wpl_q (q_pure rfl) rfl <| wpl_nil <| ex_then <| wpc_block ?_
  refine wpc_loopc (ι := { x : Nat // (x ≤ l.length) ∧ (∀ j, j < x → l.getD j 0 ≠ c) }) [(0, _), (1, _)] (fun x Lc => (5, .int .i64 ((x.1 : Nat) : Int)) :: Lc) (fun x => Mem w [] [] []) (fun x => l.length - x.1) ⟨0, ⟨Nat.zero_le _, fun j hj => absurd hj (Nat.not_lt_zero _)⟩⟩ zz5 ?_ ?_
  ·
   exact fun w h => h
  ·
   rintro ⟨i, ⟨hi0, hi1⟩⟩; try dsimp only
   have hi0 : i ≤ l.length := hi0; have hi1 : ∀ j, j < i → l.getD j 0 ≠ c := hi1
   refine wpc_seq <| wpc_seq <| wpc_region <| wpl_q (q_pure rfl) rfl <| wpl_q (q_pure rfl) rfl <| wpl_q (q_lenS Tryd.underlying9 rfl) rfl <| wpl_q (q_pure rfl) rfl <| wpl_nil <| ex_then ?_
   refine wpc_cond rfl (fun hc9 => ?_) (fun hc9 => ?_)
   ·
    simp only [decide_eq_true_eq] at hc9
    have hil : i < l.length := by omega
    refine wpc_skip <| ex_then <| wpc_seq <| wpc_block <| wpc_seq <| wpc_region <| wpl_q (q_pure rfl) rfl <| wpl_q (q_pure rfl) rfl ?_
    refine wpl_q (q_strIdx Tryd.underlying9 rfl rfl zz0) rfl ?_
    refine wpl_q (q_pure rfl) rfl <| wpl_q (q8_eql rfl rfl) rfl <| wpl_nil <| ex_then ?_
    refine wpc_cond rfl (fun hc16 => ?_) (fun hc16 => ?_)
    ·
     have heq : l.getD i 0 = c := by first | exact of_decide_eq_true hc16 | exact hc16 | simpa using hc16
     refine wpc_seq <| wpc_region <| wpl_q (q_pure rfl) rfl <| wpl_q (q_pure rfl) rfl <| wpl_nil <| ex_then <| wpc_ret ?_
     refine ex_block_ret ?_
     refine ex_then_ret ?_
     refine ex_then_ret ?_
     refine ex_block_ret ?_
     refine ex_then_ret ?_
     refine ret1 (.inl rfl) rfl rfl ?_
     exact fun w h => ⟨by rw [plB_at hil hi1 heq], h.below⟩
    ·
     have hne : l.getD i 0 ≠ c := by first | exact of_decide_eq_false hc16 | exact hc16 | simpa using hc16
     refine wpc_skip <| ex_block <| ex_then <| wpc_region <| wpl_q (q_pure rfl) rfl ?_
     refine wpl_q (q_addN (b := 1) rfl rfl zz0) rfl ?_
     refine wpl_q (q_pure rfl) rfl <| wpl_nil ?_
     refine ex_again ⟨i + 1, ⟨by show i + 1 ≤ _; omega, fun j hj => by
       rcases Nat.lt_or_ge j i with h | h
       · exact hi1 j h
       · obtain rfl : j = i := (by have hj : j < i + 1 := hj; omega)
         exact hne⟩⟩ ?_ ?_ ?_
     ·
      exact zz5
     ·
      exact fun w h => by first | exact h | exact h.sub SubC.h SubC.h | exact h.sub zz4 zz4
     ·
      (show l.length - (i + 1) < l.length - i); omega
   ·
    simp only [decide_eq_false_iff_not] at hc9
    obtain rfl : i = l.length := by omega
    refine wpc_exit ?_
    refine ex_then_exit ?_
    refine ex_then_exit ?_
    refine ex_block_hit ?_
    refine ex_then <| wpc_seq <| wpc_region <| wpl_q (q_pure rfl) rfl <| wpl_nil <| ex_then <| wpc_ret ?_
    refine ret1 (.inl rfl) rfl rfl ?_
    exact fun w h => ⟨by rw [plB_un hi1], h.below⟩
theorem fromHex (xs : List UInt8) (w : World) (hxl : xs.length ≤ 100000)  :
    Calls Tryd.prog 20 [str xs].toArray w (GivesP w (fun v : Value => SV v (fhV xs).length) (fun v => .tuple #[v, .int .i64 (fhE xs)]) (fun v => [.row v (fhV xs).length 5 1 (v8s (fhV xs))]) (fun _ => [])) := by
  have lmx : xs.length ≤ maxLen := by unfold maxLen; omega
  simp only [maxLen] at lmx
  refine enter (m := 43) (R := Mem w [] [] []) Tryd.func20 rfl rfl (Nat.le_of_ble_eq_true rfl) (Mem.start w) ?_
  refine wpc_seq <| wpc_region <| wpl_q (q_pure rfl) rfl <| wpl_q (q_pure rfl) rfl <| wpl_nil <| ex_then <| wpc_seq <| wpc_region <| wpl_q (q_pure rfl) rfl <| wpl_nil <| ex_then <| wpc_seq ?_
  refine wpc_seq <| wpc_region <| wpl_q (q_pure rfl) rfl <| wpl_nil <| ex_then <| wpc_block ?_
  refine wpc_loopc (ι := { x : Nat × Value // (2 * x.1 ≤ xs.length) ∧ (SV x.2 x.1) ∧ (∀ j, j < 2 * x.1 → xs.getD j 0 ∈ hexD) }) [(0, _)] (fun x Lc => (5, .int .i64 ((2 * x.1.1 : Nat) : Int)) :: (4, x.1.2) :: Lc) (fun x => Mem w [] [.row x.1.2 x.1.1 5 1 (v8s (hxO xs x.1.1))] []) (fun x => xs.length - 2 * x.1.1) ⟨(0, .slice none 0 0), ⟨Nat.zero_le _, SV.nil, fun j hj => absurd hj (Nat.not_lt_zero _)⟩⟩ zz5 ?_ ?_
  ·
   exact fun w h => h.nilRow 5 1
  ·
   rintro ⟨⟨k, v⟩, ⟨hi0, hi1, hi2⟩⟩; try dsimp only
   have hi0 : 2 * k ≤ xs.length := hi0; have hi1 : SV v k := hi1; have hi2 : ∀ j, j < 2 * k → xs.getD j 0 ∈ hexD := hi2
   refine wpc_seq <| wpc_seq <| wpc_region <| wpl_q (q_pure rfl) rfl ?_
   refine wpl_q (q_addN (b := 1) rfl rfl zz0) rfl ?_
   refine wpl_q (q_pure rfl) rfl <| wpl_q (q_lenS Tryd.underlying9 rfl) rfl <| wpl_q (q_pure rfl) rfl <| wpl_nil <| ex_then ?_
   refine wpc_cond rfl (fun hc12 => ?_) (fun hc12 => ?_)
   ·
    simp only [decide_eq_true_eq] at hc12
    have hkl : 2 * k + 1 < xs.length := by omega
    refine wpc_skip <| ex_then <| wpc_seq <| wpc_block <| wpc_seq ?_
    refine wpc_draw 11 zz3 (fun _ h => h.drew) ?_
    refine wpd_p 0 rfl zz3 trivial (q_pure rfl) rfl sk0 ?_
    refine wpd_p 1 rfl zz3 trivial (q_pure rfl) rfl sk0 ?_
    refine wpd_p 2 rfl zz3 trivial (q_strIdx Tryd.underlying9 rfl rfl zz0) rfl sk0 ?_
    refine wpd_p 4 rfl zz3 trivial (q_pure rfl) rfl sk0 ?_
    refine wpd_p 5 rfl zz3 trivial (q_pure rfl) rfl sk0 ?_
    refine wpd_p 6 rfl zz3 trivial (q_addN (b := 1) rfl rfl zz0) rfl sk0 ?_
    refine wpd_p 7 rfl zz3 trivial (q_strIdx Tryd.underlying9 rfl rfl zz0) rfl sk0 ?_
    refine wpd_t 3 rfl zz3 trivial (t_pur Tryd.hb34 rfl fun w h => indexB hexD (xs.getD (2 * k) 0) w) rfl (fun _ => sk0) (fun b18 => ?_)
    refine wpd_t 8 rfl zz3 trivial (t_pur Tryd.hb34 rfl fun w h => indexB hexD (xs.getD (2 * k + 1) 0) w) rfl (fun _ => sk0) (fun b23 => ?_)
    refine wpd_p 9 rfl zz3 trivial (q_pure rfl) rfl sk0 ?_
    refine wpd_p 10 rfl zz3 trivial (q_pure rfl) rfl sk0 ?_
    refine wpd_done zz3 ?_
    refine ex_then <| wpc_seq <| wpc_seq <| wpc_region <| wpl_q (q_pure rfl) rfl <| wpl_q (q_pure rfl) rfl <| wpl_q (q_pure rfl) rfl ?_
    refine wpl_bool2 26 25 rfl rfl (fun hb26 => ?_) (fun hb26 => ?_)
    ·
     have hN : ¬ hxOk xs := hx_no (i := 2 * k) zz6 (plB_neg.1 (by first | (simp only [decide_eq_true_eq] at hb26; exact hb26) | exact hb26))
     refine wpl_off rfl rfl rfl rfl <| wpl_off rfl rfl rfl rfl <| wpl_q (q_pure rfl) rfl <| wpl_nil <| ex_then ?_
     refine wpc_cond_t rfl ?_
     refine wpc_seq <| wpc_region <| wpl_q (q_pure rfl) rfl <| wpl_q (q_pure rfl) rfl <| wpl_nil <| ex_then <| wpc_ret ?_
     refine ex_then_ret ?_
     refine ex_block_ret ?_
     refine ex_then_ret ?_
     refine ex_then_ret ?_
     refine ex_block_ret ?_
     refine ex_then_ret ?_
     refine ret2 (.inl rfl) rfl rfl rfl ?_
     exact fun w1 h => ⟨(.slice none 0 0), by rw [(fh_no hN).1]; exact SV.nil, by rw [(fh_no hN).2], h.below, zz9⟩
    ·
     have hp1 : xs.getD (2 * k) 0 ∈ hexD := Decidable.byContradiction fun e => absurd (plB_neg.2 e) (by first | (simp only [decide_eq_false_iff_not] at hb26; exact hb26) | exact hb26)
     refine wpl_on rfl rfl <| wpl_q (q_pure rfl) rfl <| wpl_on rfl rfl <| wpl_q (q_pure rfl) rfl <| wpl_q (q_pure rfl) rfl <| wpl_nil <| ex_then ?_
     refine wpc_cond rfl (fun hc29 => ?_) (fun hc29 => ?_)
     ·
      have hN : ¬ hxOk xs := by first | exact hx_no (i := 2 * k + 1) zz6 (plB_neg.1 (by first | (simp only [decide_eq_true_eq] at hc29; exact hc29) | exact hc29))
      refine wpc_seq <| wpc_region <| wpl_q (q_pure rfl) rfl <| wpl_q (q_pure rfl) rfl <| wpl_nil <| ex_then <| wpc_ret ?_
      refine ex_then_ret ?_
      refine ex_block_ret ?_
      refine ex_then_ret ?_
      refine ex_then_ret ?_
      refine ex_block_ret ?_
      refine ex_then_ret ?_
      refine ret2 (.inl rfl) rfl rfl rfl ?_
      exact fun w1 h => ⟨(.slice none 0 0), by rw [(fh_no hN).1]; exact SV.nil, by rw [(fh_no hN).2], h.below, zz9⟩
     ·
      have hp2 : xs.getD (2 * k + 1) 0 ∈ hexD := Decidable.byContradiction fun e => absurd (plB_neg.2 e) (by first | (simp only [decide_eq_false_iff_not] at hc29; exact hc29) | exact hc29)
      have hp1l := (mem_hexD hp1).1
      have hp2l := (mem_hexD hp2).1
      rw [plB_in hp1, plB_in hp2]
      refine wpc_skip <| ex_then <| wpc_region <| wpl_q (q_pure rfl) rfl <| wpl_q (q_pure rfl) rfl ?_
      refine wpl_q (q_shlN (b := 4) rfl rfl zz10 zz0) rfl ?_
      refine wpl_q (q_pure rfl) rfl ?_
      refine wpl_q (q_orN rfl rfl zz0 zz0) rfl ?_
      refine wpl_q (q8_conv Tryd.underlying3 Tryd.underlying5 rfl) rfl ?_
      refine wpl_re 35 rfl (congrArg (fun c : UInt8 => Value.int .u8 (c.toNat : Int)) (of8_hex hp1 hp2)) ?_
      refine wpl_tp (t_bsV (v8s [hexV (xs.getD (2 * k) 0) (xs.getD (2 * k + 1) 0)]) Tryd.underlying22 Tryd.ti5 rfl rfl zz15 zz15 rfl (v8s_one _)) rfl (fun b36 p36 => ?_)
      refine wpl_tp (t_apW Tryd.underlying22 Tryd.ti5 rfl zz15 rfl rfl (fun w h => zz1) (v8s_one _) zz0 zz0 (v8s (hxO xs (k + 1))) (by rw [hxO, v8s_append])) rfl (fun b37 p37 => ?_)
      refine wpl_q (q_pure rfl) rfl <| wpl_nil <| ex_block <| ex_then <| wpc_region <| wpl_q (q_pure rfl) rfl ?_
      refine wpl_q (q_addN (b := 2) rfl rfl zz0) rfl ?_
      refine wpl_q (q_pure rfl) rfl <| wpl_nil ?_
      refine ex_again ⟨(k + 1, b37), ⟨by show 2 * (k + 1) ≤ _; omega, p37, memD_2 hi2 hp1 hp2⟩⟩ ?_ ?_ ?_
      ·
       exact zz5
      ·
       exact fun w h => by
         dsimp only
         exact h.sel
      ·
       (show xs.length - 2 * (k + 1) < xs.length - 2 * k); omega
   ·
    simp only [decide_eq_false_iff_not] at hc12
    have hkl : xs.length = 2 * k ∨ xs.length = 2 * k + 1 := by omega
    refine wpc_exit ?_
    refine ex_then_exit ?_
    refine ex_then_exit ?_
    refine ex_block_hit ?_
    refine ex_then <| wpc_seq <| wpc_seq <| wpc_region <| wpl_q (q_pure rfl) rfl <| wpl_q (q_lenS Tryd.underlying9 rfl) rfl ?_
    refine wpl_q (q_remN (b := 2) rfl rfl zz10) rfl ?_
    refine wpl_q (q_pure rfl) rfl <| wpl_nil <| ex_then ?_
    refine wpc_cond rfl (fun hc41 => ?_) (fun hc41 => ?_)
    ·
     have hN : ¬ hxOk xs := hx_odd (by have q := hc41; simp only [bne_iff_ne, ne_eq] at q; omega)
     refine wpc_seq <| wpc_region <| wpl_q (q_pure rfl) rfl <| wpl_q (q_pure rfl) rfl <| wpl_nil <| ex_then <| wpc_ret ?_
     refine ex_then_ret ?_
     refine ret2 (.inl rfl) rfl rfl rfl ?_
     exact fun w1 h => ⟨(.slice none 0 0), by rw [(fh_no hN).1]; exact SV.nil, by rw [(fh_no hN).2], h.below, zz9⟩
    ·
     have hev : xs.length = 2 * k := by have q := hc41; simp only [bne_eq_false_iff_eq] at q; omega
     refine wpc_skip <| ex_then <| wpc_seq <| wpc_region <| wpl_q (q_pure rfl) rfl <| wpl_q (q_pure rfl) rfl <| wpl_q (q_pure rfl) rfl <| wpl_nil <| ex_then <| wpc_ret ?_
     refine ret2 (.inl rfl) rfl rfl rfl ?_
     obtain ⟨e1, e2⟩ := fh_yes (hx_yes hev hi2)
     exact fun w1 h => ⟨v, by rw [e1, hxO_len, show xs.length / 2 = k from zz6]; exact hi1, by rw [e2], h.below, by rw [e1, hxO_len, show xs.length / 2 = k from zz6]; exact h.made SubC.h .nil⟩
theorem refFromHex (xs : List UInt8) (w : World) (hxl : xs.length ≤ 100000)  :
    Calls Tryd.prog 21 [str xs].toArray w (GivesP w (fun v : Value => SV v (fhV xs).length) (fun v => .tuple #[v, .int .i64 (fhE xs)]) (fun v => [.row v (fhV xs).length 5 1 (v8s (fhV xs))]) (fun _ => [])) := by
  have lmx : xs.length ≤ maxLen := by unfold maxLen; omega
  simp only [maxLen] at lmx
  refine enter (m := 42) (R := Mem w [] [] []) Tryd.func21 rfl rfl (Nat.le_of_ble_eq_true rfl) (Mem.start w) ?_
  refine wpc_seq <| wpc_region <| wpl_q (q_pure rfl) rfl <| wpl_q (q_pure rfl) rfl <| wpl_nil <| ex_then <| wpc_seq <| wpc_region <| wpl_q (q_pure rfl) rfl <| wpl_nil <| ex_then <| wpc_seq ?_
  refine wpc_seq <| wpc_region <| wpl_q (q_pure rfl) rfl <| wpl_q (q_lenS Tryd.underlying9 rfl) rfl ?_
  refine wpl_q (q_remN (b := 2) rfl rfl zz10) rfl ?_
  refine wpl_q (q_pure rfl) rfl <| wpl_nil <| ex_then ?_
  refine wpc_cond rfl (fun hc11 => ?_) (fun hc11 => ?_)
  ·
   have hN : ¬ hxOk xs := hx_odd (by have q := hc11; first | (simp only [beq_iff_eq] at q; omega) | (simp at q; omega))
   refine wpc_seq <| wpc_region <| wpl_q (q_pure rfl) rfl <| wpl_q (q_pure rfl) rfl <| wpl_nil <| ex_then <| wpc_ret ?_
   refine ex_then_ret ?_
   refine ret2 (.inl rfl) rfl rfl rfl ?_
   exact fun w1 h => ⟨(.slice none 0 0), by rw [(fh_no hN).1]; exact SV.nil, by rw [(fh_no hN).2], h.below, zz9⟩
  ·
   have hev : xs.length % 2 = 0 := by have q := hc11; first | (simp only [beq_eq_false_iff_ne, ne_eq] at q; omega) | (simp at q; omega)
   refine wpc_skip <| ex_then <| wpc_seq <| wpc_seq <| wpc_region <| wpl_q (q_pure rfl) rfl <| wpl_nil <| ex_then <| wpc_block ?_
   refine wpc_loopc (ι := { x : Nat × Value // (2 * x.1 ≤ xs.length) ∧ (SV x.2 x.1) ∧ (∀ j, j < 2 * x.1 → xs.getD j 0 ∈ hexD) }) [(0, _)] (fun x Lc => (5, .int .i64 ((2 * x.1.1 : Nat) : Int)) :: (4, x.1.2) :: Lc) (fun x => Mem w [] [.row x.1.2 x.1.1 5 1 (v8s (hxO xs x.1.1))] []) (fun x => xs.length - 2 * x.1.1) ⟨(0, .slice none 0 0), ⟨Nat.zero_le _, SV.nil, fun j hj => absurd hj (Nat.not_lt_zero _)⟩⟩ zz5 ?_ ?_
   ·
    exact fun w h => h.nilRow 5 1
   ·
    rintro ⟨⟨k, v⟩, ⟨hi0, hi1, hi2⟩⟩; try dsimp only
    have hi0 : 2 * k ≤ xs.length := hi0; have hi1 : SV v k := hi1; have hi2 : ∀ j, j < 2 * k → xs.getD j 0 ∈ hexD := hi2
    refine wpc_seq <| wpc_seq <| wpc_region <| wpl_q (q_pure rfl) rfl <| wpl_q (q_pure rfl) rfl <| wpl_q (q_lenS Tryd.underlying9 rfl) rfl <| wpl_q (q_pure rfl) rfl <| wpl_nil <| ex_then ?_
    refine wpc_cond rfl (fun hc15 => ?_) (fun hc15 => ?_)
    ·
     simp only [decide_eq_true_eq] at hc15
     have hkl : 2 * k + 1 < xs.length := by omega
     refine wpc_skip <| ex_then <| wpc_seq <| wpc_block <| wpc_seq ?_
     refine wpc_draw 11 zz3 (fun _ h => h.drew) ?_
     refine wpd_p 0 rfl zz3 trivial (q_pure rfl) rfl sk0 ?_
     refine wpd_p 1 rfl zz3 trivial (q_pure rfl) rfl sk0 ?_
     refine wpd_p 2 rfl zz3 trivial (q_strIdx Tryd.underlying9 rfl rfl zz0) rfl sk0 ?_
     refine wpd_p 4 rfl zz3 trivial (q_pure rfl) rfl sk0 ?_
     refine wpd_p 5 rfl zz3 trivial (q_pure rfl) rfl sk0 ?_
     refine wpd_p 6 rfl zz3 trivial (q_addN (b := 1) rfl rfl zz0) rfl sk0 ?_
     refine wpd_p 7 rfl zz3 trivial (q_strIdx Tryd.underlying9 rfl rfl zz0) rfl sk0 ?_
     refine wpd_t 3 rfl zz3 trivial (t_pur Tryd.hb35 rfl fun w h => refPlaceB hexD (xs.getD (2 * k) 0) w zz15) rfl (fun _ => sk0) (fun b21 => ?_)
     refine wpd_t 8 rfl zz3 trivial (t_pur Tryd.hb35 rfl fun w h => refPlaceB hexD (xs.getD (2 * k + 1) 0) w zz15) rfl (fun _ => sk0) (fun b26 => ?_)
     refine wpd_p 9 rfl zz3 trivial (q_pure rfl) rfl sk0 ?_
     refine wpd_p 10 rfl zz3 trivial (q_pure rfl) rfl sk0 ?_
     refine wpd_done zz3 ?_
     refine ex_then <| wpc_seq <| wpc_seq <| wpc_region <| wpl_q (q_pure rfl) rfl <| wpl_q (q_pure rfl) rfl <| wpl_q (q_pure rfl) rfl ?_
     refine wpl_bool2 29 28 rfl rfl (fun hb29 => ?_) (fun hb29 => ?_)
     ·
      have hN : ¬ hxOk xs := hx_no (i := 2 * k) zz6 (plB_neg.1 (by first | (simp only [decide_eq_true_eq] at hb29; exact hb29) | exact hb29))
      refine wpl_off rfl rfl rfl rfl <| wpl_off rfl rfl rfl rfl <| wpl_q (q_pure rfl) rfl <| wpl_nil <| ex_then ?_
      refine wpc_cond_t rfl ?_
      refine wpc_seq <| wpc_region <| wpl_q (q_pure rfl) rfl <| wpl_q (q_pure rfl) rfl <| wpl_nil <| ex_then <| wpc_ret ?_
      refine ex_then_ret ?_
      refine ex_block_ret ?_
      refine ex_then_ret ?_
      refine ex_then_ret ?_
      refine ex_block_ret ?_
      refine ex_then_ret ?_
      refine ret2 (.inl rfl) rfl rfl rfl ?_
      exact fun w1 h => ⟨(.slice none 0 0), by rw [(fh_no hN).1]; exact SV.nil, by rw [(fh_no hN).2], h.below, zz9⟩
     ·
      have hp1 : xs.getD (2 * k) 0 ∈ hexD := Decidable.byContradiction fun e => absurd (plB_neg.2 e) (by first | (simp only [decide_eq_false_iff_not] at hb29; exact hb29) | exact hb29)
      refine wpl_on rfl rfl <| wpl_q (q_pure rfl) rfl <| wpl_on rfl rfl <| wpl_q (q_pure rfl) rfl <| wpl_q (q_pure rfl) rfl <| wpl_nil <| ex_then ?_
      refine wpc_cond rfl (fun hc32 => ?_) (fun hc32 => ?_)
      ·
       have hN : ¬ hxOk xs := by first | exact hx_no (i := 2 * k + 1) zz6 (plB_neg.1 (by first | (simp only [decide_eq_true_eq] at hc32; exact hc32) | exact hc32))
       refine wpc_seq <| wpc_region <| wpl_q (q_pure rfl) rfl <| wpl_q (q_pure rfl) rfl <| wpl_nil <| ex_then <| wpc_ret ?_
       refine ex_then_ret ?_
       refine ex_block_ret ?_
       refine ex_then_ret ?_
       refine ex_then_ret ?_
       refine ex_block_ret ?_
       refine ex_then_ret ?_
       refine ret2 (.inl rfl) rfl rfl rfl ?_
       exact fun w1 h => ⟨(.slice none 0 0), by rw [(fh_no hN).1]; exact SV.nil, by rw [(fh_no hN).2], h.below, zz9⟩
      ·
       have hp2 : xs.getD (2 * k + 1) 0 ∈ hexD := Decidable.byContradiction fun e => absurd (plB_neg.2 e) (by first | (simp only [decide_eq_false_iff_not] at hc32; exact hc32) | exact hc32)
       have hp1l := (mem_hexD hp1).1
       have hp2l := (mem_hexD hp2).1
       rw [plB_in hp1, plB_in hp2]
       refine wpc_skip <| ex_then <| wpc_region <| wpl_q (q_pure rfl) rfl <| wpl_q (q_pure rfl) rfl ?_
       refine wpl_q (q_mulN (a := 16) rfl rfl zz0) rfl ?_
       refine wpl_q (q_pure rfl) rfl ?_
       refine wpl_q (q_addN rfl rfl zz0) rfl ?_
       refine wpl_q (q8_conv Tryd.underlying3 Tryd.underlying5 rfl) rfl ?_
       refine wpl_re 38 rfl (congrArg (fun c : UInt8 => Value.int .u8 (c.toNat : Int)) (of8_hex2 hp1 hp2)) ?_
       refine wpl_tp (t_bsV (v8s [hexV (xs.getD (2 * k) 0) (xs.getD (2 * k + 1) 0)]) Tryd.underlying22 Tryd.ti5 rfl rfl zz15 zz15 rfl (v8s_one _)) rfl (fun b39 p39 => ?_)
       refine wpl_tp (t_apW Tryd.underlying22 Tryd.ti5 rfl zz15 rfl rfl (fun w h => zz1) (v8s_one _) zz0 zz0 (v8s (hxO xs (k + 1))) (by rw [hxO, v8s_append])) rfl (fun b40 p40 => ?_)
       refine wpl_q (q_pure rfl) rfl <| wpl_nil <| ex_block <| ex_then <| wpc_region <| wpl_q (q_pure rfl) rfl ?_
       refine wpl_q (q_addN (b := 2) rfl rfl zz0) rfl ?_
       refine wpl_q (q_pure rfl) rfl <| wpl_nil ?_
       refine ex_again ⟨(k + 1, b40), ⟨by show 2 * (k + 1) ≤ _; omega, p40, memD_2 hi2 hp1 hp2⟩⟩ ?_ ?_ ?_
       ·
        exact zz5
       ·
        exact fun w h => by
          dsimp only
          exact h.sel
       ·
        (show xs.length - 2 * (k + 1) < xs.length - 2 * k); omega
    ·
     simp only [decide_eq_false_iff_not] at hc15
     have hkl : xs.length = 2 * k := by omega
     refine wpc_exit ?_
     refine ex_then_exit ?_
     refine ex_then_exit ?_
     refine ex_block_hit ?_
     refine ex_then <| wpc_seq <| wpc_region <| wpl_q (q_pure rfl) rfl <| wpl_q (q_pure rfl) rfl <| wpl_q (q_pure rfl) rfl <| wpl_nil <| ex_then <| wpc_ret ?_
     refine ret2 (.inl rfl) rfl rfl rfl ?_
     obtain ⟨e1, e2⟩ := fh_yes (hx_yes hkl hi2)
     exact fun w1 h => ⟨v, by rw [e1, hxO_len, show xs.length / 2 = k from zz6]; exact hi1, by rw [e2], h.below, by rw [e1, hxO_len, show xs.length / 2 = k from zz6]; exact h.made SubC.h .nil⟩
end Go.Proofs.YtlapmdiabhlbmaaDoor
namespace Go.Proofs.YtlapmdiabhlbmaaDoor
open Go Go.PL Go.RowKit
theorem xv_or {a k : Nat} (hk : k < 64) : (a * 2 ^ 6 &&& 16777215) ||| k = (a * 64) % 16777216 + k := by
  have e1 : a * 2 ^ 6 &&& 16777215 = (a * 2 ^ 6) % 2 ^ 24 := Nat.and_two_pow_sub_one_eq_mod _ 24
  have e2 := Nat.two_pow_add_eq_or_of_lt (b := k) (i := 6) zz6 (a % 262144)
  rw [e1, show (a * 2 ^ 6) % 2 ^ 24 = 2 ^ 6 * (a % 262144) from zz6, ← e2]
theorem outB_le (p : List UInt8) : ∀ i, (outB p i).length ≤ i
  | 0 => Nat.le_refl _
  | i + 1 => by
    have := outB_le p i
    unfold outB
    split
    · rw [List.length_append]; show _ + 1 ≤ _; omega
    · omega
theorem plain_le (s : List UInt8) : (plainS s).length ≤ s.length := by
  unfold plainS Go.Lib.trimRightB
  rw [List.length_reverse]
  have := (List.dropWhile_sublist (· == (61 : UInt8)) (l := s.reverse)).length_le
  rwa [List.length_reverse] at this
theorem of8_out {n : Nat} : of8 ((n : Nat) : Int) = UInt8.ofNat n := UInt8.toNat_inj.1 (by rw [of8, UInt8.toNat_ofNat', UInt8.toNat_ofNat']; omega)
theorem fb_no4 {s : List UInt8} (h : s.length % 4 ≠ 0) : ¬ fbOk s := fun k => h k.1
theorem fb_noc {s : List UInt8} {i : Nat} (hi : i < (plainS s).length) (h : (plainS s).getD i 0 ∉ b64A) : ¬ fbOk s := fun k => h (k.2.1 _ (mem_getD hi))
theorem fb_nob {s : List UInt8} (h : base64F (outB (plainS s) (plainS s).length) ≠ s) : ¬ fbOk s := fun k => h k.2.2
theorem fb_no {s : List UInt8} (h : ¬ fbOk s) : fbV s = [] ∧ fbE s = 12 := ⟨if_neg h, if_neg h⟩
theorem fb_yes {s : List UInt8} (h : fbOk s) : fbV s = outB (plainS s) (plainS s).length ∧ fbE s = 0 := ⟨if_pos h, if_pos h⟩
theorem fb_mk {s : List UInt8} (h0 : s.length % 4 = 0) (h1 : ∀ j, j < (plainS s).length → (plainS s).getD j 0 ∈ b64A) (h2 : base64F (outB (plainS s) (plainS s).length) = s) : fbOk s := ⟨h0, fun c hc => by
  obtain ⟨i, hi, rfl⟩ := List.mem_iff_getElem.1 hc
  have q := h1 i hi
  rw [List.getD_eq_getElem?_getD, List.getElem?_eq_getElem hi] at q
  exact q, h2⟩
theorem outB_S {p : List UInt8} {i : Nat} (h : 0 < i % 4) : outB p (i + 1) = outB p i ++ [UInt8.ofNat (xv p (i + 1) / 2 ^ (6 * (i % 4 + 1) % 8))] := by rw [outB, if_pos h]
theorem outB_0 {p : List UInt8} {i : Nat} (h : ¬ 0 < i % 4) : outB p (i + 1) = outB p i := by rw [outB, if_neg h]
theorem fromBase64 (xs : List UInt8) (w : World) (hxl : xs.length ≤ 100000)  :
    Calls Tryd.prog 22 [str xs].toArray w (GivesP w (fun v : Value => SV v (fbV xs).length) (fun v => .tuple #[v, .int .i64 (fbE xs)]) (fun v => [.row v (fbV xs).length 5 1 (v8s (fbV xs))]) (fun _ => [])) := by
  have lmx : xs.length ≤ maxLen := by unfold maxLen; omega
  simp only [maxLen] at lmx
  refine enter (m := 53) (R := Mem w [] [] []) Tryd.func22 rfl rfl (Nat.le_of_ble_eq_true rfl) (Mem.start w) ?_
  refine wpc_seq <| wpc_region <| wpl_q (q_pure rfl) rfl <| wpl_q (q_pure rfl) rfl <| wpl_nil <| ex_then <| wpc_seq <| wpc_seq <| wpc_region <| wpl_q (q_pure rfl) rfl <| wpl_q (q_lenS Tryd.underlying9 rfl) rfl ?_
  refine wpl_q (q_remN (b := 4) rfl rfl zz10) rfl ?_
  refine wpl_q (q_pure rfl) rfl <| wpl_nil <| ex_then ?_
  refine wpc_cond rfl (fun hc14 => ?_) (fun hc14 => ?_)
  ·
   have hN : ¬ fbOk xs := fb_no4 (by have q := hc14; simp only [bne_iff_ne, ne_eq] at q; omega)
   refine wpc_seq <| wpc_region <| wpl_q (q_pure rfl) rfl <| wpl_q (q_pure rfl) rfl <| wpl_nil <| ex_then <| wpc_ret ?_
   refine ex_then_ret ?_
   refine ret2 (.inl rfl) rfl rfl rfl ?_
   exact fun w1 h => ⟨(.slice none 0 0), zz12, by rw [(fb_no hN).2], h.below, zz8⟩
  ·
   have h40 : xs.length % 4 = 0 := by have q := hc14; simp only [bne_eq_false_iff_eq] at q; omega
   refine wpc_skip <| ex_then <| wpc_seq <| wpc_region ?_
   refine wpl_t (t_alloc Tryd.ti71 [.slice none 0 0, .int .i64 0, .int .i8 0] rfl) rfl (fun b4 => ?_)
   refine wpl_nil <| ex_then <| wpc_seq <| wpc_region <| wpl_q (q_pure rfl) rfl ?_
   refine wpl_t (t_pur Tryd.hb36 rfl fun w h => trimR xs w (by unfold maxLen; omega)) rfl (fun b16 => ?_)
   have hpl := plain_le xs
   refine wpl_q (q_pure rfl) rfl <| wpl_nil <| ex_then <| wpc_seq <| wpc_region <| wpl_q (q_pure rfl) rfl <| wpl_nil <| ex_then <| wpc_seq <| wpc_seq <| wpc_region <| wpl_q (q_pure rfl) rfl ?_
   refine wpl_q (q_lenS Tryd.underlying9 rfl) rfl <| wpl_q (q_pure rfl) rfl <| wpl_nil <| ex_then <| wpc_block ?_
   refine wpc_loopc (ι := { x : Nat × Value × Int // (x.1 ≤ (plainS xs).length) ∧ (SV x.2.1 (outB (plainS xs) x.1).length) ∧ (∀ j, j < x.1 → (plainS xs).getD j 0 ∈ b64A) ∧ (xv (plainS xs) x.1 < 16777216) }) [(0, _), (4, _), (5, _), (18, _)] (fun x Lc => (19, .int .i64 ((x.1.1 : Nat) : Int)) :: (6, .int .i64 ((xv (plainS xs) x.1.1 : Nat) : Int)) :: Lc) (fun x => Mem w [] (bufE b4 x.1.2.1 x.1.2.2 (outB (plainS xs) x.1.1) (outB (plainS xs) x.1.1).length) []) (fun x => (plainS xs).length - x.1.1) ⟨(0, .slice none 0 0, 0), ⟨Nat.zero_le _, SV.nil, fun j hj => absurd hj (Nat.not_lt_zero _), Nat.zero_lt_succ _⟩⟩ zz5 ?_ ?_
   ·
    exact fun w1 h => (show Mem w [] [.blk b4 71 [.slice none 0 0, .int .i64 0, .int .i8 0], .row (.slice none 0 0) 0 5 1 []] [] w1 from (h.nilRow 5 1).sel)
   ·
    rintro ⟨⟨i, v, lr⟩, ⟨hi0, hi1, hi2, hi3⟩⟩; try dsimp only
    have hi0 : i ≤ (plainS xs).length := hi0; have hi1 : SV v (outB (plainS xs) i).length := hi1; have hi2 : ∀ j, j < i → (plainS xs).getD j 0 ∈ b64A := hi2; have hi3 : xv (plainS xs) i < 16777216 := hi3
    have hol := outB_le (plainS xs) i
    refine wpc_seq <| wpc_region <| wpl_q (q_pure rfl) rfl <| wpl_nil <| ex_then <| wpc_seq ?_
    refine wpc_cond rfl (fun hc20 => ?_) (fun hc20 => ?_)
    ·
     simp only [decide_eq_true_eq] at hc20
     have hil : i < (plainS xs).length := by omega
     refine wpc_skip <| ex_then <| wpc_seq <| wpc_block <| wpc_seq <| wpc_region <| wpl_q (q_pure rfl) rfl <| wpl_q (q_pure rfl) rfl <| wpl_nil <| ex_then <| wpc_seq <| wpc_region ?_
     refine wpl_q (q_pure rfl) rfl <| wpl_q (q_pure rfl) rfl ?_
     refine wpl_q (q_strIdx Tryd.underlying9 rfl rfl zz0) rfl ?_
     refine wpl_t (t_pur Tryd.hb34 rfl fun w h => indexB b64A ((plainS xs).getD i 0) w) rfl (fun b25 => ?_)
     refine wpl_q (q_pure rfl) rfl <| wpl_nil <| ex_then <| wpc_seq <| wpc_seq <| wpc_region <| wpl_q (q_pure rfl) rfl <| wpl_q (q_pure rfl) rfl <| wpl_nil <| ex_then ?_
     refine wpc_cond rfl (fun hc27 => ?_) (fun hc27 => ?_)
     ·
      have hN : ¬ fbOk xs := fb_noc hil (plB_neg.1 (by first | (simp only [decide_eq_true_eq] at hc27; exact hc27) | exact hc27))
      refine wpc_seq <| wpc_region <| wpl_q (q_pure rfl) rfl <| wpl_q (q_pure rfl) rfl <| wpl_nil <| ex_then <| wpc_ret ?_
      refine ex_then_ret ?_
      refine ex_block_ret ?_
      refine ex_then_ret ?_
      refine ex_then_ret ?_
      refine ex_block_ret ?_
      refine ex_then_ret ?_
      refine ret2 (.inl rfl) rfl rfl rfl ?_
      exact fun w1 h => ⟨(.slice none 0 0), zz12, by rw [(fb_no hN).2], h.below, zz8⟩
     ·
      have hpm : (plainS xs).getD i 0 ∈ b64A := Decidable.byContradiction fun e => absurd (plB_neg.2 e) (by first | (simp only [decide_eq_false_iff_not] at hc27; exact hc27) | exact hc27)
      have hpi := (b64A_mem hpm).1
      rw [plB_in hpm]
      have hxe : xv (plainS xs) (i + 1) = (xv (plainS xs) i * 64) % 16777216 + b64A.idxOf ((plainS xs).getD i 0) := rfl
      have hxn : xv (plainS xs) (i + 1) < 16777216 := by omega
      have hx6 : xv (plainS xs) i * 2 ^ 6 &&& 16777215 < 16777216 := by rw [show xv (plainS xs) i * 2 ^ 6 &&& 16777215 = (xv (plainS xs) i * 2 ^ 6) % 2 ^ 24 from Nat.and_two_pow_sub_one_eq_mod _ 24]; omega
      refine wpc_skip <| ex_then <| wpc_seq <| wpc_region <| wpl_q (q_pure rfl) rfl ?_
      refine wpl_q (q_shlN (b := 6) rfl rfl zz10 zz0) rfl ?_
      refine wpl_q (q_andN (b := 16777215) rfl rfl zz0 zz0) rfl ?_
      refine wpl_q (q_pure rfl) rfl ?_
      refine wpl_q (q_orN rfl rfl zz0 zz0) rfl ?_
      refine wpl_re 32 rfl (congrArg (fun n : Nat => Value.int .i64 (n : Int)) (show (xv (plainS xs) i * 2 ^ 6 &&& 16777215) ||| b64A.idxOf ((plainS xs).getD i 0) = xv (plainS xs) (i + 1) from (xv_or hpi).trans hxe.symm)) ?_
      refine wpl_q (q_pure rfl) rfl <| wpl_nil <| ex_then <| wpc_seq <| wpc_region <| wpl_q (q_pure rfl) rfl ?_
      refine wpl_q (q_remN (b := 4) rfl rfl zz10) rfl ?_
      refine wpl_q (q_addN (b := 1) rfl rfl zz0) rfl ?_
      refine wpl_q (q_mulN (a := 6) rfl rfl zz0) rfl ?_
      refine wpl_q (q_pure rfl) rfl <| wpl_nil <| ex_then <| wpc_seq <| wpc_region <| wpl_q (q_pure rfl) rfl ?_
      refine wpl_q (q_remN (b := 4) rfl rfl zz10) rfl ?_
      refine wpl_q (q_pure rfl) rfl <| wpl_nil <| ex_then ?_
      refine wpc_cond rfl (fun hc39 => ?_) (fun hc39 => ?_)
      ·
       have hm4 : 0 < i % 4 := by simp only [decide_eq_true_eq, gt_iff_lt] at hc39; omega
       refine wpc_region <| wpl_q (q_pure rfl) rfl <| wpl_q (q_pure rfl) rfl ?_
       refine wpl_q (q_remN (b := 8) rfl rfl zz10) rfl ?_
       refine wpl_q (q_shrN rfl rfl zz10) rfl ?_
       refine wpl_q (q8_conv Tryd.underlying3 Tryd.underlying5 rfl) rfl ?_
       refine wpl_re 44 rfl (congrArg (fun c : UInt8 => Value.int .u8 (c.toNat : Int)) of8_out) ?_
       refine wpl_tp (t_callB Tryd.hb37 rfl fun w h => bufWrite b4 (outB (plainS xs) i).length v lr (outB (plainS xs) i) _ w rfl h zz6) rfl (fun b45 p45 => ?_)
       refine wpl_nil <| ex_block <| ex_then <| wpc_region ?_
       refine wpl_q (q_addN (b := 1) rfl rfl zz0) rfl ?_
       refine wpl_q (q_pure rfl) rfl <| wpl_nil ?_
       refine ex_again ⟨(i + 1, b45.1, b45.2), ⟨by show i + 1 ≤ _; omega, (by first | (dsimp only; rw [outB_S hm4, List.length_append]; exact p45) | (dsimp only; rw [outB_0 hm4]; exact hi1)), fun j hj => by
         rcases Nat.lt_or_ge j i with h | h
         · exact hi2 j h
         · obtain rfl : j = i := (by have hj : j < i + 1 := hj; omega)
           exact hpm, hxn⟩⟩ ?_ ?_ ?_
       ·
        exact zz5
       ·
        exact fun w h => by
          dsimp only
          first | (rw [outB_S hm4, List.length_append]; exact h) | (rw [outB_0 hm4]; exact h)
       ·
        (show (plainS xs).length - (i + 1) < (plainS xs).length - i); omega
      ·
       have hm4 : ¬ 0 < i % 4 := by simp only [decide_eq_false_iff_not, gt_iff_lt] at hc39; omega
       refine wpc_skip <| ex_block <| ex_then <| wpc_region ?_
       refine wpl_q (q_addN (b := 1) rfl rfl zz0) rfl ?_
       refine wpl_q (q_pure rfl) rfl <| wpl_nil ?_
       refine ex_again ⟨(i + 1, v, lr), ⟨by show i + 1 ≤ _; omega, (by first | (dsimp only; rw [outB_S hm4, List.length_append]; exact p45) | (dsimp only; rw [outB_0 hm4]; exact hi1)), fun j hj => by
         rcases Nat.lt_or_ge j i with h | h
         · exact hi2 j h
         · obtain rfl : j = i := (by have hj : j < i + 1 := hj; omega)
           exact hpm, hxn⟩⟩ ?_ ?_ ?_
       ·
        exact zz5
       ·
        exact fun w h => by
          dsimp only
          first | (rw [outB_S hm4, List.length_append]; exact h) | (rw [outB_0 hm4]; exact h)
       ·
        (show (plainS xs).length - (i + 1) < (plainS xs).length - i); omega
    ·
     simp only [decide_eq_false_iff_not] at hc20
     obtain rfl : i = (plainS xs).length := by omega
     refine wpc_exit ?_
     refine ex_then_exit ?_
     refine ex_then_exit ?_
     refine ex_block_hit ?_
     refine ex_then <| wpc_seq <| wpc_seq <| wpc_region ?_
     refine wpl_tp (t_callB Tryd.hb38 rfl fun w h => bufBytes b4 _ v lr (outB (plainS xs) (plainS xs).length) w rfl h) rfl (fun b47 p47 => ?_)
     refine wpl_q (q_pure rfl) rfl <| wpl_nil <| ex_then <| wpc_seq <| wpc_region <| wpl_q (q_pure rfl) rfl ?_
     refine wpl_t (t_pur Tryd.hb19 rfl fun w h => base64 b47 (outB (plainS xs) (plainS xs).length) w (h.seen_row zz11) zz6) rfl (fun b49 => ?_)
     refine wpl_q (q_pure rfl) rfl ?_
     refine wpl_q (q_strEq Tryd.underlying9 rfl rfl zz3) rfl ?_
     refine wpl_nil <| ex_then ?_
     refine wpc_cond rfl (fun hc51 => ?_) (fun hc51 => ?_)
     ·
      have hE : base64F (outB (plainS xs) (plainS xs).length) = xs := by first | exact of_decide_eq_true hc51 | (simpa using hc51)
      refine wpc_seq <| wpc_region <| wpl_q (q_pure rfl) rfl <| wpl_q (q_pure rfl) rfl <| wpl_q (q_pure rfl) rfl <| wpl_nil <| ex_then <| wpc_ret ?_
      refine ex_then_ret ?_
      refine ret2 (.inl rfl) rfl rfl rfl ?_
      obtain ⟨e1, e2⟩ := fb_yes (fb_mk h40 hi2 hE)
      exact fun w1 h => ⟨b47, by rw [e1]; exact p47, by rw [e2], h.below, by rw [e1]; exact h.made SubC.h .nil⟩
     ·
      have hN : ¬ fbOk xs := fb_nob (by first | exact of_decide_eq_false hc51 | (simpa using hc51))
      refine wpc_skip <| ex_then <| wpc_seq <| wpc_region <| wpl_q (q_pure rfl) rfl <| wpl_q (q_pure rfl) rfl <| wpl_nil <| ex_then <| wpc_ret ?_
      refine ret2 (.inl rfl) rfl rfl rfl ?_
      exact fun w1 h => ⟨(.slice none 0 0), zz12, by rw [(fb_no hN).2], h.below, zz8⟩
end Go.Proofs.YtlapmdiabhlbmaaDoor
namespace Go.Proofs.YtlapmdiabhlbmaaDoor
open Go Go.PL Go.RowKit
set_option maxHeartbeats 1000000
theorem fbN {s : List UInt8} {g : Nat} (hl : 4 * g + 4 ≤ s.length) (h : fbR s (g + 1) = none) : ¬ fbOk s := fbR_none (.inr (fbR_no h (s.length / 4) zz6))
theorem gr_bad {s : List UInt8} {i j n p : Nat} (h : grN s i j = some (n, p)) (h1 : ¬ (s.getD (i + j) 0 = 61 ∧ 1 < j ∧ i + 4 = s.length)) (h2 : 0 < p ∨ s.getD (i + j) 0 ∉ b64A) (hj : j < 4) : grB s i = none := grB_no (grN_no (by rw [grN_S h, if_neg h1, if_pos h2]) 4 zz6)
theorem gr_in2 {s : List UInt8} {i j n p : Nat} (h : grN s i j = some (n, p)) (h1 : ¬ (s.getD (i + j) 0 = 61 ∧ 1 < j ∧ i + 4 = s.length)) (h2 : ¬ 0 < p) (h3 : s.getD (i + j) 0 ∈ b64A) : grN s i (j + 1) = some (n * 64 + b64A.idxOf (s.getD (i + j) 0), p) := by
  rw [grN_S h, if_neg h1, if_neg (fun e => e.elim h2 (fun e => e h3))]
theorem gr_pad {s : List UInt8} {i j n p : Nat} (h : grN s i j = some (n, p)) (h1 : s.getD (i + j) 0 = 61 ∧ 1 < j ∧ i + 4 = s.length) : grN s i (j + 1) = some (n * 64 + 0, p + 1) := by
  rw [grN_S h, if_pos h1]; rfl
theorem fbS_no {s b : List UInt8} {g : Nat} (h : fbR s g = some b) (h2 : grB s (4 * g) = none) : fbR s (g + 1) = none := by rw [fbR_S h, h2]
theorem fbS_ok {s b x : List UInt8} {g : Nat} (h : fbR s g = some b) (h2 : grB s (4 * g) = some x) : fbR s (g + 1) = some (b ++ x) := by rw [fbR_S h, h2]
theorem gr_bnd {s : List UInt8} {i j n p : Nat} (h : grN s i j = some (n, p)) (hj : j ≤ 4) : n < 16777216 ∧ p ≤ 2 := by
  have q := grN_lt h
  have e : (64 : Nat) ^ j ≤ 64 ^ 4 := Nat.pow_le_pow_right zz15 hj
  have e2 : (64 : Nat) ^ 4 = 16777216 := by decide
  omega
theorem thr_len (n : Nat) : (thr n).length = 3 := rfl
theorem refFromBase64 (xs : List UInt8) (w : World) (hxl : xs.length ≤ 100000)  :
    Calls Tryd.prog 23 [str xs].toArray w (GivesP w (fun v : Value => SV v (fbV xs).length) (fun v => .tuple #[v, .int .i64 (fbE xs)]) (fun v => [.row v (fbV xs).length 5 1 (v8s (fbV xs))]) (fun _ => [])) := by
  have lmx : xs.length ≤ maxLen := by unfold maxLen; omega
  simp only [maxLen] at lmx
  refine enter (m := 88) (R := Mem w [] [] []) Tryd.func23 rfl rfl (Nat.le_of_ble_eq_true rfl) (Mem.start w) ?_
  refine wpc_seq <| wpc_region <| wpl_q (q_pure rfl) rfl <| wpl_q (q_pure rfl) rfl <| wpl_nil <| ex_then <| wpc_seq <| wpc_region <| wpl_q (q_pure rfl) rfl <| wpl_nil <| ex_then <| wpc_seq ?_
  refine wpc_seq <| wpc_region <| wpl_q (q_pure rfl) rfl <| wpl_q (q_lenS Tryd.underlying9 rfl) rfl ?_
  refine wpl_q (q_remN (b := 4) rfl rfl zz10) rfl ?_
  refine wpl_q (q_pure rfl) rfl <| wpl_nil <| ex_then ?_
  refine wpc_cond rfl (fun hc15 => ?_) (fun hc15 => ?_)
  ·
   have hN : ¬ fbOk xs := fb_no4 (by have q := hc15; simp only [bne_iff_ne, ne_eq] at q; omega)
   refine wpc_seq <| wpc_region <| wpl_q (q_pure rfl) rfl <| wpl_q (q_pure rfl) rfl <| wpl_nil <| ex_then <| wpc_ret ?_
   refine ex_then_ret ?_
   refine ret2 (.inl rfl) rfl rfl rfl ?_
   exact fun w1 h => ⟨(.slice none 0 0), zz12, by rw [(fb_no hN).2], h.below, zz8⟩
  ·
   have h40 : xs.length % 4 = 0 := by have q := hc15; simp only [bne_eq_false_iff_eq] at q; omega
   refine wpc_skip <| ex_then <| wpc_seq <| wpc_seq <| wpc_region <| wpl_q (q_pure rfl) rfl <| wpl_nil <| ex_then <| wpc_block ?_
   refine wpc_loopc (ι := { x : Nat × Value × List UInt8 // (4 * x.1 ≤ xs.length) ∧ (SV x.2.1 x.2.2.length) ∧ (fbR xs x.1 = some x.2.2) ∧ (x.2.2.length ≤ 3 * x.1) }) [(0, _)] (fun x Lc => (5, .int .i64 ((4 * x.1.1 : Nat) : Int)) :: (4, x.1.2.1) :: Lc) (fun x => Mem w [] [.row x.1.2.1 x.1.2.2.length 5 1 (v8s x.1.2.2)] []) (fun x => xs.length - 4 * x.1.1) ⟨(0, .slice none 0 0, []), ⟨Nat.zero_le _, SV.nil, rfl, Nat.le_refl _⟩⟩ zz5 ?_ ?_
   ·
    exact fun w h => h.nilRow 5 1
   ·
    rintro ⟨⟨g, v, out⟩, ⟨hi0, hi1, hi2, hi3⟩⟩; try dsimp only
    have hi0 : 4 * g ≤ xs.length := hi0; have hi1 : SV v out.length := hi1; have hi2 : fbR xs g = some out := hi2; have hi3 : out.length ≤ 3 * g := hi3
    refine wpc_seq <| wpc_seq <| wpc_region <| wpl_q (q_pure rfl) rfl <| wpl_q (q_pure rfl) rfl <| wpl_q (q_lenS Tryd.underlying9 rfl) rfl <| wpl_q (q_pure rfl) rfl <| wpl_nil <| ex_then ?_
    refine wpc_cond rfl (fun hc19 => ?_) (fun hc19 => ?_)
    ·
     simp only [decide_eq_true_eq] at hc19
     have hgl : 4 * g + 4 ≤ xs.length := by omega
     have hfb := hi2
     have hol := hi3
     have hsv := hi1
     refine wpc_skip <| ex_then <| wpc_seq <| wpc_block <| wpc_seq <| wpc_region <| wpl_q (q_pure rfl) rfl <| wpl_q (q_pure rfl) rfl <| wpl_nil <| ex_then <| wpc_seq <| wpc_seq ?_
     refine wpc_region <| wpl_q (q_pure rfl) rfl <| wpl_nil <| ex_then <| wpc_block ?_
     refine wpc_loopc (ι := { x : Nat × Nat × Nat // (x.1 ≤ 4) ∧ (grN xs (4 * g) x.1 = some (x.2.1, x.2.2)) }) [(0, _), (4, _), (5, _)] (fun x Lc => (8, .int .i64 ((x.1.1 : Nat) : Int)) :: (6, .int .i64 ((x.1.2.1 : Nat) : Int)) :: (7, .int .i64 ((x.1.2.2 : Nat) : Int)) :: Lc) (fun x => Mem w [] [.row v out.length 5 1 (v8s out)] []) (fun x => 4 - x.1.1) ⟨(0, 0, 0), ⟨Nat.zero_le _, rfl⟩⟩ zz5 ?_ ?_
     ·
      exact fun w h => h
     ·
      rintro ⟨⟨j, n, p⟩, ⟨hi0, hi1⟩⟩; try dsimp only
      have hi0 : j ≤ 4 := hi0; have hi1 : grN xs (4 * g) j = some (n, p) := hi1
      obtain ⟨hnb, hpb⟩ := gr_bnd hi1 hi0
      refine wpc_seq <| wpc_seq <| wpc_region <| wpl_q (q_pure rfl) rfl <| wpl_q (q_pure rfl) rfl <| wpl_nil <| ex_then ?_
      refine wpc_cond rfl (fun hc23 => ?_) (fun hc23 => ?_)
      ·
       simp only [decide_eq_true_eq] at hc23
       have hj4 : j < 4 := by omega
       refine wpc_skip <| ex_then <| wpc_seq <| wpc_block <| wpc_seq <| wpc_region <| wpl_q (q_pure rfl) rfl <| wpl_q (q_pure rfl) rfl <| wpl_q (q_pure rfl) rfl ?_
       refine wpl_q (q_addN rfl rfl zz0) rfl ?_
       refine wpl_q (q_strIdx Tryd.underlying9 rfl rfl zz0) rfl ?_
       refine wpl_t (t_pur Tryd.hb35 rfl fun w h => refPlaceB b64A (xs.getD (4 * g + j) 0) w zz15) rfl (fun b31 => ?_)
       refine wpl_q (q_pure rfl) rfl <| wpl_nil <| ex_then <| wpc_seq <| wpc_seq <| wpc_region <| wpl_q (q_pure rfl) rfl <| wpl_q (q_pure rfl) rfl <| wpl_q (q_pure rfl) rfl ?_
       refine wpl_q (q_addN rfl rfl zz0) rfl ?_
       refine wpl_q (q_strIdx Tryd.underlying9 rfl rfl zz0) rfl ?_
       refine wpl_q (q8_eql (b := (61 : UInt8)) rfl rfl) rfl ?_
       refine wpl_q (q_pure rfl) rfl ?_
       refine wpl_bool2 38 37 rfl rfl (fun hb38 => ?_) (fun hb38 => ?_)
       ·
        have h61 : (xs.getD (4 * g + j) 0) = 61 := by first | exact of_decide_eq_true hb38 | (simpa using hb38)
        refine wpl_on rfl rfl <| wpl_q (q_pure rfl) rfl <| wpl_on rfl rfl <| wpl_q (q_pure rfl) rfl <| wpl_q (q_pure rfl) rfl <| wpl_q (q_pure rfl) rfl ?_
        refine wpl_bool2 42 40 rfl rfl (fun hb42 => ?_) (fun hb42 => ?_)
        ·
         have hj1 : 1 < j := by first | (have q := of_decide_eq_true hb42; omega) | omega
         refine wpl_on rfl rfl <| wpl_q (q_pure rfl) rfl <| wpl_on rfl rfl ?_
         refine wpl_q (q_addN (b := 4) rfl rfl zz0) rfl ?_
         refine wpl_on rfl rfl <| wpl_q (q_pure rfl) rfl <| wpl_on rfl rfl <| wpl_q (q_lenS Tryd.underlying9 rfl) rfl <| wpl_on rfl rfl <| wpl_q (q_pure rfl) rfl <| wpl_q (q_pure rfl) rfl <| wpl_nil <| ex_then ?_
         refine wpc_cond rfl (fun hc48 => ?_) (fun hc48 => ?_)
         ·
          have hcd : ((xs.getD (4 * g + j) 0) = 61 ∧ 1 < j ∧ 4 * g + 4 = xs.length) := ⟨h61, hj1, by have q := hc48; rw [beq_iff_eq] at q; omega⟩
          have hgn := gr_pad hi1 hcd
          refine wpc_seq <| wpc_region <| wpl_q (q_pure rfl) rfl ?_
          refine wpl_q (q_addN (b := 1) rfl rfl zz0) rfl ?_
          refine wpl_q (q_pure rfl) rfl <| wpl_nil <| ex_then <| wpc_region <| wpl_q (q_pure rfl) rfl <| wpl_nil <| ex_then <| wpc_region <| wpl_q (q_pure rfl) rfl ?_
          refine wpl_q (q_mulN (b := 64) rfl rfl zz0) rfl ?_
          refine wpl_q (q_pure rfl) rfl ?_
          refine wpl_q (q_addN rfl rfl zz0) rfl ?_
          refine wpl_q (q_pure rfl) rfl <| wpl_nil <| ex_block <| ex_then <| wpc_region <| wpl_q (q_pure rfl) rfl ?_
          refine wpl_q (q_addN (b := 1) rfl rfl zz0) rfl ?_
          refine wpl_q (q_pure rfl) rfl <| wpl_nil ?_
          refine ex_again ⟨(j + 1, n * 64 + 0, p + 1), ⟨by show j + 1 ≤ 4; omega, hgn⟩⟩ ?_ ?_ ?_
          ·
           exact zz5
          ·
           exact fun w h => h
          ·
           (show 4 - (j + 1) < 4 - j); omega
         ·
          have hcd : ¬ ((xs.getD (4 * g + j) 0) = 61 ∧ 1 < j ∧ 4 * g + 4 = xs.length) := fun q => (by have z := hc48; rw [beq_eq_false_iff_ne] at z; omega : ¬ 4 * g + 4 = xs.length) q.2.2
          refine wpc_seq <| wpc_region <| wpl_q (q_pure rfl) rfl <| wpl_q (q_pure rfl) rfl <| wpl_q (q_pure rfl) rfl ?_
          refine wpl_bool2 53 52 rfl rfl (fun hb53 => ?_) (fun hb53 => ?_)
          ·
           have hN : ¬ fbOk xs := fbN hgl (fbS_no hfb (gr_bad hi1 hcd (.inl (by first | (have q := of_decide_eq_true hb53; omega) | omega)) hj4))
           refine wpl_off rfl rfl rfl rfl <| wpl_off rfl rfl rfl rfl <| wpl_q (q_pure rfl) rfl <| wpl_nil <| ex_then ?_
           refine wpc_cond_t rfl ?_
           refine wpc_seq <| wpc_region <| wpl_q (q_pure rfl) rfl <| wpl_q (q_pure rfl) rfl <| wpl_nil <| ex_then <| wpc_ret ?_
           refine ex_then_ret ?_
           refine ex_block_ret ?_
           refine ex_then_ret ?_
           refine ex_then_ret ?_
           refine ex_block_ret ?_
           refine ex_then_ret ?_
           refine ex_block_ret ?_
           refine ex_then_ret ?_
           refine ex_then_ret ?_
           refine ex_block_ret ?_
           refine ex_then_ret ?_
           refine ret2 (.inl rfl) rfl rfl rfl ?_
           exact fun w1 h => ⟨(.slice none 0 0), zz12, by rw [(fb_no hN).2], h.below, zz8⟩
          ·
           have hp0 : ¬ 0 < p := by first | (have q := of_decide_eq_false hb53; omega) | omega
           refine wpl_on rfl rfl <| wpl_q (q_pure rfl) rfl <| wpl_on rfl rfl <| wpl_q (q_pure rfl) rfl <| wpl_q (q_pure rfl) rfl <| wpl_nil <| ex_then ?_
           refine wpc_cond rfl (fun hc56 => ?_) (fun hc56 => ?_)
           ·
            have hN : ¬ fbOk xs := fbN hgl (fbS_no hfb (gr_bad hi1 hcd (.inr (plB_neg.1 (by first | (simp only [decide_eq_true_eq] at hc56; exact hc56) | exact hc56))) hj4))
            refine wpc_seq <| wpc_region <| wpl_q (q_pure rfl) rfl <| wpl_q (q_pure rfl) rfl <| wpl_nil <| ex_then <| wpc_ret ?_
            refine ex_then_ret ?_
            refine ex_block_ret ?_
            refine ex_then_ret ?_
            refine ex_then_ret ?_
            refine ex_block_ret ?_
            refine ex_then_ret ?_
            refine ex_block_ret ?_
            refine ex_then_ret ?_
            refine ex_then_ret ?_
            refine ex_block_ret ?_
            refine ex_then_ret ?_
            refine ret2 (.inl rfl) rfl rfl rfl ?_
            exact fun w1 h => ⟨(.slice none 0 0), zz12, by rw [(fb_no hN).2], h.below, zz8⟩
           ·
            have hpm : (xs.getD (4 * g + j) 0) ∈ b64A := Decidable.byContradiction fun e => absurd (plB_neg.2 e) (by first | (simp only [decide_eq_false_iff_not] at hc56; exact hc56) | exact hc56)
            have hpi := (b64A_mem hpm).1
            have hgn := gr_in2 hi1 hcd hp0 hpm
            rw [plB_in hpm]
            refine wpc_skip <| ex_then <| wpc_region <| wpl_q (q_pure rfl) rfl ?_
            refine wpl_q (q_mulN (b := 64) rfl rfl zz0) rfl ?_
            refine wpl_q (q_pure rfl) rfl ?_
            refine wpl_q (q_addN rfl rfl zz0) rfl ?_
            refine wpl_q (q_pure rfl) rfl <| wpl_nil <| ex_block <| ex_then <| wpc_region <| wpl_q (q_pure rfl) rfl ?_
            refine wpl_q (q_addN (b := 1) rfl rfl zz0) rfl ?_
            refine wpl_q (q_pure rfl) rfl <| wpl_nil ?_
            refine ex_again ⟨(j + 1, n * 64 + b64A.idxOf (xs.getD (4 * g + j) 0), p), ⟨by show j + 1 ≤ 4; omega, hgn⟩⟩ ?_ ?_ ?_
            ·
             exact zz5
            ·
             exact fun w h => h
            ·
             (show 4 - (j + 1) < 4 - j); omega
        ·
         have hcd : ¬ ((xs.getD (4 * g + j) 0) = 61 ∧ 1 < j ∧ 4 * g + 4 = xs.length) := fun q => (by first | (have q := of_decide_eq_false hb42; omega) | omega : ¬ 1 < j) q.2.1
         refine wpl_off rfl rfl rfl rfl <| wpl_off rfl rfl rfl rfl <| wpl_off rfl rfl rfl rfl <| wpl_off rfl rfl rfl rfl <| wpl_off rfl rfl rfl rfl <| wpl_q (q_pure rfl) rfl <| wpl_nil <| ex_then ?_
         refine wpc_cond_f rfl ?_
         refine wpc_seq <| wpc_region <| wpl_q (q_pure rfl) rfl <| wpl_q (q_pure rfl) rfl <| wpl_q (q_pure rfl) rfl ?_
         refine wpl_bool2 53 52 rfl rfl (fun hb53 => ?_) (fun hb53 => ?_)
         ·
          have hN : ¬ fbOk xs := fbN hgl (fbS_no hfb (gr_bad hi1 hcd (.inl (by first | (have q := of_decide_eq_true hb53; omega) | omega)) hj4))
          refine wpl_off rfl rfl rfl rfl <| wpl_off rfl rfl rfl rfl <| wpl_q (q_pure rfl) rfl <| wpl_nil <| ex_then ?_
          refine wpc_cond_t rfl ?_
          refine wpc_seq <| wpc_region <| wpl_q (q_pure rfl) rfl <| wpl_q (q_pure rfl) rfl <| wpl_nil <| ex_then <| wpc_ret ?_
          refine ex_then_ret ?_
          refine ex_block_ret ?_
          refine ex_then_ret ?_
          refine ex_then_ret ?_
          refine ex_block_ret ?_
          refine ex_then_ret ?_
          refine ex_block_ret ?_
          refine ex_then_ret ?_
          refine ex_then_ret ?_
          refine ex_block_ret ?_
          refine ex_then_ret ?_
          refine ret2 (.inl rfl) rfl rfl rfl ?_
          exact fun w1 h => ⟨(.slice none 0 0), zz12, by rw [(fb_no hN).2], h.below, zz8⟩
         ·
          have hp0 : ¬ 0 < p := by first | (have q := of_decide_eq_false hb53; omega) | omega
          refine wpl_on rfl rfl <| wpl_q (q_pure rfl) rfl <| wpl_on rfl rfl <| wpl_q (q_pure rfl) rfl <| wpl_q (q_pure rfl) rfl <| wpl_nil <| ex_then ?_
          refine wpc_cond rfl (fun hc56 => ?_) (fun hc56 => ?_)
          ·
           have hN : ¬ fbOk xs := fbN hgl (fbS_no hfb (gr_bad hi1 hcd (.inr (plB_neg.1 (by first | (simp only [decide_eq_true_eq] at hc56; exact hc56) | exact hc56))) hj4))
           refine wpc_seq <| wpc_region <| wpl_q (q_pure rfl) rfl <| wpl_q (q_pure rfl) rfl <| wpl_nil <| ex_then <| wpc_ret ?_
           refine ex_then_ret ?_
           refine ex_block_ret ?_
           refine ex_then_ret ?_
           refine ex_then_ret ?_
           refine ex_block_ret ?_
           refine ex_then_ret ?_
           refine ex_block_ret ?_
           refine ex_then_ret ?_
           refine ex_then_ret ?_
           refine ex_block_ret ?_
           refine ex_then_ret ?_
           refine ret2 (.inl rfl) rfl rfl rfl ?_
           exact fun w1 h => ⟨(.slice none 0 0), zz12, by rw [(fb_no hN).2], h.below, zz8⟩
          ·
           have hpm : (xs.getD (4 * g + j) 0) ∈ b64A := Decidable.byContradiction fun e => absurd (plB_neg.2 e) (by first | (simp only [decide_eq_false_iff_not] at hc56; exact hc56) | exact hc56)
           have hpi := (b64A_mem hpm).1
           have hgn := gr_in2 hi1 hcd hp0 hpm
           rw [plB_in hpm]
           refine wpc_skip <| ex_then <| wpc_region <| wpl_q (q_pure rfl) rfl ?_
           refine wpl_q (q_mulN (b := 64) rfl rfl zz0) rfl ?_
           refine wpl_q (q_pure rfl) rfl ?_
           refine wpl_q (q_addN rfl rfl zz0) rfl ?_
           refine wpl_q (q_pure rfl) rfl <| wpl_nil <| ex_block <| ex_then <| wpc_region <| wpl_q (q_pure rfl) rfl ?_
           refine wpl_q (q_addN (b := 1) rfl rfl zz0) rfl ?_
           refine wpl_q (q_pure rfl) rfl <| wpl_nil ?_
           refine ex_again ⟨(j + 1, n * 64 + b64A.idxOf (xs.getD (4 * g + j) 0), p), ⟨by show j + 1 ≤ 4; omega, hgn⟩⟩ ?_ ?_ ?_
           ·
            exact zz5
           ·
            exact fun w h => h
           ·
            (show 4 - (j + 1) < 4 - j); omega
       ·
        have hcd : ¬ ((xs.getD (4 * g + j) 0) = 61 ∧ 1 < j ∧ 4 * g + 4 = xs.length) := fun q => (by first | exact of_decide_eq_false hb38 | (simpa using hb38) : ¬ (xs.getD (4 * g + j) 0) = 61) q.1
        refine wpl_off rfl rfl rfl rfl <| wpl_off rfl rfl rfl rfl <| wpl_q (q_pure rfl) rfl <| wpl_q (q_pure rfl) rfl <| wpl_off rfl rfl rfl rfl <| wpl_off rfl rfl rfl rfl <| wpl_off rfl rfl rfl rfl <| wpl_off rfl rfl rfl rfl <| wpl_off rfl rfl rfl rfl <| wpl_q (q_pure rfl) rfl <| wpl_nil <| ex_then ?_
        refine wpc_cond_f rfl ?_
        refine wpc_seq <| wpc_region <| wpl_q (q_pure rfl) rfl <| wpl_q (q_pure rfl) rfl <| wpl_q (q_pure rfl) rfl ?_
        refine wpl_bool2 53 52 rfl rfl (fun hb53 => ?_) (fun hb53 => ?_)
        ·
         have hN : ¬ fbOk xs := fbN hgl (fbS_no hfb (gr_bad hi1 hcd (.inl (by first | (have q := of_decide_eq_true hb53; omega) | omega)) hj4))
         refine wpl_off rfl rfl rfl rfl <| wpl_off rfl rfl rfl rfl <| wpl_q (q_pure rfl) rfl <| wpl_nil <| ex_then ?_
         refine wpc_cond_t rfl ?_
         refine wpc_seq <| wpc_region <| wpl_q (q_pure rfl) rfl <| wpl_q (q_pure rfl) rfl <| wpl_nil <| ex_then <| wpc_ret ?_
         refine ex_then_ret ?_
         refine ex_block_ret ?_
         refine ex_then_ret ?_
         refine ex_then_ret ?_
         refine ex_block_ret ?_
         refine ex_then_ret ?_
         refine ex_block_ret ?_
         refine ex_then_ret ?_
         refine ex_then_ret ?_
         refine ex_block_ret ?_
         refine ex_then_ret ?_
         refine ret2 (.inl rfl) rfl rfl rfl ?_
         exact fun w1 h => ⟨(.slice none 0 0), zz12, by rw [(fb_no hN).2], h.below, zz8⟩
        ·
         have hp0 : ¬ 0 < p := by first | (have q := of_decide_eq_false hb53; omega) | omega
         refine wpl_on rfl rfl <| wpl_q (q_pure rfl) rfl <| wpl_on rfl rfl <| wpl_q (q_pure rfl) rfl <| wpl_q (q_pure rfl) rfl <| wpl_nil <| ex_then ?_
         refine wpc_cond rfl (fun hc56 => ?_) (fun hc56 => ?_)
         ·
          have hN : ¬ fbOk xs := fbN hgl (fbS_no hfb (gr_bad hi1 hcd (.inr (plB_neg.1 (by first | (simp only [decide_eq_true_eq] at hc56; exact hc56) | exact hc56))) hj4))
          refine wpc_seq <| wpc_region <| wpl_q (q_pure rfl) rfl <| wpl_q (q_pure rfl) rfl <| wpl_nil <| ex_then <| wpc_ret ?_
          refine ex_then_ret ?_
          refine ex_block_ret ?_
          refine ex_then_ret ?_
          refine ex_then_ret ?_
          refine ex_block_ret ?_
          refine ex_then_ret ?_
          refine ex_block_ret ?_
          refine ex_then_ret ?_
          refine ex_then_ret ?_
          refine ex_block_ret ?_
          refine ex_then_ret ?_
          refine ret2 (.inl rfl) rfl rfl rfl ?_
          exact fun w1 h => ⟨(.slice none 0 0), zz12, by rw [(fb_no hN).2], h.below, zz8⟩
         ·
          have hpm : (xs.getD (4 * g + j) 0) ∈ b64A := Decidable.byContradiction fun e => absurd (plB_neg.2 e) (by first | (simp only [decide_eq_false_iff_not] at hc56; exact hc56) | exact hc56)
          have hpi := (b64A_mem hpm).1
          have hgn := gr_in2 hi1 hcd hp0 hpm
          rw [plB_in hpm]
          refine wpc_skip <| ex_then <| wpc_region <| wpl_q (q_pure rfl) rfl ?_
          refine wpl_q (q_mulN (b := 64) rfl rfl zz0) rfl ?_
          refine wpl_q (q_pure rfl) rfl ?_
          refine wpl_q (q_addN rfl rfl zz0) rfl ?_
          refine wpl_q (q_pure rfl) rfl <| wpl_nil <| ex_block <| ex_then <| wpc_region <| wpl_q (q_pure rfl) rfl ?_
          refine wpl_q (q_addN (b := 1) rfl rfl zz0) rfl ?_
          refine wpl_q (q_pure rfl) rfl <| wpl_nil ?_
          refine ex_again ⟨(j + 1, n * 64 + b64A.idxOf (xs.getD (4 * g + j) 0), p), ⟨by show j + 1 ≤ 4; omega, hgn⟩⟩ ?_ ?_ ?_
          ·
           exact zz5
          ·
           exact fun w h => h
          ·
           (show 4 - (j + 1) < 4 - j); omega
      ·
       simp only [decide_eq_false_iff_not] at hc23
       obtain rfl : j = 4 := by omega
       have hgr := hi1
       have hlt : ((thr n).take (3 - p)).length = 3 - p := by rw [List.length_take, thr_len]; omega
       refine wpc_exit ?_
       refine ex_then_exit ?_
       refine ex_then_exit ?_
       refine ex_block_hit ?_
       refine ex_then <| wpc_seq <| wpc_region <| wpl_q (q_pure rfl) rfl ?_
       refine wpl_q (q_quoN (b := 65536) rfl rfl zz10 zz0) rfl ?_
       refine wpl_q (q8_conv Tryd.underlying3 Tryd.underlying5 rfl) rfl ?_
       first | refine wpl_re 63 rfl (congrArg (fun c : UInt8 => Value.int .u8 (c.toNat : Int)) of8_out) ?_ | skip
       refine wpl_q (q_pure rfl) rfl ?_
       refine wpl_q (q_quoN (b := 256) rfl rfl zz10 zz0) rfl ?_
       refine wpl_q (q8_conv Tryd.underlying3 Tryd.underlying5 rfl) rfl ?_
       first | refine wpl_re 66 rfl (congrArg (fun c : UInt8 => Value.int .u8 (c.toNat : Int)) of8_out) ?_ | skip
       refine wpl_q (q_pure rfl) rfl <| wpl_q (q8_conv Tryd.underlying3 Tryd.underlying5 rfl) rfl ?_
       first | refine wpl_re 68 rfl (congrArg (fun c : UInt8 => Value.int .u8 (c.toNat : Int)) of8_out) ?_ | skip
       refine wpl_tp (t_bsV (v8s (thr n)) Tryd.underlying22 Tryd.ti5 rfl rfl zz15 zz15 rfl (v8s_one _)) rfl (fun b69 p69 => ?_)
       refine wpl_q (q_pure rfl) rfl <| wpl_nil <| ex_then <| wpc_seq <| wpc_seq <| wpc_region <| wpl_q (q_pure rfl) rfl ?_
       refine wpl_q (q_subN (a := 3) rfl rfl zz6 zz0) rfl ?_
       refine wpl_q (q_pure rfl) rfl <| wpl_nil <| ex_then <| wpc_block ?_
       refine wpc_loopc (ι := { x : Nat // (x ≤ 3) ∧ (3 - p ≤ x) ∧ (∀ i, i < x → 3 - p ≤ i → (thr n).getD i 0 = 0) }) [(0, _), (4, _), (5, _), (7, _), (10, _)] (fun x Lc => (11, .int .i64 ((x.1 : Nat) : Int)) :: Lc) (fun x => Mem w [] [.row b69 3 5 1 (v8s (thr n)), .row v out.length 5 1 (v8s out)] []) (fun x => 3 - x.1) ⟨3 - p, ⟨Nat.sub_le _ _, Nat.le_refl _, fun i h1 h2 => zz6⟩⟩ zz5 ?_ ?_
       ·
        exact fun w h => h.sel
       ·
        rintro ⟨k, ⟨hi0, hi1, hi2⟩⟩; try dsimp only
        have hi0 : k ≤ 3 := hi0; have hi1 : 3 - p ≤ k := hi1; have hi2 : ∀ i, i < k → 3 - p ≤ i → (thr n).getD i 0 = 0 := hi2
        refine wpc_seq <| wpc_seq <| wpc_region <| wpl_q (q_pure rfl) rfl <| wpl_q (q_pure rfl) rfl <| wpl_nil <| ex_then ?_
        refine wpc_cond rfl (fun hc73 => ?_) (fun hc73 => ?_)
        ·
         simp only [decide_eq_true_eq] at hc73
         have hk3 : k < 3 := by omega
         refine wpc_skip <| ex_then <| wpc_seq <| wpc_block <| wpc_seq <| wpc_region <| wpl_q (q_pure rfl) rfl <| wpl_q (q_pure rfl) rfl ?_
         refine wpl_q (q_idxW1 Tryd.underlying22 Tryd.ti5 rfl rfl zz2 zz0) rfl ?_
         refine wpl_q (q_ldW Tryd.underlying5 rfl rfl (fun w h => zz1) (v8s_get (by rw [thr_len]; omega))) rfl ?_
         refine wpl_q (q8_neq (b := (0 : UInt8)) rfl rfl) rfl ?_
         refine wpl_nil <| ex_then ?_
         refine wpc_cond rfl (fun hc80 => ?_) (fun hc80 => ?_)
         ·
          have hN : ¬ fbOk xs := fbN hgl (fbS_no hfb (grB_bad hgr (fun q => absurd (q k hk3 hi1) (by first | exact hc80 | (simpa using hc80)))))
          refine wpc_seq <| wpc_region <| wpl_q (q_pure rfl) rfl <| wpl_q (q_pure rfl) rfl <| wpl_nil <| ex_then <| wpc_ret ?_
          refine ex_block_ret ?_
          refine ex_then_ret ?_
          refine ex_then_ret ?_
          refine ex_block_ret ?_
          refine ex_then_ret ?_
          refine ex_block_ret ?_
          refine ex_then_ret ?_
          refine ex_then_ret ?_
          refine ex_block_ret ?_
          refine ex_then_ret ?_
          refine ret2 (.inl rfl) rfl rfl rfl ?_
          exact fun w1 h => ⟨(.slice none 0 0), zz12, by rw [(fb_no hN).2], h.below, zz8⟩
         ·
          have hz0 : (thr n).getD k 0 = 0 := by first | exact hc80 | (simpa using hc80)
          refine wpc_skip <| ex_block <| ex_then <| wpc_region <| wpl_q (q_pure rfl) rfl ?_
          refine wpl_q (q_addN (b := 1) rfl rfl zz0) rfl ?_
          refine wpl_q (q_pure rfl) rfl <| wpl_nil ?_
          refine ex_again ⟨k + 1, ⟨by show k + 1 ≤ 3; omega, by show 3 - p ≤ k + 1; omega, fun i h1 h2 => by
            rcases Nat.lt_or_ge i k with h | h
            · exact hi2 i h h2
            · obtain rfl : i = k := (by have h1 : i < k + 1 := h1; omega)
              exact hz0⟩⟩ ?_ ?_ ?_
          ·
           exact zz5
          ·
           exact fun w h => h
          ·
           (show 3 - (k + 1) < 3 - k); omega
        ·
         simp only [decide_eq_false_iff_not] at hc73
         obtain rfl : k = 3 := by omega
         have hko : thrOk n p := fun i h1 h2 => hi2 i h1 h2
         refine wpc_exit ?_
         refine ex_then_exit ?_
         refine ex_then_exit ?_
         refine ex_block_hit ?_
         refine ex_then <| wpc_region <| wpl_q (q_pure rfl) rfl <| wpl_q (q_pure rfl) rfl <| wpl_q (q_pure rfl) rfl ?_
         refine wpl_q (q_subN (a := 3) rfl rfl zz6 zz0) rfl ?_
         refine wpl_q (q_slWh Tryd.underlying22 Tryd.ti5 rfl rfl zz2 zz6) rfl ?_
         refine wpl_tp (t_apW Tryd.underlying22 Tryd.ti5 rfl zz15 rfl rfl (fun w h => (show Seen w.cell? _ (3 - p) 1 (v8s ((thr n).take (3 - p))) from by
           have q := (h.seen_row zz11 : Seen w.cell? b69 3 1 (v8s (thr n))).slv8 (bs := thr n) 0 (3 - p) zz6 zz6
           rwa [List.drop_zero, Nat.sub_zero] at q)) (v8s_one _) zz0 zz0 (v8s (out ++ (thr n).take (3 - p))) (v8s_append _ _).symm) rfl (fun b86 p86 => ?_)
         refine wpl_q (q_pure rfl) rfl <| wpl_nil <| ex_block <| ex_then <| wpc_region <| wpl_q (q_pure rfl) rfl ?_
         refine wpl_q (q_addN (b := 4) rfl rfl zz0) rfl ?_
         refine wpl_q (q_pure rfl) rfl <| wpl_nil ?_
         refine ex_again ⟨(g + 1, b86, out ++ (thr n).take (3 - p)), ⟨by show 4 * (g + 1) ≤ _; omega, by dsimp only; rw [List.length_append, hlt]; exact p86, fbS_ok hfb (grB_ok hgr hko), by dsimp only; rw [List.length_append, hlt]; omega⟩⟩ ?_ ?_ ?_
         ·
          exact zz5
         ·
          exact fun w h => by
            dsimp only
            rw [List.length_append, hlt]
            exact h.sel
         ·
          (show xs.length - 4 * (g + 1) < xs.length - 4 * g); omega
    ·
     simp only [decide_eq_false_iff_not] at hc19
     obtain rfl : g = xs.length / 4 := by omega
     obtain ⟨hk, hv⟩ := fbR_val h40 hi2
     obtain ⟨_, hke⟩ := fb_yes hk
     refine wpc_exit ?_
     refine ex_then_exit ?_
     refine ex_then_exit ?_
     refine ex_block_hit ?_
     refine ex_then <| wpc_seq <| wpc_region <| wpl_q (q_pure rfl) rfl <| wpl_q (q_pure rfl) rfl <| wpl_q (q_pure rfl) rfl <| wpl_nil <| ex_then <| wpc_ret ?_
     refine ret2 (.inl rfl) rfl rfl rfl ?_
     exact fun w1 h => ⟨v, by rw [hv]; exact hi1, by rw [hke], h.below, by rw [hv]; exact h.made SubC.h .nil⟩
end Go.Proofs.YtlapmdiabhlbmaaDoor
namespace Go.Proofs.YtlapmdiabhlbmaaDoor
open Go Go.PL Go.RowKit
theorem one_sl {l : List UInt8} {x : Nat} (h : x < l.length) : (l.drop x).take (x + 1 - x) = [l.getD x 0] := by
  rw [Nat.add_sub_cancel_left, List.getD_eq_getElem?_getD, List.getElem?_eq_getElem h]
  rw [List.drop_eq_getElem_cons h]; rfl
theorem hexF_S {bs : List UInt8} {i : Nat} (hx : (bs.getD i 0).toNat / 16 < hexD.length) (hy : (bs.getD i 0).toNat % 16 < hexD.length) : hexF bs i ++ (hexD.drop ((bs.getD i 0).toNat / 16)).take ((bs.getD i 0).toNat / 16 + 1 - (bs.getD i 0).toNat / 16) ++ (hexD.drop ((bs.getD i 0).toNat % 16)).take ((bs.getD i 0).toNat % 16 + 1 - (bs.getD i 0).toNat % 16) = hexF bs (i + 1) := by
  rw [one_sl hx, one_sl hy, hexF, sr8_eq, and8_eq]
theorem hexD_16 : hexD.length = 16 := rfl
theorem refHex (bv : Value) (bs : List UInt8) (w : World) (hbv : Seen w.cell? bv bs.length 1 (v8s bs)) (hbl : bs.length ≤ 100000) :
    Calls Tryd.prog 24 [bv].toArray w (Pur w (str (hexF bs bs.length))) := by
  have sbv := hbv.sv
  have lbv := sbv.le
  simp only [maxLen] at lbv
  refine enter (m := 40) (R := Mem w [] [] []) Tryd.func24 rfl rfl (Nat.le_of_ble_eq_true rfl) (Mem.start w) ?_
  refine wpc_seq <| wpc_region <| wpl_q (q_pure rfl) rfl <| wpl_nil <| ex_then <| wpc_seq <| wpc_region <| wpl_q (q_pure rfl) rfl <| wpl_nil <| ex_then <| wpc_seq <| wpc_region ?_
  refine wpl_q (q_pure rfl) rfl <| wpl_nil <| ex_then <| wpc_seq <| wpc_seq <| wpc_region <| wpl_q (q_pure rfl) rfl <| wpl_nil <| ex_then <| wpc_block ?_
  refine wpc_loopc (ι := { x : Nat // (x ≤ bs.length) }) [(0, _), (3, _)] (fun x Lc => (5, .int .i64 ((x.1 : Nat) : Int)) :: (4, str (hexF bs x.1)) :: Lc) (fun x => Mem w [] [] []) (fun x => bs.length - x.1) ⟨0, (Nat.zero_le _)⟩ zz5 ?_ ?_
  ·
   exact fun w h => h
  ·
   rintro ⟨i, hi0⟩; try dsimp only
   have hi0 : i ≤ bs.length := hi0
   have hxl := hexF_length bs i
   refine wpc_seq <| wpc_seq <| wpc_region <| wpl_q (q_pure rfl) rfl <| wpl_q (q_pure rfl) rfl ?_
   refine wpl_q (q_lenW Tryd.underlying22 rfl zz2) rfl ?_
   refine wpl_q (q_pure rfl) rfl <| wpl_nil <| ex_then ?_
   refine wpc_cond rfl (fun hc11 => ?_) (fun hc11 => ?_)
   ·
    simp only [decide_eq_true_eq] at hc11
    have hil : i < bs.length := by omega
    have hb := (bs.getD i 0).toNat_lt
    have h16 := hexD_16
    refine wpc_skip <| ex_then <| wpc_seq <| wpc_block <| wpc_seq ?_
    refine wpc_draw 14 zz3 (fun _ h => h.drew) ?_
    refine wpd_p 0 rfl zz3 trivial (q_pure rfl) rfl sk0 ?_
    refine wpd_p 1 rfl zz3 trivial (q_pure rfl) rfl sk0 ?_
    refine wpd_p 2 rfl zz3 trivial (q_idxW1 Tryd.underlying22 Tryd.ti5 rfl rfl zz2 zz0) rfl sk0 ?_
    refine wpd_q 3 rfl zz3 trivial (q_ldW Tryd.underlying5 rfl rfl (fun w h => zz1) zz13) rfl (fun _ h => h) ?_
    refine wpd_p 4 rfl zz3 trivial (q8_int Tryd.underlying5 Tryd.underlying3 rfl) rfl sk0 ?_
    refine wpd_p 5 rfl zz3 trivial (q_quoN (b := 16) rfl rfl zz10 zz0) rfl sk0 ?_
    refine wpd_p 6 rfl zz3 trivial (q_pure rfl) rfl sk0 ?_
    refine wpd_p 7 rfl zz3 trivial (q_pure rfl) rfl sk0 ?_
    refine wpd_p 8 rfl zz3 trivial (q_idxW1 Tryd.underlying22 Tryd.ti5 rfl rfl zz2 zz0) rfl sk0 ?_
    refine wpd_q 9 rfl zz3 trivial (q_ldW Tryd.underlying5 rfl rfl (fun w h => zz1) zz13) rfl (fun _ h => h) ?_
    refine wpd_p 10 rfl zz3 trivial (q8_int Tryd.underlying5 Tryd.underlying3 rfl) rfl sk0 ?_
    refine wpd_p 11 rfl zz3 trivial (q_remN (b := 16) rfl rfl zz10) rfl sk0 ?_
    refine wpd_p 12 rfl zz3 trivial (q_pure rfl) rfl sk0 ?_
    refine wpd_p 13 rfl zz3 trivial (q_pure rfl) rfl sk0 ?_
    refine wpd_done zz3 ?_
    refine ex_then ?_
    refine wpc_draw 14 zz3 (fun _ h => h.drew) ?_
    refine wpd_p 0 rfl zz3 trivial (q_pure rfl) rfl sk0 ?_
    refine wpd_p 1 rfl zz3 trivial (q_pure rfl) rfl sk0 ?_
    refine wpd_p 2 rfl zz3 trivial (q_pure rfl) rfl sk0 ?_
    refine wpd_p 3 rfl zz3 trivial (q_pure rfl) rfl sk0 ?_
    refine wpd_p 4 rfl zz3 trivial (q_addN (b := 1) rfl rfl zz0) rfl sk0 ?_
    refine wpd_p 5 rfl zz3 trivial (q_strLH Tryd.underlying9 rfl rfl rfl zz6 zz0) rfl sk0 ?_
    refine wpd_p 6 rfl zz3 trivial (q_strCat rfl rfl zz0) rfl sk0 ?_
    refine wpd_p 7 rfl zz3 trivial (q_pure rfl) rfl sk0 ?_
    refine wpd_p 8 rfl zz3 trivial (q_pure rfl) rfl sk0 ?_
    refine wpd_p 9 rfl zz3 trivial (q_pure rfl) rfl sk0 ?_
    refine wpd_p 10 rfl zz3 trivial (q_addN (b := 1) rfl rfl zz0) rfl sk0 ?_
    refine wpd_p 11 rfl zz3 trivial (q_strLH Tryd.underlying9 rfl rfl rfl zz6 zz0) rfl sk0 ?_
    refine wpd_p 12 rfl zz3 trivial (q_strCat rfl rfl zz0) rfl sk0 ?_
    refine wpd_re 38 rfl (congrArg str (hexF_S (bs := bs) (i := i) zz6 zz6)) ?_
    refine wpd_p 13 rfl zz3 trivial (q_pure rfl) rfl sk0 ?_
    refine wpd_done zz3 ?_
    refine ex_block <| ex_then <| wpc_region <| wpl_q (q_pure rfl) rfl ?_
    refine wpl_q (q_addN (b := 1) rfl rfl zz0) rfl ?_
    refine wpl_q (q_pure rfl) rfl <| wpl_nil ?_
    refine ex_again ⟨i + 1, (show i + 1 ≤ _ from zz6)⟩ ?_ ?_ ?_
    ·
     exact zz5
    ·
     exact fun w h => by first | exact h | exact h.sub SubC.h SubC.h | exact h.sub zz4 zz4
    ·
     (show bs.length - (i + 1) < bs.length - i); omega
   ·
    simp only [decide_eq_false_iff_not] at hc11
    obtain rfl : i = bs.length := by omega
    refine wpc_exit ?_
    refine ex_then_exit ?_
    refine ex_then_exit ?_
    refine ex_block_hit ?_
    refine ex_then <| wpc_seq <| wpc_region <| wpl_q (q_pure rfl) rfl <| wpl_q (q_pure rfl) rfl <| wpl_nil <| ex_then <| wpc_ret ?_
    refine ret1 (.inl rfl) rfl rfl ?_
    exact fun w h => ⟨rfl, h.below⟩
end Go.Proofs.YtlapmdiabhlbmaaDoor
namespace Go.Proofs.YtlapmdiabhlbmaaDoor
open Go Go.PL Go.RowKit
def w3 (b : List UInt8) (g : Nat) : Nat → Nat
  | 0 => 0
  | j + 1 => w3 b g j * 256 + (b.getD (3 * g + j) 0).toNat
theorem w3_3 (b : List UInt8) (g : Nat) : w3 b g 3 = wd b g := by
  show ((0 * 256 + (b.getD (3 * g + 0) 0).toNat) * 256 + (b.getD (3 * g + 1) 0).toNat) * 256 + (b.getD (3 * g + 2) 0).toNat = _
  unfold wd
  rw [Nat.add_zero]; omega
theorem w3_lt (b : List UInt8) (g : Nat) : ∀ j, w3 b g j < 256 ^ j
  | 0 => by show 0 < 1; omega
  | j + 1 => by
    have h1 := w3_lt b g j
    have h2 := (b.getD (3 * g + j) 0).toNat_lt
    have e : 256 ^ (j + 1) = 256 ^ j * 256 := Nat.pow_succ ..
    show w3 b g j * 256 + (b.getD (3 * g + j) 0).toNat < 256 ^ (j + 1)
    omega
theorem w3_le (b : List UInt8) (g : Nat) {j : Nat} (h : j ≤ 3) : w3 b g j < 16777216 := by
  have h1 := w3_lt b g j
  have h2 : (256 : Nat) ^ j ≤ 256 ^ 3 := Nat.pow_le_pow_right zz15 h
  have h3 : (256 : Nat) ^ 3 = 16777216 := by decide
  omega
def cK (w : Nat) : List Nat := [w / 262144, w / 4096 % 64, w / 64 % 64, w % 64]
theorem cK_get {w k : Nat} (hw : w < 16777216) (hk : k < 4) : (cK w).getD k 0 = w / 2 ^ (18 - 6 * k) % 64 ∧ (cK w).getD k 0 < 64 := by
  rcases (show k = 0 ∨ k = 1 ∨ k = 2 ∨ k = 3 from zz6) with rfl | rfl | rfl | rfl
  · show w / 262144 = w / 262144 % 64 ∧ w / 262144 < 64; omega
  · exact ⟨rfl, Nat.mod_lt _ zz15⟩
  · exact ⟨rfl, Nat.mod_lt _ zz15⟩
  · show w % 64 = w / 1 % 64 ∧ w % 64 < 64; omega
theorem cK_len (w : Nat) : (cK w).length = 4 := rfl
theorem b64A_64 : b64A.length = 64 := rfl
theorem acc_in {b : List UInt8} {g k : Nat} (hk : k < 4) (hm : 3 * g + k ≤ b.length) : (b64F b g ++ b64G (pad3 (b.drop (3 * g))) (min (b.drop (3 * g)).length 3) k) ++ (b64A.drop ((cK (wd b g)).getD k 0)).take ((cK (wd b g)).getD k 0 + 1 - (cK (wd b g)).getD k 0) = b64F b g ++ b64G (pad3 (b.drop (3 * g))) (min (b.drop (3 * g)).length 3) (k + 1) := by
  obtain ⟨h1, h2⟩ := cK_get (wd_lt b g) hk
  have e : (b.drop (3 * g)).length = b.length - 3 * g := List.length_drop
  rw [one_sl (by rw [b64A_64]; exact h2), b64G, b64C_in zz6, word_wd, h1, List.append_assoc]
theorem acc_out {b : List UInt8} {g k : Nat} (hg : 3 * g < b.length) (hk : k < 4) (hm : ¬ 3 * g + k ≤ b.length) : (b64F b g ++ b64G (pad3 (b.drop (3 * g))) (min (b.drop (3 * g)).length 3) k) ++ [61] = b64F b g ++ b64G (pad3 (b.drop (3 * g))) (min (b.drop (3 * g)).length 3) (k + 1) := by
  have e : (b.drop (3 * g)).length = b.length - 3 * g := List.length_drop
  rw [b64G, b64C_out zz6, List.append_assoc]
theorem refBase64 (bv : Value) (bs : List UInt8) (w : World) (hbv : Seen w.cell? bv bs.length 1 (v8s bs)) (hbl : bs.length ≤ 100000) :
    Calls Tryd.prog 25 [bv].toArray w (Pur w (str (base64F bs))) := by
  have sbv := hbv.sv
  have lbv := sbv.le
  simp only [maxLen] at lbv
  refine enter (m := 72) (R := Mem w [] [] []) Tryd.func25 rfl rfl (Nat.le_of_ble_eq_true rfl) (Mem.start w) ?_
  refine wpc_seq <| wpc_region <| wpl_q (q_pure rfl) rfl <| wpl_nil <| ex_then <| wpc_seq <| wpc_region <| wpl_q (q_pure rfl) rfl <| wpl_nil <| ex_then <| wpc_seq <| wpc_seq ?_
  refine wpc_region <| wpl_q (q_pure rfl) rfl <| wpl_nil <| ex_then <| wpc_block ?_
  refine wpc_loopc (ι := { x : Nat // (3 * x ≤ bs.length + 2) }) [(0, _)] (fun x Lc => (4, .int .i64 ((3 * x.1 : Nat) : Int)) :: (3, str (b64F bs x.1)) :: Lc) (fun x => Mem w [] [] []) (fun x => bs.length + 3 - 3 * x.1) ⟨0, (Nat.zero_le _)⟩ zz5 ?_ ?_
  ·
   exact fun w h => h
  ·
   rintro ⟨g, hi0⟩; try dsimp only
   have hi0 : 3 * g ≤ bs.length + 2 := hi0
   have hfl := b64F_length bs g
   refine wpc_seq <| wpc_seq <| wpc_region <| wpl_q (q_pure rfl) rfl <| wpl_q (q_pure rfl) rfl ?_
   refine wpl_q (q_lenW Tryd.underlying22 rfl zz2) rfl ?_
   refine wpl_q (q_pure rfl) rfl <| wpl_nil <| ex_then ?_
   refine wpc_cond rfl (fun hc12 => ?_) (fun hc12 => ?_)
   ·
    simp only [decide_eq_true_eq] at hc12
    have hgl : 3 * g < bs.length := by omega
    refine wpc_skip <| ex_then <| wpc_seq <| wpc_block <| wpc_seq <| wpc_region <| wpl_q (q_pure rfl) rfl <| wpl_nil <| ex_then <| wpc_seq <| wpc_seq <| wpc_region ?_
    refine wpl_q (q_pure rfl) rfl <| wpl_nil <| ex_then <| wpc_block ?_
    refine wpc_loopc (ι := { x : Nat // (x ≤ 3) }) [(0, _), (3, _), (4, _)] (fun x Lc => (6, .int .i64 ((x.1 : Nat) : Int)) :: (5, .int .i64 ((w3 bs g x.1 : Nat) : Int)) :: Lc) (fun x => Mem w [] [] []) (fun x => 3 - x.1) ⟨0, (Nat.zero_le _)⟩ zz5 ?_ ?_
    ·
     exact fun w h => h
    ·
     rintro ⟨j, hi0⟩; try dsimp only
     have hi0 : j ≤ 3 := hi0
     have hwl := w3_le bs g hi0
     refine wpc_seq <| wpc_seq <| wpc_region <| wpl_q (q_pure rfl) rfl <| wpl_q (q_pure rfl) rfl <| wpl_nil <| ex_then ?_
     refine wpc_cond rfl (fun hc16 => ?_) (fun hc16 => ?_)
     ·
      simp only [decide_eq_true_eq] at hc16
      have hj3 : j < 3 := by omega
      have hw2 : w3 bs g (j + 1) < 16777216 := w3_le bs g zz6
      have hwe : w3 bs g (j + 1) = w3 bs g j * 256 + (bs.getD (3 * g + j) 0).toNat := rfl
      refine wpc_skip <| ex_then <| wpc_seq <| wpc_block <| wpc_seq <| wpc_region <| wpl_q (q_pure rfl) rfl ?_
      refine wpl_q (q_mulN (b := 256) rfl rfl zz0) rfl ?_
      refine wpl_q (q_pure rfl) rfl <| wpl_nil <| ex_then <| wpc_seq <| wpc_region <| wpl_q (q_pure rfl) rfl <| wpl_q (q_pure rfl) rfl ?_
      refine wpl_q (q_addN rfl rfl zz0) rfl ?_
      refine wpl_q (q_pure rfl) rfl ?_
      refine wpl_q (q_lenW Tryd.underlying22 rfl zz2) rfl ?_
      refine wpl_q (q_pure rfl) rfl <| wpl_nil <| ex_then ?_
      refine wpc_cond rfl (fun hc26 => ?_) (fun hc26 => ?_)
      ·
       simp only [decide_eq_true_eq] at hc26
       have hjb : 3 * g + j < bs.length := by omega
       refine wpc_region <| wpl_q (q_pure rfl) rfl <| wpl_q (q_pure rfl) rfl <| wpl_q (q_pure rfl) rfl <| wpl_q (q_pure rfl) rfl ?_
       refine wpl_q (q_addN rfl rfl zz0) rfl ?_
       refine wpl_q (q_idxW1 Tryd.underlying22 Tryd.ti5 rfl rfl zz2 zz0) rfl ?_
       refine wpl_q (q_ldW Tryd.underlying5 rfl rfl (fun w h => zz1) zz13) rfl ?_
       refine wpl_q (q8_int Tryd.underlying5 Tryd.underlying3 rfl) rfl ?_
       refine wpl_q (q_addN rfl rfl zz0) rfl ?_
       refine wpl_q (q_pure rfl) rfl <| wpl_nil <| ex_block <| ex_then <| wpc_region <| wpl_q (q_pure rfl) rfl ?_
       refine wpl_q (q_addN (b := 1) rfl rfl zz0) rfl ?_
       refine wpl_q (q_pure rfl) rfl <| wpl_nil ?_
       refine ex_again ⟨j + 1, (show j + 1 ≤ 3 from zz6)⟩ ?_ ?_ ?_
       ·
        exact zz5
       ·
        exact fun w h => by first | exact h | exact h.sub SubC.h SubC.h | exact h.sub zz4 zz4
       ·
        (show 3 - (j + 1) < 3 - j); omega
      ·
       simp only [decide_eq_false_iff_not] at hc26
       have hz : (bs.getD (3 * g + j) 0).toNat = 0 := by rw [getD_z zz6]; rfl
       refine wpc_re 5 rfl (congrArg (fun n : Nat => Value.int .i64 (n : Int)) (show w3 bs g j * 256 = w3 bs g (j + 1) from zz6)) ?_
       refine wpc_skip <| ex_block <| ex_then <| wpc_region <| wpl_q (q_pure rfl) rfl ?_
       refine wpl_q (q_addN (b := 1) rfl rfl zz0) rfl ?_
       refine wpl_q (q_pure rfl) rfl <| wpl_nil ?_
       refine ex_again ⟨j + 1, (show j + 1 ≤ 3 from zz6)⟩ ?_ ?_ ?_
       ·
        exact zz5
       ·
        exact fun w h => by first | exact h | exact h.sub SubC.h SubC.h | exact h.sub zz4 zz4
       ·
        (show 3 - (j + 1) < 3 - j); omega
     ·
      simp only [decide_eq_false_iff_not] at hc16
      obtain rfl : j = 3 := by omega
      rw [w3_3]
      have hwd := wd_lt bs g
      refine wpc_exit ?_
      refine ex_then_exit ?_
      refine ex_then_exit ?_
      refine ex_block_hit ?_
      refine ex_then <| wpc_seq <| wpc_region <| wpl_q (q_pure rfl) rfl ?_
      refine wpl_q (q_quoN (b := 262144) rfl rfl zz10 zz0) rfl ?_
      refine wpl_q (q_pure rfl) rfl ?_
      refine wpl_q (q_quoN (b := 4096) rfl rfl zz10 zz0) rfl ?_
      refine wpl_q (q_remN (b := 64) rfl rfl zz10) rfl ?_
      refine wpl_q (q_pure rfl) rfl ?_
      refine wpl_q (q_quoN (b := 64) rfl rfl zz10 zz0) rfl ?_
      refine wpl_q (q_remN (b := 64) rfl rfl zz10) rfl ?_
      refine wpl_q (q_pure rfl) rfl ?_
      refine wpl_q (q_remN (b := 64) rfl rfl zz10) rfl ?_
      refine wpl_tp (t_bsV (vns (cK (wd bs g))) Tryd.underlying74 Tryd.ti3 rfl rfl zz15 zz15 rfl (vns_one _)) rfl (fun b46 p46 => ?_)
      refine wpl_q (q_pure rfl) rfl <| wpl_nil <| ex_then <| wpc_seq ?_
      refine wpc_re 3 rfl (congrArg str (show b64F bs g = b64F bs g ++ b64G (pad3 (bs.drop (3 * g))) (min (bs.drop (3 * g)).length 3) 0 from (List.append_nil _).symm)) ?_
      refine wpc_region <| wpl_q (q_pure rfl) rfl <| wpl_nil <| ex_then <| wpc_block ?_
      refine wpc_loopc (ι := { x : Nat // (x ≤ 4) }) [(0, _), (4, _), (7, _)] (fun x Lc => (8, .int .i64 ((x.1 : Nat) : Int)) :: (3, str (b64F bs g ++ b64G (pad3 (bs.drop (3 * g))) (min (bs.drop (3 * g)).length 3) x.1)) :: Lc) (fun x => Mem w [] [.row b46 4 3 1 (vns (cK (wd bs g)))] []) (fun x => 4 - x.1) ⟨0, (Nat.zero_le _)⟩ zz5 ?_ ?_
      ·
       exact fun w h => h
      ·
       rintro ⟨k, hi0⟩; try dsimp only
       have hi0 : k ≤ 4 := hi0
       have hgk := b64G_length (pad3 (bs.drop (3 * g))) (min (bs.drop (3 * g)).length 3) k
       have hal : (b64F bs g ++ b64G (pad3 (bs.drop (3 * g))) (min (bs.drop (3 * g)).length 3) k).length = 4 * g + k := by rw [List.length_append, hfl, hgk]
       refine wpc_seq <| wpc_seq <| wpc_region <| wpl_q (q_pure rfl) rfl <| wpl_q (q_pure rfl) rfl <| wpl_nil <| ex_then ?_
       refine wpc_cond rfl (fun hc48 => ?_) (fun hc48 => ?_)
       ·
        simp only [decide_eq_true_eq] at hc48
        have hk4 : k < 4 := by omega
        obtain ⟨hck, hcl⟩ := cK_get hwd hk4
        have h64 := b64A_64
        refine wpc_skip <| ex_then <| wpc_seq <| wpc_block <| wpc_seq <| wpc_region <| wpl_q (q_pure rfl) rfl <| wpl_q (q_pure rfl) rfl ?_
        refine wpl_q (q_addN rfl rfl zz0) rfl ?_
        refine wpl_q (q_pure rfl) rfl ?_
        refine wpl_q (q_lenW Tryd.underlying22 rfl zz2) rfl ?_
        refine wpl_q (q_pure rfl) rfl <| wpl_nil <| ex_then ?_
        refine wpc_cond rfl (fun hc56 => ?_) (fun hc56 => ?_)
        ·
         simp only [decide_eq_true_eq] at hc56
         have hin : 3 * g + k ≤ bs.length := by omega
         refine wpc_draw 13 zz3 (fun _ h => h.drew) ?_
         refine wpd_p 0 rfl zz3 trivial (q_pure rfl) rfl sk0 ?_
         refine wpd_p 1 rfl zz3 trivial (q_pure rfl) rfl sk0 ?_
         refine wpd_p 2 rfl zz3 trivial (q_pure rfl) rfl sk0 ?_
         refine wpd_p 3 rfl zz3 trivial (q_idxW1 Tryd.underlying74 Tryd.ti3 rfl rfl zz2 zz0) rfl sk0 ?_
         refine wpd_q 4 rfl zz3 trivial (q_ldW Tryd.underlying3 rfl rfl (fun w h => zz1) (vns_get (by rw [cK_len]; omega))) rfl (fun _ h => h) ?_
         refine wpd_p 5 rfl zz3 trivial (q_pure rfl) rfl sk0 ?_
         refine wpd_p 6 rfl zz3 trivial (q_pure rfl) rfl sk0 ?_
         refine wpd_p 7 rfl zz3 trivial (q_idxW1 Tryd.underlying74 Tryd.ti3 rfl rfl zz2 zz0) rfl sk0 ?_
         refine wpd_q 8 rfl zz3 trivial (q_ldW Tryd.underlying3 rfl rfl (fun w h => zz1) (vns_get (by rw [cK_len]; omega))) rfl (fun _ h => h) ?_
         refine wpd_p 9 rfl zz3 trivial (q_addN (b := 1) rfl rfl zz0) rfl sk0 ?_
         refine wpd_p 10 rfl zz3 trivial (q_strLH Tryd.underlying9 rfl rfl rfl zz6 zz0) rfl sk0 ?_
         refine wpd_p 11 rfl zz3 trivial (q_strCat rfl rfl zz0) rfl sk0 ?_
         refine wpd_re 68 rfl (congrArg str (acc_in hk4 hin)) ?_
         refine wpd_p 12 rfl zz3 trivial (q_pure rfl) rfl sk0 ?_
         refine wpd_done zz3 ?_
         refine ex_block <| ex_then <| wpc_region <| wpl_q (q_pure rfl) rfl ?_
         refine wpl_q (q_addN (b := 1) rfl rfl zz0) rfl ?_
         refine wpl_q (q_pure rfl) rfl <| wpl_nil ?_
         refine ex_again ⟨k + 1, (show k + 1 ≤ 4 from zz6)⟩ ?_ ?_ ?_
         ·
          exact zz5
         ·
          exact fun w h => h
         ·
          (show 4 - (k + 1) < 4 - k); omega
        ·
         simp only [decide_eq_false_iff_not] at hc56
         have hout : ¬ 3 * g + k ≤ bs.length := by omega
         refine wpc_region <| wpl_q (q_pure rfl) rfl ?_
         refine wpl_q (q_strCat rfl rfl zz0) rfl ?_
         refine wpl_re 70 rfl (congrArg str (acc_out hgl hk4 hout)) ?_
         refine wpl_q (q_pure rfl) rfl <| wpl_nil <| ex_block <| ex_then <| wpc_region <| wpl_q (q_pure rfl) rfl ?_
         refine wpl_q (q_addN (b := 1) rfl rfl zz0) rfl ?_
         refine wpl_q (q_pure rfl) rfl <| wpl_nil ?_
         refine ex_again ⟨k + 1, (show k + 1 ≤ 4 from zz6)⟩ ?_ ?_ ?_
         ·
          exact zz5
         ·
          exact fun w h => h
         ·
          (show 4 - (k + 1) < 4 - k); omega
       ·
        simp only [decide_eq_false_iff_not] at hc48
        obtain rfl : k = 4 := by omega
        refine wpc_exit ?_
        refine ex_then_exit ?_
        refine ex_then_exit ?_
        refine ex_block_hit ?_
        refine ex_block <| ex_then <| wpc_region <| wpl_q (q_pure rfl) rfl ?_
        refine wpl_q (q_addN (b := 3) rfl rfl zz0) rfl ?_
        refine wpl_q (q_pure rfl) rfl <| wpl_nil ?_
        refine ex_again ⟨g + 1, (show 3 * (g + 1) ≤ _ from zz6)⟩ ?_ ?_ ?_
        ·
         exact zz5
        ·
         exact fun w h => by first | exact h | exact h.sub SubC.h SubC.h | exact h.sub zz4 zz4
        ·
         (show bs.length + 3 - 3 * (g + 1) < bs.length + 3 - 3 * g); omega
   ·
    simp only [decide_eq_false_iff_not] at hc12
    obtain rfl : g = (bs.length + 2) / 3 := by omega
    refine wpc_exit ?_
    refine ex_then_exit ?_
    refine ex_then_exit ?_
    refine ex_block_hit ?_
    refine ex_then <| wpc_seq <| wpc_region <| wpl_q (q_pure rfl) rfl <| wpl_q (q_pure rfl) rfl <| wpl_nil <| ex_then <| wpc_ret ?_
    refine ret1 (.inl rfl) rfl rfl ?_
    exact fun w h => ⟨rfl, h.below⟩
end Go.Proofs.YtlapmdiabhlbmaaDoor
