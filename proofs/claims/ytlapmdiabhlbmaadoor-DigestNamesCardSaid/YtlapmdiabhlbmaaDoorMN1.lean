/- What the statement reaches, in order. -/
import Derived.Test.YtlapmdiabhlbmaaDoorMNPLN
import Derived.Test.YtlapmdiabhlbmaaDoorMNTI
import Derived.Test.YtlapmdiabhlbmaaDoorMNPLI
import Derived.Test.YtlapmdiabhlbmaaDoorMNPLZ
import Derived.KernelRfl
import Derived.Shelf.Strings.Trim
import Derived.Shelf.Small.Strs
import Derived.Shelf.LaysM
import Derived.Shelf.Bytes.WriteByte
import Derived.Shelf.Bytes.Bytes
import Derived.Test.YtlapmdiabhlbmaaDoorProg
import Derived.Test.YtlapmdiabhlbmaaDoorMNPLL
import Derived.Lib.TrimByte
import Derived.Lib.Bytealg
import Derived.Stop.LaidErr
import Derived.WalkKit
import Derived.ProofKit
import Derived.OpenShut
import Derived.ChangeOld
import Derived.Below
import Derived.Carry
import Derived.LaidMore
import Derived.Deep.DeepHandedRow
import Derived.Deep.DeepWitnessRowRef
import Derived.Lib.LaidTab
import Derived.Stop.Joined
set_option linter.unusedSimpArgs false
set_option linter.unusedVariables false
set_option maxRecDepth 100000
namespace Go.Proofs.YtlapmdiabhlbmaaDoor
open Go Go.PL Go.RowKit
instance same_noEscape : SameP Tryd.prog 53 := ⟨fun x w => by
  rw [run_callFunc_extern Tryd.func53 zz3 zz3 zz3 (e := Extern.AbiNoEscape.same) zz3]
  rw [Lib.run_noEscape]; rfl⟩
abbrev bEnts (b : Nat) (p v : Value) (xs : List UInt8) : List Ent := [.row v xs.length 5 1 (v8s xs), .blk b 61 [p, v]]
theorem copyCheck0 (b : Nat) (v : Value) (xs : List UInt8) (w : World) (hb : Mem w (nums (bEnts b (.pointer none) v xs)) (bEnts b (.pointer none) v xs) [] w) (hv : SV v xs.length)  :
    Calls Tryd.prog 43 [.pointer (some ⟨b, 0, none⟩)].toArray w (GivesA w (bEnts b (.pointer none) v xs) (fun _ : Unit => True) (fun _ => .tuple #[]) (fun _ => bEnts b (.pointer (some ⟨b, 0, none⟩)) v xs)) := by
  refine enter (m := 20) (R := Mem w (nums (bEnts b (.pointer none) v xs)) (bEnts b (.pointer none) v xs) []) Tryd.func43 rfl rfl (Nat.le_of_ble_eq_true rfl) hb ?_
  refine wpc_seq <| wpc_region <| wpl_q (q_pure rfl) rfl <| wpl_q (q_pure rfl) rfl <| wpl_q (q_field Tryd.underlying61 rfl Tryd.ti59 rfl rfl _ rfl) rfl <| wpl_q (q_ld Tryd.underlying59 rfl rfl rfl) rfl ?_
  refine wpl_q (q_ptrNilT Tryd.underlying59 rfl rfl zz3) rfl ?_
  refine wpl_nil <| ex_then ?_
  refine wpc_cond_t rfl ?_
  refine wpc_region <| wpl_q (q_pure rfl) rfl <| wpl_q (q_pure rfl) rfl ?_
  refine wpl_q (q_toU Tryd.underlying59 Tryd.underlying94 Tryd.ti61 rfl rfl (by exact Nat.zero_lt_succ _)) rfl ?_
  refine wpl_q (q_same rfl) rfl ?_
  refine wpl_q (q_fromU Tryd.underlying94 Tryd.underlying59 Tryd.ti61 rfl zz3) rfl ?_
  refine wpl_q (q_pure rfl) rfl <| wpl_q (q_field Tryd.underlying61 rfl Tryd.ti59 rfl rfl _ rfl) rfl ?_
  refine wpl_t0 (t_st1 Tryd.ti59 rfl rfl rfl zz10 _ rfl) (fun _ => ?_)
  refine wpl_nil ?_
  refine ret0 (.inr rfl) rfl ?_
  exact fun w h => ⟨(), trivial, rfl, h⟩
theorem copyCheck1 (b : Nat) (v : Value) (xs : List UInt8) (w : World) (hb : Mem w (nums (bEnts b (.pointer (some ⟨b, 0, none⟩)) v xs)) (bEnts b (.pointer (some ⟨b, 0, none⟩)) v xs) [] w) (hv : SV v xs.length)  :
    Calls Tryd.prog 43 [.pointer (some ⟨b, 0, none⟩)].toArray w (GivesA w (bEnts b (.pointer (some ⟨b, 0, none⟩)) v xs) (fun _ : Unit => True) (fun _ => .tuple #[]) (fun _ => bEnts b (.pointer (some ⟨b, 0, none⟩)) v xs)) := by
  refine enter (m := 20) (R := Mem w (nums (bEnts b (.pointer (some ⟨b, 0, none⟩)) v xs)) (bEnts b (.pointer (some ⟨b, 0, none⟩)) v xs) []) Tryd.func43 rfl rfl (Nat.le_of_ble_eq_true rfl) hb ?_
  refine wpc_seq <| wpc_region <| wpl_q (q_pure rfl) rfl <| wpl_q (q_pure rfl) rfl <| wpl_q (q_field Tryd.underlying61 rfl Tryd.ti59 rfl rfl _ rfl) rfl <| wpl_q (q_ld Tryd.underlying59 rfl rfl rfl) rfl ?_
  refine wpl_q (q_ptrNilF Tryd.underlying59 rfl rfl zz3) rfl ?_
  refine wpl_nil <| ex_then ?_
  refine wpc_cond_f rfl ?_
  refine wpc_seq <| wpc_region <| wpl_q (q_pure rfl) rfl <| wpl_q (q_pure rfl) rfl <| wpl_q (q_field Tryd.underlying61 rfl Tryd.ti59 rfl rfl _ rfl) rfl <| wpl_q (q_ld Tryd.underlying59 rfl rfl rfl) rfl <| wpl_q (q_pure rfl) rfl ?_
  refine wpl_q (q_ptrNe Tryd.underlying59 Tryd.ti61 rfl rfl zz3) rfl ?_
  refine wpl_nil <| ex_then ?_
  refine wpc_cond_f rfl ?_
  refine wpc_skip ?_
  refine ret0 (.inr rfl) rfl ?_
  exact fun w h => ⟨(), trivial, rfl, h⟩
theorem copyCheck (b : Nat) (p v : Value) (xs : List UInt8) (w : World) (hb : Mem w (nums (bEnts b p v xs)) (bEnts b p v xs) [] w) (hv : SV v xs.length) (hp : p = .pointer none ∨ p = .pointer (some ⟨b, 0, none⟩)) :
    Calls Tryd.prog 43 [.pointer (some ⟨b, 0, none⟩)].toArray w (GivesA w (bEnts b p v xs) (fun _ : Unit => True) (fun _ => .tuple #[]) (fun _ => bEnts b (.pointer (some ⟨b, 0, none⟩)) v xs)) := by
  rcases hp with rfl | rfl
  · exact copyCheck0 b v xs w hb hv
  · exact copyCheck1 b v xs w hb hv
theorem writeByte (b : Nat) (p v : Value) (xs : List UInt8) (c : UInt8) (w : World) (hb : Mem w (nums (bEnts b p v xs)) (bEnts b p v xs) [] w) (hv : SV v xs.length) (hp : p = .pointer none ∨ p = .pointer (some ⟨b, 0, none⟩)) (hl : xs.length ≤ 1000000)  :
    Calls Tryd.prog 32 [.pointer (some ⟨b, 0, none⟩), .int .u8 c.toNat].toArray w (GivesA w (bEnts b p v xs) (fun v' => SV v' (xs ++ [c]).length) (fun _ => .nilIface) (fun v' => bEnts b (.pointer (some ⟨b, 0, none⟩)) v' (xs ++ [c]))) := by
  refine enter (m := 17) (R := Mem w (nums (bEnts b p v xs)) (bEnts b p v xs) []) Tryd.func32 rfl rfl (Nat.le_of_ble_eq_true rfl) hb ?_
  refine wpc_seq <| wpc_region <| wpl_q (q_pure rfl) rfl <| wpl_nil <| ex_then <| wpc_seq <| wpc_region <| wpl_q (q_pure rfl) rfl ?_
  refine wpl_tp (t_callA Tryd.hb43 rfl fun w h h2 => copyCheck b p v xs w h2 hv hp) rfl (fun b6 p6 => ?_)
  refine wpl_nil <| ex_then <| wpc_seq <| wpc_region <| wpl_q (q_pure rfl) rfl <| wpl_q (q_pure rfl) rfl <| wpl_q (q_pure rfl) rfl <| wpl_q (q_field Tryd.underlying61 rfl Tryd.ti22 rfl rfl _ rfl) rfl <| wpl_q (q_ld Tryd.underlying22 rfl rfl rfl) rfl <| wpl_q (q_pure rfl) rfl ?_
  refine wpl_tp (t_bsV (v8s [_]) Tryd.underlying22 Tryd.ti5 rfl rfl zz15 zz15 rfl (v8s_one _)) rfl (fun b13 p13 => ?_)
  refine wpl_tp (t_apW Tryd.underlying22 Tryd.ti5 rfl zz15 rfl rfl (fun w h => zz7) (v8s_one _) zz1 zz1 _ (by first | with_reducible exact List.nil_append _ | exact (v8s_append _ _).symm | exact (vis_append _ _).symm | exact (vns_append _ _).symm | exact (v64s_append _ _).symm | exact (v32s_append _ _).symm | rfl)) rfl (fun b14 p14 => ?_)
  refine wpl_q (q_pure rfl) rfl <| wpl_q (q_field Tryd.underlying61 rfl Tryd.ti22 rfl rfl _ rfl) rfl ?_
  refine wpl_t0 (t_st1 Tryd.ti22 rfl rfl (SV.one zz5) zz10 _ rfl) (fun _ => ?_)
  refine wpl_nil <| ex_then <| wpc_seq <| wpc_region <| wpl_q (q_pure rfl) rfl <| wpl_nil <| ex_then <| wpc_ret ?_
  refine ret1 (.inl rfl) rfl rfl ?_
  exact fun w h => ⟨b14, by rw [List.length_append]; exact p14, rfl, by
      dsimp only [bEnts]
      rw [List.length_append]
      exact h.sub zz9 zz9⟩
theorem string1 (b : Nat) (p v : Value) (xs : List UInt8) (w : World) (hb : Mem w (nums (bEnts b p v xs)) (bEnts b p v xs) [] w) (hv : SV v xs.length) (hne : xs ≠ []) (hl : xs.length ≤ 1000000)  :
    Calls Tryd.prog 33 [.pointer (some ⟨b, 0, none⟩)].toArray w (GivesA w (bEnts b p v xs) (fun _ : Unit => True) (fun _ => str xs) (fun _ => [])) := by
  have hl0 : 0 < xs.length := List.length_pos_iff.2 hne
  refine enter (m := 14) (R := Mem w (nums (bEnts b p v xs)) (bEnts b p v xs) []) Tryd.func33 rfl rfl (Nat.le_of_ble_eq_true rfl) hb ?_
  refine wpc_seq <| wpc_region <| wpl_q (q_pure rfl) rfl <| wpl_nil <| ex_then <| wpc_seq ?_
  refine wpc_draw 10 zz3 (fun _ h => h.drew) ?_
  refine wpd_p 0 rfl zz3 trivial (q_pure rfl) rfl sk0 ?_
  refine wpd_p 1 rfl zz3 trivial (q_pure rfl) rfl sk0 ?_
  refine wpd_p 2 rfl zz3 trivial (q_field Tryd.underlying61 rfl Tryd.ti22 rfl rfl _ rfl) rfl sk0 ?_
  refine wpd_qB 3 [4, 10] rfl zz3 trivial (q_ld Tryd.underlying22 rfl rfl rfl) rfl (fun _ h => h) ?_
  refine wpd_p 5 rfl zz3 trivial (q_pure rfl) rfl sk0 ?_
  refine wpd_p 6 rfl zz3 trivial (q_pure rfl) rfl sk0 ?_
  refine wpd_p 7 rfl zz3 trivial (q_field Tryd.underlying61 rfl Tryd.ti22 rfl rfl _ rfl) rfl sk0 ?_
  refine wpd_qB 8 [9, 10] rfl zz3 trivial (q_ld Tryd.underlying22 rfl rfl rfl) rfl (fun _ h => h) ?_
  refine wpd_p 9 rfl zz3 trivial (q_lenW Tryd.underlying22 rfl zz5) rfl sk0 ?_
  refine wpd_p 4 rfl zz3 trivial (q_sliceData rfl hv (.inl hl0)) rfl sk0 ?_
  refine wpd_t 10 rfl zz3 trivial (t_unsafeStrL Tryd.underlying81 zz3 rfl rfl .here hne zz4) rfl (fun _ => skk rfl) (fun b13 => ?_)
  refine wpd_p 11 rfl zz3 trivial (q_pure rfl) rfl (skk rfl) ?_
  refine wpd_done zz3 ?_
  refine ex_then <| wpc_ret ?_
  refine ret1 (.inl rfl) rfl rfl ?_
  exact fun w h => ⟨(), trivial, rfl, h.sub .nil .nil⟩
theorem string0 (b : Nat) (p : Value) (w : World) (hb : Mem w (nums (bEnts b p (.slice none 0 0) [])) (bEnts b p (.slice none 0 0) []) [] w)  :
    Calls Tryd.prog 33 [.pointer (some ⟨b, 0, none⟩)].toArray w (GivesA w (bEnts b p (.slice none 0 0) []) (fun _ : Unit => True) (fun _ => str []) (fun _ => [])) := by
  refine enter (m := 14) (R := Mem w (nums (bEnts b p (.slice none 0 0) [])) (bEnts b p (.slice none 0 0) []) []) Tryd.func33 rfl rfl (Nat.le_of_ble_eq_true rfl) hb ?_
  refine wpc_seq <| wpc_region <| wpl_q (q_pure rfl) rfl <| wpl_nil <| ex_then <| wpc_seq ?_
  refine wpc_draw 12 zz3 (fun _ h => h.drew) ?_
  refine wpd_p 0 rfl zz3 trivial (q_pure rfl) rfl sk0 ?_
  refine wpd_p 1 rfl zz3 trivial (q_pure rfl) rfl sk0 ?_
  refine wpd_p 2 rfl zz3 trivial (q_field Tryd.underlying61 rfl Tryd.ti22 rfl rfl _ rfl) rfl sk0 ?_
  refine wpd_q 3 rfl zz3 trivial (q_ld Tryd.underlying22 rfl rfl rfl) rfl (fun _ h => h) ?_
  refine wpd_p 5 rfl zz3 trivial (q_pure rfl) rfl sk0 ?_
  refine wpd_p 6 rfl zz3 trivial (q_pure rfl) rfl sk0 ?_
  refine wpd_p 7 rfl zz3 trivial (q_field Tryd.underlying61 rfl Tryd.ti22 rfl rfl _ rfl) rfl sk0 ?_
  refine wpd_q 8 rfl zz3 trivial (q_ld Tryd.underlying22 rfl rfl rfl) rfl (fun _ h => h) ?_
  refine wpd_p 9 rfl zz3 trivial (q_lenW Tryd.underlying22 rfl zz5) rfl sk0 ?_
  refine wpd_p 4 rfl zz3 trivial (q_sliceData rfl SV.nil (.inr rfl)) rfl sk0 ?_
  refine wpd_p 10 rfl zz3 trivial (q_unsafeStr0 rfl rfl) rfl sk0 ?_
  refine wpd_p 11 rfl zz3 trivial (q_pure rfl) rfl sk0 ?_
  refine wpd_done zz3 ?_
  refine ex_then <| wpc_ret ?_
  refine ret1 (.inl rfl) rfl rfl ?_
  exact fun w h => ⟨(), trivial, rfl, h.sub .nil .nil⟩
theorem string_ (b : Nat) (p v : Value) (xs : List UInt8) (w : World) (hb : Mem w (nums (bEnts b p v xs)) (bEnts b p v xs) [] w) (hv : SV v xs.length) (hn : xs = [] → v = .slice none 0 0) (hl : xs.length ≤ 1000000) :
    Calls Tryd.prog 33 [.pointer (some ⟨b, 0, none⟩)].toArray w (GivesA w (bEnts b p v xs) (fun _ : Unit => True) (fun _ => str xs) (fun _ => [])) := by
  by_cases h : xs = []
  · obtain rfl := hn h
    subst h
    exact string0 b p w hb
  · exact string1 b p v xs w hb hv h hl
end Go.Proofs.YtlapmdiabhlbmaaDoor
namespace Go.Proofs.YtlapmdiabhlbmaaDoor
open Go Go.PL Go.RowKit
def rotlF (x : UInt32) (k : Int) : UInt32 :=
  sl32 x (((of64 k &&& 31).toNat : Nat) : Int).toNat ||| sr32 x (((32 - (of64 k &&& 31)).toNat : Nat) : Int).toNat
theorem rotl (x : UInt32) (k : Int) (w : World) :
    Calls Tryd.prog 52 [.int .u32 x.toNat, .int .i64 k].toArray w (Pur w (.int .u32 (rotlF x k).toNat)) := by
  refine enter (m := 17) (R := Mem w [] [] []) Tryd.func52 rfl rfl (Nat.le_of_ble_eq_true rfl) (Mem.start w) ?_
  refine wpc_seq <| wpc_region <| wpl_q (q_pure rfl) rfl <| wpl_nil <| ex_then <| wpc_seq <| wpc_region <| wpl_q (q_pure rfl) rfl <| wpl_q (q64_conv Tryd.underlying3 Tryd.underlying52 rfl) rfl ?_
  refine wpl_q (q64_and (b := (31 : UInt64)) rfl rfl) rfl ?_
  refine wpl_q (q_pure rfl) rfl <| wpl_nil <| ex_then <| wpc_seq <| wpc_region <| wpl_q (q_pure rfl) rfl <| wpl_q (q_pure rfl) rfl ?_
  refine wpl_q (q32_shl rfl rfl zz17 _ rfl) rfl ?_
  refine wpl_q (q_pure rfl) rfl <| wpl_q (q_pure rfl) rfl ?_
  refine wpl_q (q64_sub (a := (32 : UInt64)) rfl rfl) rfl ?_
  refine wpl_q (q32_shr rfl rfl zz17 _ rfl) rfl ?_
  refine wpl_q (q32_or rfl rfl) rfl <| wpl_q (q_pure rfl) rfl <| wpl_nil <| ex_then <| wpc_ret ?_
  refine ret1 (.inl rfl) rfl rfl ?_
  exact fun w h => ⟨rfl, h.below⟩
theorem turn (x : UInt32) (k : Int) (h0 : -64 ≤ k) (h1 : k ≤ 64) (w : World) :
    Calls Tryd.prog 42 [.int .u32 x.toNat, .int .i64 k].toArray w (Pur w (.int .u32 (rotlF x (-k)).toNat)) := by
  refine enter (m := 9) (R := Mem w [] [] []) Tryd.func42 rfl rfl (Nat.le_of_ble_eq_true rfl) (Mem.start w) ?_
  refine wpc_seq <| wpc_region <| wpl_q (q_pure rfl) rfl <| wpl_nil <| ex_then <| wpc_seq <| wpc_region <| wpl_q (q_pure rfl) rfl <| wpl_q (q_pure rfl) rfl ?_
  first | refine wpl_q (qop_eq (q_pure rfl) (congrArg (Value.int .i64) (wk_i64 zz4 zz4))) rfl ?_ | refine wpl_q (q_pure rfl) rfl ?_
  refine wpl_t (t_pur Tryd.hb52 rfl fun w h => rotl _ _ _) rfl ?_
  intro b8
  refine wpl_q (q_pure rfl) rfl <| wpl_nil <| ex_then <| wpc_ret ?_
  refine ret1 (.inl rfl) rfl rfl ?_
  exact fun w h => ⟨rfl, h.below⟩
end Go.Proofs.YtlapmdiabhlbmaaDoor
namespace Go.Proofs.YtlapmdiabhlbmaaDoor
open Go Go.PL Go.RowKit
def wordF (bs : List UInt8) (i : Nat) : UInt32 :=
  sl32 (of32 (bs.getD (4 * i) 0).toNat) 24 ||| sl32 (of32 (bs.getD (4 * i + 1) 0).toNat) 16 ||| sl32 (of32 (bs.getD (4 * i + 2) 0).toNat) 8 ||| of32 (bs.getD (4 * i + 3) 0).toNat
def mixF (ws : List UInt32) (i : Nat) : UInt32 :=
  (rotlF (ws.getD (i - 2) 0) (-17) ^^^ rotlF (ws.getD (i - 2) 0) (-19) ^^^ sr32 (ws.getD (i - 2) 0) 10) + ws.getD (i - 7) 0 + (rotlF (ws.getD (i - 15) 0) (-7) ^^^ rotlF (ws.getD (i - 15) 0) (-18) ^^^ sr32 (ws.getD (i - 15) 0) 3) + ws.getD (i - 16) 0
def wsF (bs : List UInt8) : Nat → List UInt32
  | 0 => []
  | i + 1 => wsF bs i ++ [if i < 16 then wordF bs i else mixF (wsF bs i) i]
theorem wsF_length (bs : List UInt8) : ∀ i, (wsF bs i).length = i
  | 0 => rfl
  | i + 1 => by simp [wsF, wsF_length bs i]
def stF (bs : List UInt8) (i : Nat) : List UInt32 := wsF bs i ++ List.replicate (64 - i) 0
theorem stF_length (bs : List UInt8) (i : Nat) (h : i ≤ 64) : (stF bs i).length = 64 := by simp [stF, wsF_length]; omega
theorem stF_get (bs : List UInt8) (i j : Nat) (h : j < i) : (stF bs i).getD j 0 = (wsF bs i).getD j 0 := by
  simp only [stF, List.getD_eq_getElem?_getD]; rw [List.getElem?_append_left (by rw [wsF_length]; exact h)]
theorem stF_set (bs : List UInt8) (i : Nat) (h : i < 64) (x : UInt32) (hx : x = if i < 16 then wordF bs i else mixF (wsF bs i) i) : (stF bs i).set i x = stF bs (i + 1) := by
  subst hx
  have e : List.replicate (64 - i) (0 : UInt32) = 0 :: List.replicate (64 - (i + 1)) 0 := by
    rw [show 64 - i = (64 - (i + 1)) + 1 from zz4, List.replicate_succ]
  simp only [stF, e, wsF]
  rw [List.set_append_right _ _ (by rw [wsF_length]; exact Nat.le_refl _), wsF_length, Nat.sub_self]
  simp
theorem mix_st (bs : List UInt8) (i : Nat) (h : 16 ≤ i) : mixF (stF bs i) i = mixF (wsF bs i) i := by
  unfold mixF
  rw [stF_get _ _ _ zz4, stF_get _ _ _ zz4, stF_get _ _ _ zz4, stF_get _ _ _ zz4]
theorem word (bs : List UInt8) (hl : bs.length = 64) (bb i : Nat) (hi : i < 16) (w : World) (hb : CellsAt w.cell? ⟨bb, 0, none⟩ (v8s bs)) :
    Calls Tryd.prog 51 [.pointer (some ⟨bb, 0, none⟩), .int .i64 i].toArray w (Pur w (.int .u32 (wordF bs i).toNat)) := by
  refine enter (m := 42) (R := Mem w [] [] []) Tryd.func51 rfl rfl (Nat.le_of_ble_eq_true rfl) (Mem.start w) ?_
  refine wpc_seq <| wpc_region <| wpl_q (q_pure rfl) rfl <| wpl_nil <| ex_then <| wpc_seq ?_
  refine wpc_draw 38 zz3 (fun _ h => h.drew) ?_
  refine wpd_p 0 rfl zz3 trivial (q_pure rfl) rfl sk0 ?_
  refine wpd_p 1 rfl zz3 trivial (q_pure rfl) rfl sk0 ?_
  first | refine wpd_p 2 rfl zz3 trivial (qop_eq (q_pure rfl) (congrArg (Value.int .i64) (wk_i64 zz4 zz4))) rfl sk0 ?_ | refine wpd_p 2 rfl zz3 trivial (q_pure rfl) rfl sk0 ?_
  refine wpd_p 3 rfl zz3 trivial (q_pure rfl) rfl sk0 ?_
  refine wpd_p 4 rfl zz3 trivial (q_idxA Tryd.underlying78 Tryd.ti5 rfl rfl zz4 zz4 (4 * i) zz4) rfl sk0 ?_
  refine wpd_q 5 rfl zz3 trivial (q_load1 Tryd.underlying5 rfl rfl (fun w h => h.cell_old (hb.at_ (v8s_get zz4)))) rfl (fun _ h => h) ?_
  refine wpd_p 6 rfl zz3 trivial (q32_conv Tryd.underlying5 Tryd.underlying46 rfl) rfl sk0 ?_
  refine wpd_p 7 rfl zz3 trivial (q32_shl rfl rfl zz17 _ rfl) rfl sk0 ?_
  refine wpd_p 8 rfl zz3 trivial (q_pure rfl) rfl sk0 ?_
  refine wpd_p 9 rfl zz3 trivial (q_pure rfl) rfl sk0 ?_
  first | refine wpd_p 10 rfl zz3 trivial (qop_eq (q_pure rfl) (congrArg (Value.int .i64) (wk_i64 zz4 zz4))) rfl sk0 ?_ | refine wpd_p 10 rfl zz3 trivial (q_pure rfl) rfl sk0 ?_
  first | refine wpd_p 11 rfl zz3 trivial (qop_eq (q_pure rfl) (congrArg (Value.int .i64) (wk_i64 zz4 zz4))) rfl sk0 ?_ | refine wpd_p 11 rfl zz3 trivial (q_pure rfl) rfl sk0 ?_
  refine wpd_p 12 rfl zz3 trivial (q_pure rfl) rfl sk0 ?_
  refine wpd_p 13 rfl zz3 trivial (q_idxA Tryd.underlying78 Tryd.ti5 rfl rfl zz4 zz4 (4 * i + 1) zz4) rfl sk0 ?_
  refine wpd_q 14 rfl zz3 trivial (q_load1 Tryd.underlying5 rfl rfl (fun w h => h.cell_old (hb.at_ (v8s_get zz4)))) rfl (fun _ h => h) ?_
  refine wpd_p 15 rfl zz3 trivial (q32_conv Tryd.underlying5 Tryd.underlying46 rfl) rfl sk0 ?_
  refine wpd_p 16 rfl zz3 trivial (q32_shl rfl rfl zz17 _ rfl) rfl sk0 ?_
  refine wpd_p 17 rfl zz3 trivial (q32_or rfl rfl) rfl sk0 ?_
  refine wpd_p 18 rfl zz3 trivial (q_pure rfl) rfl sk0 ?_
  refine wpd_p 19 rfl zz3 trivial (q_pure rfl) rfl sk0 ?_
  first | refine wpd_p 20 rfl zz3 trivial (qop_eq (q_pure rfl) (congrArg (Value.int .i64) (wk_i64 zz4 zz4))) rfl sk0 ?_ | refine wpd_p 20 rfl zz3 trivial (q_pure rfl) rfl sk0 ?_
  first | refine wpd_p 21 rfl zz3 trivial (qop_eq (q_pure rfl) (congrArg (Value.int .i64) (wk_i64 zz4 zz4))) rfl sk0 ?_ | refine wpd_p 21 rfl zz3 trivial (q_pure rfl) rfl sk0 ?_
  refine wpd_p 22 rfl zz3 trivial (q_pure rfl) rfl sk0 ?_
  refine wpd_p 23 rfl zz3 trivial (q_idxA Tryd.underlying78 Tryd.ti5 rfl rfl zz4 zz4 (4 * i + 2) zz4) rfl sk0 ?_
  refine wpd_q 24 rfl zz3 trivial (q_load1 Tryd.underlying5 rfl rfl (fun w h => h.cell_old (hb.at_ (v8s_get zz4)))) rfl (fun _ h => h) ?_
  refine wpd_p 25 rfl zz3 trivial (q32_conv Tryd.underlying5 Tryd.underlying46 rfl) rfl sk0 ?_
  refine wpd_p 26 rfl zz3 trivial (q32_shl rfl rfl zz17 _ rfl) rfl sk0 ?_
  refine wpd_p 27 rfl zz3 trivial (q32_or rfl rfl) rfl sk0 ?_
  refine wpd_p 28 rfl zz3 trivial (q_pure rfl) rfl sk0 ?_
  refine wpd_p 29 rfl zz3 trivial (q_pure rfl) rfl sk0 ?_
  first | refine wpd_p 30 rfl zz3 trivial (qop_eq (q_pure rfl) (congrArg (Value.int .i64) (wk_i64 zz4 zz4))) rfl sk0 ?_ | refine wpd_p 30 rfl zz3 trivial (q_pure rfl) rfl sk0 ?_
  first | refine wpd_p 31 rfl zz3 trivial (qop_eq (q_pure rfl) (congrArg (Value.int .i64) (wk_i64 zz4 zz4))) rfl sk0 ?_ | refine wpd_p 31 rfl zz3 trivial (q_pure rfl) rfl sk0 ?_
  refine wpd_p 32 rfl zz3 trivial (q_pure rfl) rfl sk0 ?_
  refine wpd_p 33 rfl zz3 trivial (q_idxA Tryd.underlying78 Tryd.ti5 rfl rfl zz4 zz4 (4 * i + 3) zz4) rfl sk0 ?_
  refine wpd_q 34 rfl zz3 trivial (q_load1 Tryd.underlying5 rfl rfl (fun w h => h.cell_old (hb.at_ (v8s_get zz4)))) rfl (fun _ h => h) ?_
  refine wpd_p 35 rfl zz3 trivial (q32_conv Tryd.underlying5 Tryd.underlying46 rfl) rfl sk0 ?_
  refine wpd_p 36 rfl zz3 trivial (q32_or rfl rfl) rfl sk0 ?_
  refine wpd_p 37 rfl zz3 trivial (q_pure rfl) rfl sk0 ?_
  refine wpd_done zz3 ?_
  refine ex_then <| wpc_ret ?_
  refine ret1 (.inl rfl) rfl rfl ?_
  exact fun w h => ⟨rfl, h.below⟩
theorem schedule (bs : List UInt8) (hl : bs.length = 64) (bb : Nat) (w : World) (hb : CellsAt w.cell? ⟨bb, 0, none⟩ (v8s bs)) :
    Calls Tryd.prog 41 [.pointer (some ⟨bb, 0, none⟩)].toArray w (Pur w (.agg (v32s (wsF bs 64)).toArray)) := by
  refine enter (m := 56) (R := Mem w [] [] []) Tryd.func41 rfl rfl (Nat.le_of_ble_eq_true rfl) (Mem.start w) ?_
  refine wpc_seq <| wpc_region ?_
  refine wpl_t (t_alloc Tryd.ti47 (v32s (List.replicate 64 0)) (by rfl)) rfl ?_
  intro b2
  refine wpl_nil <| ex_then <| wpc_seq <| wpc_region ?_
  refine wpl_t (t_alloc Tryd.ti47 (v32s (stF bs 0)) (by rfl)) rfl ?_
  intro b3
  refine wpl_nil <| ex_then <| wpc_seq <| wpc_seq <| wpc_region <| wpl_q (q_pure rfl) rfl <| wpl_nil <| ex_then <| wpc_block ?_
  refine wpc_loop (ι := { i : Nat // i ≤ 64 }) (fun i => [(7, .int .i64 (i.1 : Nat)), (3, .pointer (some ⟨b3, 0, none⟩)), (2, .pointer (some ⟨b2, 0, none⟩)), (0, .pointer (some ⟨bb, 0, none⟩))]) (fun i => Mem w [] [.blk b3 47 (v32s (stF bs i.1)), .blk b2 47 (v32s (List.replicate 64 0))] []) (fun i => 64 - i.1) ⟨0, zz4⟩ ?_ ?_ ?_
  · exact by repeat (first | exact trivial | refine ⟨rfl, ?_⟩)
  · exact fun w h => h
  · rintro ⟨i, hi⟩; dsimp only
    have hsl := stF_length bs i hi
    refine wpc_seq <| wpc_region <| wpl_q (q_pure rfl) rfl <| wpl_nil <| ex_then <| wpc_seq ?_
    refine wpc_cond rfl (fun hc8 => ?_) (fun hc8 => ?_)
    ·
      simp only [decide_eq_true_eq, decide_eq_false_iff_not, Bool.and_eq_true, Bool.or_eq_true, beq_iff_eq, bne_iff_ne, ne_eq] at hc8
      refine wpc_skip <| ex_then <| wpc_seq <| wpc_block <| wpc_seq <| wpc_region <| wpl_q (q_pure rfl) rfl <| wpl_q (q_pure rfl) rfl <| wpl_nil <| ex_then <| wpc_seq <| wpc_seq ?_
      refine wpc_region <| wpl_q (q_pure rfl) rfl <| wpl_q (q_pure rfl) rfl <| wpl_nil <| ex_then ?_
      refine wpc_cond rfl (fun hc11 => ?_) (fun hc11 => ?_)
      ·
        simp only [decide_eq_true_eq, decide_eq_false_iff_not, Bool.and_eq_true, Bool.or_eq_true, beq_iff_eq, bne_iff_ne, ne_eq] at hc11
        refine wpc_seq <| wpc_region <| wpl_q (q_pure rfl) rfl <| wpl_q (q_pure rfl) rfl <| wpl_q (q_pure rfl) rfl ?_
        refine wpl_t (t_pur Tryd.hb51 rfl fun w' h => word bs hl bb i zz4 w' (hb.mono fun _ _ hv => h.cell_old hv)) rfl ?_
        intro b15
        refine wpl_q (q_idxA Tryd.underlying47 Tryd.ti46 rfl rfl zz4 zz4 (i) zz4) rfl ?_
        refine wpl_t0 (t_st1 Tryd.ti46 rfl rfl rfl zz16 _ (by first | exact v32s_set _ | rfl)) ?_
        intro _
        refine wpl_nil <| ex_then ?_
        refine wpc_exit ?_
        refine ex_then_exit ?_
        refine ex_block_hit ?_
        refine ex_then <| wpc_region ?_
        first | refine wpl_q (qop_eq (q_pure rfl) (congrArg (Value.int .i64) (wk_i64 zz4 zz4))) rfl ?_ | refine wpl_q (q_pure rfl) rfl ?_
        refine wpl_q (q_pure rfl) rfl <| wpl_nil ?_
        refine ex_again ⟨i + 1, zz4⟩ ?_ ?_ ?_
        · exact zz8
        · exact fun w h => by
            first
            | exact (stF_set bs i zz4 _ (by rw [if_pos zz4])) ▸ h
            | exact (stF_set bs i zz4 _ ((mix_st bs i zz4).trans (by rw [if_neg zz4]))) ▸ h
        · show 64 - (i + 1) < 64 - i; omega
      ·
        simp only [decide_eq_true_eq, decide_eq_false_iff_not, Bool.and_eq_true, Bool.or_eq_true, beq_iff_eq, bne_iff_ne, ne_eq] at hc11
        refine wpc_skip <| ex_then <| wpc_seq ?_
        refine wpc_draw 10 zz3 (fun _ h => h.drew) ?_
        refine wpd_p 0 rfl zz3 trivial (q_pure rfl) rfl sk0 ?_
        first | refine wpd_p 1 rfl zz3 trivial (qop_eq (q_pure rfl) (congrArg (Value.int .i64) (wk_i64 zz4 zz4))) rfl sk0 ?_ | refine wpd_p 1 rfl zz3 trivial (q_pure rfl) rfl sk0 ?_
        refine wpd_p 2 rfl zz3 trivial (q_idxA Tryd.underlying47 Tryd.ti46 rfl rfl zz4 zz4 (i - 15) zz4) rfl sk0 ?_
        refine wpd_q 3 rfl zz3 trivial (q_ld Tryd.underlying46 rfl rfl zz14) rfl (fun _ h => h) ?_
        refine wpd_p 4 rfl zz3 trivial (q_pure rfl) rfl sk0 ?_
        first | refine wpd_p 5 rfl zz3 trivial (qop_eq (q_pure rfl) (congrArg (Value.int .i64) (wk_i64 zz4 zz4))) rfl sk0 ?_ | refine wpd_p 5 rfl zz3 trivial (q_pure rfl) rfl sk0 ?_
        refine wpd_p 6 rfl zz3 trivial (q_idxA Tryd.underlying47 Tryd.ti46 rfl rfl zz4 zz4 (i - 2) zz4) rfl sk0 ?_
        refine wpd_q 7 rfl zz3 trivial (q_ld Tryd.underlying46 rfl rfl zz14) rfl (fun _ h => h) ?_
        refine wpd_p 8 rfl zz3 trivial (q_pure rfl) rfl sk0 ?_
        refine wpd_p 9 rfl zz3 trivial (q_pure rfl) rfl sk0 ?_
        refine wpd_done zz3 ?_
        refine ex_then ?_
        refine wpc_draw 29 zz3 (fun _ h => h.drew) ?_
        refine wpd_p 0 rfl zz3 trivial (q_pure rfl) rfl sk0 ?_
        refine wpd_p 1 rfl zz3 trivial (q_pure rfl) rfl sk0 ?_
        refine wpd_p 3 rfl zz3 trivial (q_pure rfl) rfl sk0 ?_
        refine wpd_p 6 rfl zz3 trivial (q_pure rfl) rfl sk0 ?_
        refine wpd_p 7 rfl zz3 trivial (q32_shr rfl rfl zz17 _ rfl) rfl sk0 ?_
        refine wpd_p 9 rfl zz3 trivial (q_pure rfl) rfl sk0 ?_
        first | refine wpd_p 10 rfl zz3 trivial (qop_eq (q_pure rfl) (congrArg (Value.int .i64) (wk_i64 zz4 zz4))) rfl sk0 ?_ | refine wpd_p 10 rfl zz3 trivial (q_pure rfl) rfl sk0 ?_
        refine wpd_p 11 rfl zz3 trivial (q_idxA Tryd.underlying47 Tryd.ti46 rfl rfl zz4 zz4 (i - 7) zz4) rfl sk0 ?_
        refine wpd_q 12 rfl zz3 trivial (q_ld Tryd.underlying46 rfl rfl zz14) rfl (fun _ h => h) ?_
        refine wpd_p 14 rfl zz3 trivial (q_pure rfl) rfl sk0 ?_
        refine wpd_p 16 rfl zz3 trivial (q_pure rfl) rfl sk0 ?_
        refine wpd_p 19 rfl zz3 trivial (q_pure rfl) rfl sk0 ?_
        refine wpd_p 20 rfl zz3 trivial (q32_shr rfl rfl zz17 _ rfl) rfl sk0 ?_
        refine wpd_p 23 rfl zz3 trivial (q_pure rfl) rfl sk0 ?_
        first | refine wpd_p 24 rfl zz3 trivial (qop_eq (q_pure rfl) (congrArg (Value.int .i64) (wk_i64 zz4 zz4))) rfl sk0 ?_ | refine wpd_p 24 rfl zz3 trivial (q_pure rfl) rfl sk0 ?_
        refine wpd_p 25 rfl zz3 trivial (q_idxA Tryd.underlying47 Tryd.ti46 rfl rfl zz4 zz4 (i - 16) zz4) rfl sk0 ?_
        refine wpd_q 26 rfl zz3 trivial (q_ld Tryd.underlying46 rfl rfl zz14) rfl (fun _ h => h) ?_
        refine wpd_t 2 rfl zz3 trivial (t_pur Tryd.hb42 rfl fun w h => turn _ _ zz15 zz15 _) rfl (fun _ => sk0) ?_
        intro b27
        refine wpd_t 4 rfl zz3 trivial (t_pur Tryd.hb42 rfl fun w h => turn _ _ zz15 zz15 _) rfl (fun _ => sk0) ?_
        intro b29
        refine wpd_p 5 rfl zz3 trivial (q32_xor rfl rfl) rfl sk0 ?_
        refine wpd_p 8 rfl zz3 trivial (q32_xor rfl rfl) rfl sk0 ?_
        refine wpd_p 13 rfl zz3 trivial (q32_add rfl rfl) rfl sk0 ?_
        refine wpd_t 15 rfl zz3 trivial (t_pur Tryd.hb42 rfl fun w h => turn _ _ zz15 zz15 _) rfl (fun _ => sk0) ?_
        intro b40
        refine wpd_t 17 rfl zz3 trivial (t_pur Tryd.hb42 rfl fun w h => turn _ _ zz15 zz15 _) rfl (fun _ => sk0) ?_
        intro b42
        refine wpd_p 18 rfl zz3 trivial (q32_xor rfl rfl) rfl sk0 ?_
        refine wpd_p 21 rfl zz3 trivial (q32_xor rfl rfl) rfl sk0 ?_
        refine wpd_p 22 rfl zz3 trivial (q32_add rfl rfl) rfl sk0 ?_
        refine wpd_p 27 rfl zz3 trivial (q32_add rfl rfl) rfl sk0 ?_
        refine wpd_p 28 rfl zz3 trivial (q_idxA Tryd.underlying47 Tryd.ti46 rfl rfl zz4 zz4 (i) zz4) rfl sk0 ?_
        refine wpd_t0 29 rfl zz3 trivial (t_st1 Tryd.ti46 rfl rfl rfl zz16 _ (by first | exact v32s_set _ | rfl)) (fun _ => skk rfl) ?_
        intro _
        refine wpd_done zz3 ?_
        refine ex_block <| ex_then <| wpc_region ?_
        first | refine wpl_q (qop_eq (q_pure rfl) (congrArg (Value.int .i64) (wk_i64 zz4 zz4))) rfl ?_ | refine wpl_q (q_pure rfl) rfl ?_
        refine wpl_q (q_pure rfl) rfl <| wpl_nil ?_
        refine ex_again ⟨i + 1, zz4⟩ ?_ ?_ ?_
        · exact zz8
        · exact fun w h => by
            first
            | exact (stF_set bs i zz4 _ (by rw [if_pos zz4])) ▸ h
            | exact (stF_set bs i zz4 _ ((mix_st bs i zz4).trans (by rw [if_neg zz4]))) ▸ h
        · show 64 - (i + 1) < 64 - i; omega
    ·
      simp only [decide_eq_true_eq, decide_eq_false_iff_not, Bool.and_eq_true, Bool.or_eq_true, beq_iff_eq, bne_iff_ne, ne_eq] at hc8
      refine wpc_exit ?_
      refine ex_then_exit ?_
      refine ex_then_exit ?_
      refine ex_block_hit ?_
      refine ex_then <| wpc_seq <| wpc_region ?_
      refine wpl_q (q_ldN Tryd.underlying47 rfl Tryd.ti47 rfl zz13) rfl ?_
      refine wpl_t0 (t_stA Tryd.ti47 rfl rfl zz13 (v32s_one _) zz13) ?_
      intro _
      refine wpl_nil <| ex_then <| wpc_ret ?_
      refine retv1 (.inl rfl) rfl (rv_agg Tryd.underlying47 rfl Tryd.ti47 rfl (fun w h => h.cells_blk zz12) zz13) ?_
      have e : stF bs 64 = wsF bs 64 := by simp [stF]
      obtain rfl : i = 64 := by omega
      exact fun w h => ⟨by rw [e], h.below⟩
end Go.Proofs.YtlapmdiabhlbmaaDoor
namespace Go.Proofs.YtlapmdiabhlbmaaDoor
open Go Go.PL Go.RowKit
def rootsL : List UInt32 := [1116352408, 1899447441, 3049323471, 3921009573, 961987163, 1508970993, 2453635748, 2870763221, 3624381080, 310598401, 607225278, 1426881987, 1925078388, 2162078206, 2614888103, 3248222580, 3835390401, 4022224774, 264347078, 604807628, 770255983, 1249150122, 1555081692, 1996064986, 2554220882, 2821834349, 2952996808, 3210313671, 3336571891, 3584528711, 113926993, 338241895, 666307205, 773529912, 1294757372, 1396182291, 1695183700, 1986661051, 2177026350, 2456956037, 2730485921, 2820302411, 3259730800, 3345764771, 3516065817, 3600352804, 4094571909, 275423344, 430227734, 506948616, 659060556, 883997877, 958139571, 1322822218, 1537002063, 1747873779, 1955562222, 2024104815, 2227730452, 2361852424, 2428436474, 2756734187, 3204031479, 3329325298]
theorem rootsL_length : rootsL.length = 64 := rfl
def tF (k w : UInt32) (r : List UInt32) : UInt32 :=
  r.getD 7 0 + (rotlF (r.getD 4 0) (-6) ^^^ rotlF (r.getD 4 0) (-11) ^^^ rotlF (r.getD 4 0) (-25)) + ((r.getD 4 0 &&& r.getD 5 0) ^^^ (~~~ r.getD 4 0 &&& r.getD 6 0)) + k + w
def uF (r : List UInt32) : UInt32 :=
  (rotlF (r.getD 0 0) (-2) ^^^ rotlF (r.getD 0 0) (-13) ^^^ rotlF (r.getD 0 0) (-22)) + ((r.getD 0 0 &&& r.getD 1 0) ^^^ (r.getD 0 0 &&& r.getD 2 0) ^^^ (r.getD 1 0 &&& r.getD 2 0))
def roundF (k w : UInt32) (r : List UInt32) : List UInt32 :=
  [tF k w r + uF r, r.getD 0 0, r.getD 1 0, r.getD 2 0, r.getD 3 0 + tF k w r, r.getD 4 0, r.getD 5 0, r.getD 6 0]
def roundsF (ws st : List UInt32) : Nat → List UInt32
  | 0 => st
  | i + 1 => roundF (rootsL.getD i 0) (ws.getD i 0) (roundsF ws st i)
theorem roundsF_length (ws st : List UInt32) (h : st.length = 8) : ∀ i, (roundsF ws st i).length = 8
  | 0 => h
  | i + 1 => rfl
def sumN (st r : List UInt32) : Nat → List UInt32
  | 0 => st
  | i + 1 => (sumN st r i).set i ((sumN st r i).getD i 0 + r.getD i 0)
theorem sumN_length (st r : List UInt32) : ∀ i, (sumN st r i).length = st.length
  | 0 => rfl
  | i + 1 => by simp [sumN, sumN_length st r i]
def addF (st : List UInt32) (bs : List UInt8) : List UInt32 := sumN st (roundsF (wsF bs 64) st 64) 8
theorem addF_length (st : List UInt32) (bs : List UInt8) : (addF st bs).length = st.length := sumN_length _ _ _
theorem add (sb bb : Nat) (st : List UInt32) (bs : List UInt8) (hst : st.length = 8) (hbs : bs.length = 64) (w : World) (hs : w.heap[sb]? = some (.cells (v32s st).toArray 53 (0, 0))) (hb : CellsAt w.cell? ⟨bb, 0, none⟩ (v8s bs)) (hne : bb ≠ sb) (hro : CellsAt w.cell? ⟨0, 0, none⟩ (v32s rootsL)) (h0 : 0 ≠ sb) :
    Calls Tryd.prog 31 [.pointer (some ⟨sb, 0, none⟩), .pointer (some ⟨bb, 0, none⟩)].toArray w (GivesL w [sb] (fun _ : Unit => .tuple #[]) fun _ => [.blk sb 53 (v32s (addF st bs))]) := by
  refine enter (m := 111) (R := Mem w [sb] [.blk sb 53 (v32s st)] []) Tryd.func31 rfl rfl (Nat.le_of_ble_eq_true rfl) (Mem.start1 w hs) ?_
  refine wpc_seq <| wpc_region <| wpl_q (q_pure rfl) rfl <| wpl_q (q_pure rfl) rfl ?_
  refine wpl_q (q_ldN Tryd.underlying53 rfl Tryd.ti53 rfl zz13) rfl ?_
  refine wpl_t (t_alloc Tryd.ti53 _ rfl) rfl ?_
  intro b4
  refine wpl_t0 (t_stA Tryd.ti53 rfl rfl zz13 (v32s_one _) zz13) ?_
  intro _
  refine wpl_nil <| ex_then <| wpc_seq <| wpc_seq <| wpc_region <| wpl_q (q_pure rfl) rfl ?_
  refine wpl_t (t_pur Tryd.hb41 rfl fun w' h => schedule bs hbs bb w' (h.at_oldL hb (by simpa using hne))) rfl ?_
  intro b16
  refine wpl_q (q_pure rfl) rfl <| wpl_nil <| ex_then <| wpc_block ?_
  refine wpc_loop (ι := { i : Nat // i ≤ 64 }) (fun i => [(17, .int .i64 (i.1 : Nat)), (16, .agg (v32s (wsF bs 64)).toArray), (4, .pointer (some ⟨b4, 0, none⟩)), (0, .pointer (some ⟨sb, 0, none⟩))]) (fun i => Mem w [sb] [.blk b4 53 (v32s (roundsF (wsF bs 64) st i.1)), .blk sb 53 (v32s st)] []) (fun i => 64 - i.1) ⟨0, zz4⟩ ?_ ?_ ?_
  · exact by repeat (first | exact trivial | refine ⟨rfl, ?_⟩)
  · exact fun w h => h
  · rintro ⟨i, hi⟩; dsimp only
    have hrl := roundsF_length (wsF bs 64) st hst i
    have hwl := wsF_length bs 64
    refine wpc_seq <| wpc_region <| wpl_q (q_pure rfl) rfl <| wpl_nil <| ex_then <| wpc_seq ?_
    refine wpc_cond rfl (fun hc18 => ?_) (fun hc18 => ?_)
    ·
      simp only [decide_eq_true_eq, decide_eq_false_iff_not, Bool.and_eq_true, Bool.or_eq_true, beq_iff_eq, bne_iff_ne, ne_eq] at hc18
      refine wpc_skip <| ex_then <| wpc_seq <| wpc_block <| wpc_seq <| wpc_region <| wpl_q (q_pure rfl) rfl ?_
      refine wpl_q (q_idxV Tryd.underlying47 Tryd.ti46 Tryd.underlying46 rfl rfl rfl zz4 zz4 (i) zz4 zz14) rfl ?_
      refine wpl_q (q_pure rfl) rfl <| wpl_q (q_pure rfl) rfl <| wpl_nil <| ex_then <| wpc_seq ?_
      refine wpc_draw 6 zz3 (fun _ h => h.drew) ?_
      refine wpd_p 0 rfl zz3 trivial (q_idxA Tryd.underlying53 Tryd.ti46 rfl rfl zz4 zz4 0 rfl) rfl sk0 ?_
      refine wpd_q 1 rfl zz3 trivial (q_ld Tryd.underlying46 rfl rfl zz14) rfl (fun _ h => h) ?_
      refine wpd_p 2 rfl zz3 trivial (q_idxA Tryd.underlying53 Tryd.ti46 rfl rfl zz4 zz4 4 rfl) rfl sk0 ?_
      refine wpd_q 3 rfl zz3 trivial (q_ld Tryd.underlying46 rfl rfl zz14) rfl (fun _ h => h) ?_
      refine wpd_p 4 rfl zz3 trivial (q_pure rfl) rfl sk0 ?_
      refine wpd_p 5 rfl zz3 trivial (q_pure rfl) rfl sk0 ?_
      refine wpd_done zz3 ?_
      refine ex_then <| wpc_seq ?_
      refine wpc_draw 29 zz3 (fun _ h => h.drew) ?_
      refine wpd_p 0 rfl zz3 trivial (q_idxA Tryd.underlying53 Tryd.ti46 rfl rfl zz4 zz4 7 rfl) rfl sk0 ?_
      refine wpd_q 1 rfl zz3 trivial (q_ld Tryd.underlying46 rfl rfl zz14) rfl (fun _ h => h) ?_
      refine wpd_p 2 rfl zz3 trivial (q_pure rfl) rfl sk0 ?_
      refine wpd_p 4 rfl zz3 trivial (q_pure rfl) rfl sk0 ?_
      refine wpd_p 7 rfl zz3 trivial (q_pure rfl) rfl sk0 ?_
      refine wpd_p 11 rfl zz3 trivial (q_pure rfl) rfl sk0 ?_
      refine wpd_p 12 rfl zz3 trivial (q_idxA Tryd.underlying53 Tryd.ti46 rfl rfl zz4 zz4 5 rfl) rfl sk0 ?_
      refine wpd_q 13 rfl zz3 trivial (q_ld Tryd.underlying46 rfl rfl zz14) rfl (fun _ h => h) ?_
      refine wpd_p 14 rfl zz3 trivial (q32_and rfl rfl) rfl sk0 ?_
      refine wpd_p 15 rfl zz3 trivial (q_pure rfl) rfl sk0 ?_
      refine wpd_p 16 rfl zz3 trivial (q32_not rfl) rfl sk0 ?_
      refine wpd_p 17 rfl zz3 trivial (q_idxA Tryd.underlying53 Tryd.ti46 rfl rfl zz4 zz4 6 rfl) rfl sk0 ?_
      refine wpd_q 18 rfl zz3 trivial (q_ld Tryd.underlying46 rfl rfl zz14) rfl (fun _ h => h) ?_
      refine wpd_p 19 rfl zz3 trivial (q32_and rfl rfl) rfl sk0 ?_
      refine wpd_p 20 rfl zz3 trivial (q32_xor rfl rfl) rfl sk0 ?_
      refine wpd_p 22 rfl zz3 trivial (q_pure rfl) rfl sk0 ?_
      refine wpd_p 23 rfl zz3 trivial (q_idxA Tryd.underlying47 Tryd.ti46 rfl rfl zz4 zz4 (i) zz4) rfl sk0 ?_
      refine wpd_q 24 rfl zz3 trivial (q_load1 Tryd.underlying46 rfl rfl (fun w h => h.cell_oldL (hro.at_ (v32s_get (by rw [rootsL_length]; omega))) (by simpa using h0))) rfl (fun _ h => h) ?_
      refine wpd_p 26 rfl zz3 trivial (q_pure rfl) rfl sk0 ?_
      refine wpd_t 3 rfl zz3 trivial (t_pur Tryd.hb42 rfl fun w h => turn _ _ zz15 zz15 _) rfl (fun _ => sk0) ?_
      intro b28
      refine wpd_t 5 rfl zz3 trivial (t_pur Tryd.hb42 rfl fun w h => turn _ _ zz15 zz15 _) rfl (fun _ => sk0) ?_
      intro b30
      refine wpd_p 6 rfl zz3 trivial (q32_xor rfl rfl) rfl sk0 ?_
      refine wpd_t 8 rfl zz3 trivial (t_pur Tryd.hb42 rfl fun w h => turn _ _ zz15 zz15 _) rfl (fun _ => sk0) ?_
      intro b33
      refine wpd_p 9 rfl zz3 trivial (q32_xor rfl rfl) rfl sk0 ?_
      refine wpd_p 10 rfl zz3 trivial (q32_add rfl rfl) rfl sk0 ?_
      refine wpd_p 21 rfl zz3 trivial (q32_add rfl rfl) rfl sk0 ?_
      refine wpd_p 25 rfl zz3 trivial (q32_add rfl rfl) rfl sk0 ?_
      refine wpd_p 27 rfl zz3 trivial (q32_add rfl rfl) rfl sk0 ?_
      refine wpd_p 28 rfl zz3 trivial (q_pure rfl) rfl sk0 ?_
      refine wpd_done zz3 ?_
      refine ex_then <| wpc_seq ?_
      refine wpc_draw 25 zz3 (fun _ h => h.drew) ?_
      refine wpd_p 0 rfl zz3 trivial (q_pure rfl) rfl sk0 ?_
      refine wpd_p 2 rfl zz3 trivial (q_pure rfl) rfl sk0 ?_
      refine wpd_p 5 rfl zz3 trivial (q_pure rfl) rfl sk0 ?_
      refine wpd_p 8 rfl zz3 trivial (q_pure rfl) rfl sk0 ?_
      refine wpd_p 9 rfl zz3 trivial (q_idxA Tryd.underlying53 Tryd.ti46 rfl rfl zz4 zz4 1 rfl) rfl sk0 ?_
      refine wpd_q 10 rfl zz3 trivial (q_ld Tryd.underlying46 rfl rfl zz14) rfl (fun _ h => h) ?_
      refine wpd_p 11 rfl zz3 trivial (q32_and rfl rfl) rfl sk0 ?_
      refine wpd_p 12 rfl zz3 trivial (q_pure rfl) rfl sk0 ?_
      refine wpd_p 13 rfl zz3 trivial (q_idxA Tryd.underlying53 Tryd.ti46 rfl rfl zz4 zz4 2 rfl) rfl sk0 ?_
      refine wpd_q 14 rfl zz3 trivial (q_ld Tryd.underlying46 rfl rfl zz14) rfl (fun _ h => h) ?_
      refine wpd_p 15 rfl zz3 trivial (q32_and rfl rfl) rfl sk0 ?_
      refine wpd_p 16 rfl zz3 trivial (q32_xor rfl rfl) rfl sk0 ?_
      refine wpd_p 17 rfl zz3 trivial (q_idxA Tryd.underlying53 Tryd.ti46 rfl rfl zz4 zz4 1 rfl) rfl sk0 ?_
      refine wpd_q 18 rfl zz3 trivial (q_ld Tryd.underlying46 rfl rfl zz14) rfl (fun _ h => h) ?_
      refine wpd_p 19 rfl zz3 trivial (q_idxA Tryd.underlying53 Tryd.ti46 rfl rfl zz4 zz4 2 rfl) rfl sk0 ?_
      refine wpd_q 20 rfl zz3 trivial (q_ld Tryd.underlying46 rfl rfl zz14) rfl (fun _ h => h) ?_
      refine wpd_p 21 rfl zz3 trivial (q32_and rfl rfl) rfl sk0 ?_
      refine wpd_p 22 rfl zz3 trivial (q32_xor rfl rfl) rfl sk0 ?_
      refine wpd_t 1 rfl zz3 trivial (t_pur Tryd.hb42 rfl fun w h => turn _ _ zz15 zz15 _) rfl (fun _ => sk0) ?_
      intro b54
      refine wpd_t 3 rfl zz3 trivial (t_pur Tryd.hb42 rfl fun w h => turn _ _ zz15 zz15 _) rfl (fun _ => sk0) ?_
      intro b56
      refine wpd_p 4 rfl zz3 trivial (q32_xor rfl rfl) rfl sk0 ?_
      refine wpd_t 6 rfl zz3 trivial (t_pur Tryd.hb42 rfl fun w h => turn _ _ zz15 zz15 _) rfl (fun _ => sk0) ?_
      intro b59
      refine wpd_p 7 rfl zz3 trivial (q32_xor rfl rfl) rfl sk0 ?_
      refine wpd_p 23 rfl zz3 trivial (q32_add rfl rfl) rfl sk0 ?_
      refine wpd_p 24 rfl zz3 trivial (q_pure rfl) rfl sk0 ?_
      refine wpd_done zz3 ?_
      refine ex_then <| wpc_region <| wpl_q (q_pure rfl) rfl <| wpl_q (q_pure rfl) rfl <| wpl_q (q32_add rfl rfl) rfl <| wpl_q (q_pure rfl) rfl ?_
      refine wpl_q (q_idxA Tryd.underlying53 Tryd.ti46 rfl rfl zz4 zz4 1 rfl) rfl ?_
      refine wpl_q (q_ld Tryd.underlying46 rfl rfl zz14) rfl ?_
      refine wpl_q (q_idxA Tryd.underlying53 Tryd.ti46 rfl rfl zz4 zz4 2 rfl) rfl ?_
      refine wpl_q (q_ld Tryd.underlying46 rfl rfl zz14) rfl ?_
      refine wpl_q (q_idxA Tryd.underlying53 Tryd.ti46 rfl rfl zz4 zz4 3 rfl) rfl ?_
      refine wpl_q (q_ld Tryd.underlying46 rfl rfl zz14) rfl ?_
      refine wpl_q (q_pure rfl) rfl <| wpl_q (q32_add rfl rfl) rfl <| wpl_q (q_pure rfl) rfl ?_
      refine wpl_q (q_idxA Tryd.underlying53 Tryd.ti46 rfl rfl zz4 zz4 5 rfl) rfl ?_
      refine wpl_q (q_ld Tryd.underlying46 rfl rfl zz14) rfl ?_
      refine wpl_q (q_idxA Tryd.underlying53 Tryd.ti46 rfl rfl zz4 zz4 6 rfl) rfl ?_
      refine wpl_q (q_ld Tryd.underlying46 rfl rfl zz14) rfl ?_
      refine wpl_q (q_buildFull (v32s (roundF (rootsL.getD i 0) ((wsF bs 64).getD i 0) (roundsF (wsF bs 64) st i))) Tryd.underlying53 Tryd.ti53 Tryd.ti46 rfl rfl (v32s_one _) rfl) rfl ?_
      refine wpl_t0 (t_stA Tryd.ti53 rfl rfl (v32s_length _) (v32s_one _) ((v32s_length _).trans hrl)) ?_
      intro _
      refine wpl_nil <| ex_block <| ex_then <| wpc_region ?_
      first | refine wpl_q (qop_eq (q_pure rfl) (congrArg (Value.int .i64) (wk_i64 zz4 zz4))) rfl ?_ | refine wpl_q (q_pure rfl) rfl ?_
      refine wpl_q (q_pure rfl) rfl <| wpl_nil ?_
      refine ex_again ⟨i + 1, zz4⟩ ?_ ?_ ?_
      · exact zz8
      · exact fun w h => h
      · show 64 - (i + 1) < 64 - i; omega
    ·
      simp only [decide_eq_false_iff_not] at hc18
      obtain rfl : i = 64 := by omega
      have hrl := roundsF_length (wsF bs 64) st hst 64
      refine wpc_exit ?_
      refine ex_then_exit ?_
      refine ex_then_exit ?_
      refine ex_block_hit ?_
      refine ex_then <| wpc_seq <| wpc_region <| wpl_q (q_pure rfl) rfl <| wpl_nil <| ex_then <| wpc_block ?_
      refine wpc_loop (ι := { j : Nat // j ≤ 8 }) (fun i => [(96, .int .i64 (i.1 : Nat)), (4, .pointer (some ⟨b4, 0, none⟩)), (0, .pointer (some ⟨sb, 0, none⟩))]) (fun j => Mem w [sb] [.blk b4 53 (v32s (roundsF (wsF bs 64) st 64)), .blk sb 53 (v32s (sumN st (roundsF (wsF bs 64) st 64) j.1))] []) (fun j => 8 - j.1) ⟨0, zz4⟩ ?_ ?_ ?_
      · exact by repeat (first | exact trivial | refine ⟨rfl, ?_⟩)
      · exact fun w h => h
      · rintro ⟨j, hj⟩; dsimp only
        have hsl := (sumN_length st (roundsF (wsF bs 64) st 64) j).trans hst
        refine wpc_seq <| wpc_region <| wpl_q (q_pure rfl) rfl <| wpl_nil <| ex_then <| wpc_seq ?_
        refine wpc_cond rfl (fun hc97 => ?_) (fun hc97 => ?_)
        ·
          simp only [decide_eq_true_eq, decide_eq_false_iff_not, Bool.and_eq_true, Bool.or_eq_true, beq_iff_eq, bne_iff_ne, ne_eq] at hc97
          refine wpc_skip <| ex_then <| wpc_seq <| wpc_block <| wpc_seq <| wpc_region <| wpl_q (q_pure rfl) rfl <| wpl_q (q_pure rfl) rfl <| wpl_nil <| ex_then ?_
          refine wpc_draw 11 zz3 (fun _ h => h.drew) ?_
          refine wpd_p 0 rfl zz3 trivial (q_pure rfl) rfl sk0 ?_
          refine wpd_p 1 rfl zz3 trivial (q_pure rfl) rfl sk0 ?_
          refine wpd_p 2 rfl zz3 trivial (q_pure rfl) rfl sk0 ?_
          refine wpd_p 3 rfl zz3 trivial (q_idxA Tryd.underlying53 Tryd.ti46 rfl rfl zz4 zz4 (j) zz4) rfl sk0 ?_
          refine wpd_q 4 rfl zz3 trivial (q_ld Tryd.underlying46 rfl rfl zz14) rfl (fun _ h => h) ?_
          refine wpd_p 5 rfl zz3 trivial (q_pure rfl) rfl sk0 ?_
          refine wpd_p 6 rfl zz3 trivial (q_idxA Tryd.underlying53 Tryd.ti46 rfl rfl zz4 zz4 (j) zz4) rfl sk0 ?_
          refine wpd_q 7 rfl zz3 trivial (q_ld Tryd.underlying46 rfl rfl zz14) rfl (fun _ h => h) ?_
          refine wpd_p 8 rfl zz3 trivial (q32_add rfl rfl) rfl sk0 ?_
          refine wpd_p 9 rfl zz3 trivial (q_pure rfl) rfl sk0 ?_
          refine wpd_p 10 rfl zz3 trivial (q_idxA Tryd.underlying53 Tryd.ti46 rfl rfl zz4 zz4 (j) zz4) rfl sk0 ?_
          refine wpd_t0 11 rfl zz3 trivial (t_st1 Tryd.ti46 rfl rfl rfl zz16 _ (by first | exact v32s_set _ | rfl)) (fun _ => skk rfl) ?_
          intro _
          refine wpd_done zz3 ?_
          refine ex_block <| ex_then <| wpc_region ?_
          first | refine wpl_q (qop_eq (q_pure rfl) (congrArg (Value.int .i64) (wk_i64 zz4 zz4))) rfl ?_ | refine wpl_q (q_pure rfl) rfl ?_
          refine wpl_q (q_pure rfl) rfl <| wpl_nil ?_
          refine ex_again ⟨j + 1, zz4⟩ ?_ ?_ ?_
          · exact zz8
          · exact fun w h => h
          · show 8 - (j + 1) < 8 - j; omega
        ·
          simp only [decide_eq_true_eq, decide_eq_false_iff_not, Bool.and_eq_true, Bool.or_eq_true, beq_iff_eq, bne_iff_ne, ne_eq] at hc97
          refine wpc_exit ?_
          refine ex_then_exit ?_
          refine ex_then_exit ?_
          refine ex_block_hit ?_
          refine ret0 (.inr rfl) rfl ?_
          obtain rfl : j = 8 := by omega
          exact fun w h => ⟨(), rfl, h.sub (.drop (Sub.refl _)) .nil⟩
end Go.Proofs.YtlapmdiabhlbmaaDoor
namespace Go.Proofs.YtlapmdiabhlbmaaDoor
open Go Go.PL Go.RowKit
def chunksF (c : List UInt8) : List (List UInt8) := (List.range (c.length / 64)).map fun i => (c.drop (64 * i)).take 64
def bufF (c : List UInt8) : List UInt8 := c.drop (64 * (c.length / 64)) ++ List.replicate (64 - c.length % 64) 0
theorem bufF_length (c : List UInt8) : (bufF c).length = 64 := by
  simp only [bufF, List.length_append, List.length_drop, List.length_replicate]
  omega
theorem bufF_zero (c : List UInt8) (h : c.length % 64 = 0) : bufF c = List.replicate 64 0 := by
  unfold bufF
  rw [h, List.drop_of_length_le zz4]; rfl
theorem buf_take (c : List UInt8) : (bufF c).take (c.length % 64) = c.drop (64 * (c.length / 64)) := by
  unfold bufF
  rw [List.take_append_of_le_length zz18]
  exact List.take_of_length_le zz18
theorem buf_drop (c : List UInt8) (k : Nat) : (bufF c).drop (c.length % 64 + k) = List.replicate (64 - (c.length % 64 + k)) 0 := by
  unfold bufF
  have e : (c.drop (64 * (c.length / 64))).length = c.length % 64 := by rw [List.length_drop]; omega
  rw [List.drop_append, e, show c.length % 64 + k - c.length % 64 = k from zz4, List.drop_of_length_le zz4, List.nil_append, List.drop_replicate]
  congr 1; omega
theorem put_part (c x : List UInt8) (h : c.length % 64 + x.length < 64) : chunksF (c ++ x) = chunksF c ∧ (bufF c).take (c.length % 64) ++ x ++ (bufF c).drop (c.length % 64 + x.length) = bufF (c ++ x) := by
  have hq : (c ++ x).length / 64 = c.length / 64 := by rw [List.length_append]; omega
  have hm : (c ++ x).length % 64 = c.length % 64 + x.length := by rw [List.length_append]; omega
  constructor
  · unfold chunksF
    rw [hq]
    apply List.map_congr_left
    intro i hi
    have hi' := List.mem_range.1 hi
    rw [List.drop_append_of_le_length zz4, List.take_append_of_le_length zz18]
  · rw [buf_take, buf_drop]
    unfold bufF
    rw [hq, hm, List.drop_append_of_le_length zz4]
theorem put_full (c x : List UInt8) (h : c.length % 64 + x.length = 64) : chunksF (c ++ x) = chunksF c ++ [(bufF c).take (c.length % 64) ++ x ++ (bufF c).drop (c.length % 64 + x.length)] ∧ (c ++ x).length % 64 = 0 := by
  have hq : (c ++ x).length / 64 = c.length / 64 + 1 := by rw [List.length_append]; omega
  have hm : (c ++ x).length % 64 = 0 := by rw [List.length_append]; omega
  refine ⟨?_, hm⟩
  unfold chunksF
  rw [hq, List.range_succ, List.map_append, buf_take, buf_drop]
  congr 1
  · apply List.map_congr_left
    intro i hi
    have hi' := List.mem_range.1 hi
    rw [List.drop_append_of_le_length zz4, List.take_append_of_le_length zz18]
  · simp only [List.map_cons, List.map_nil]
    rw [List.drop_append_of_le_length zz4, List.take_of_length_le (by rw [List.length_append, List.length_drop]; omega), h]
    simp
abbrev Jt := List Nat → List (List UInt8) → World → Prop
structure PutInv (J : Jt) (T : List Nat) (c p : List UInt8) (p0 : Value) (b nb y l : Nat) (wS : World) (j : Nat) (v : Value) (wb : World) : Prop where
  le : j ≤ p.length
  J : J T (chunksF (c ++ p.take j)) wb
  v : ∀ r, Seen r p0 p.length 1 (v8s p) → Seen r v (p.length - j) 1 (v8s (p.drop j))
  seen : Seen wb.cell? p0 p.length 1 (v8s p)
  yv : wb.heap[y]? = some (.cells #[.func (.yield l) #[] #[]] 76 (0, 0))
  keep : ∀ k, k ∈ T → k ≠ b → k ≠ nb → wb.heap[k]? = wS.heap[k]?
  size : wS.heap.size ≤ wb.heap.size
def PutPost (J : Jt) (T : List Nat) (c : List UInt8) (b nb : Nat) (wS : World) (e : Ending) (w : World) : Prop :=
  e = .returned (.tuple #[]) ∧ J T (chunksF c) w ∧ w.heap[b]? = some (.cells (v8s (bufF c)).toArray 78 (0, 0)) ∧ w.heap[nb]? = some (.cells #[.int .i64 ((c.length % 64 : Nat) : Int)] 3 (0, 0)) ∧
    (∀ k, k ∈ T → k ≠ b → k ≠ nb → w.heap[k]? = wS.heap[k]?) ∧ wS.heap.size ≤ w.heap.size
instance nop_put {P : Program} {fn : Func} {J : Jt} {T : List Nat} {c : List UInt8} {b nb : Nat} {wS : World} : NoP (bodyPost P fn (PutPost J T c b nb wS)) := nop_post fun c w' h => by cases h.1
def putM (c : List UInt8) (b nb : Nat) : List Ent := [.blk b 78 (v8s (bufF c)), .blk nb 3 [.int .i64 ((c.length % 64 : Nat) : Int)]]
section
variable (J : Jt) (T : List Nat) (c p : List UInt8) (p0 : Value) (b nb y l : Nat) (wS : World)
theorem slice_v {j q : Nat} {a : Option Addr} {cap : Nat} (hv : ∀ r, Seen r p0 p.length 1 (v8s p) → Seen r (.slice a (p.length - j) cap) (p.length - j) 1 (v8s (p.drop j))) (hj : j + q ≤ p.length) :
    ∀ r, Seen r p0 p.length 1 (v8s p) → Seen r (sliced a q (p.length - j) cap 1) (p.length - (j + q)) 1 (v8s (p.drop (j + q))) := fun r hr => by
  have h1 := (hv r hr).slice q (p.length - j) zz4 (Nat.le_refl _)
  have e1 : (p.length - j - q) = p.length - (j + q) := by omega
  have e2 : ((v8s (p.drop j)).drop (q * 1)).take ((p.length - j - q) * 1) = v8s (p.drop (j + q)) := by
    rw [Nat.mul_one, Nat.mul_one, v8s_drop, v8s_take, List.drop_drop, List.take_of_length_le zz18]
  rw [e2] at h1
  rw [← e1]
  exact h1
theorem PutInv.step {j q : Nat} {a : Option Addr} {cap : Nat} {wb : World} (h : PutInv J T c p p0 b nb y l wS j (.slice a (p.length - j) cap) wb) (hj : j + q ≤ p.length) (hJ : J T (chunksF (c ++ p.take (j + q))) wb) :
    PutInv J T c p p0 b nb y l wS (j + q) (sliced a q (p.length - j) cap 1) wb := ⟨hj, hJ, slice_v p p0 h.v hj, h.seen, h.yv, h.keep, h.size⟩
theorem take_plus (j q : Nat) : p.take (j + q) = p.take j ++ (p.drop j).take q := List.take_add ..
end
theorem cell_of_heap {w : World} {y : Nat} {cs : Array Value} {t : TypeId} (h : w.heap[y]? = some (.cells cs t (0, 0))) {off : Nat} {v : Value} (hv : cs[off]? = some v) : w.cell? ⟨y, off, none⟩ = some v := by simp [World.cell?, h, hv]
theorem chunks_prefix (c x : List UInt8) : chunksF c <+: chunksF (c ++ x) := by
  have hle : c.length / 64 ≤ (c ++ x).length / 64 := Nat.div_le_div_right (by simp)
  have e : chunksF c = (chunksF (c ++ x)).take (c.length / 64) := by
    unfold chunksF
    rw [← List.map_take, List.take_range, Nat.min_eq_left hle]
    apply List.map_congr_left
    intro i hi
    have hi' := List.mem_range.1 hi
    rw [List.drop_append_of_le_length zz4, List.take_append_of_le_length zz18]
  rw [e]; exact List.take_prefix ..
section
variable (J : Jt) (T : List Nat) (c p : List UInt8) (p0 : Value) (b nb y l : Nat) (wS : World) (ALL : List (List UInt8))
def YieldOk (P : Program) (J : Jt) (T : List Nat) (b l : Nat) (ALL : List (List UInt8)) : Prop :=
  ∀ pre x w1, J T pre w1 → (pre ++ [x]) <+: ALL → w1.heap[b]? = some (.cells (v8s x).toArray 78 (0, 0)) → YieldAt Fence.wide 0 P l #[.pointer (some ⟨b, 0, none⟩)] w1 fun e w' =>
    e = .returned (.bool true) ∧ J T (pre ++ [x]) w' ∧ w1.heap.size ≤ w'.heap.size ∧ ∀ k, k ∈ T → w'.heap[k]? = w1.heap[k]?
theorem put_yield (hst : ∀ pre w1 w2, J T pre w1 → Mem w1 T [] [] w2 → (∀ k, k ∈ T → k < w2.heap.size) → J T pre w2) (hyl : YieldOk Tryd.prog J T b l ALL)
    (hp : ∀ pre (w1 w2 : World), Seen w1.cell? p0 p.length 1 (v8s p) → J T pre w2 → (∀ k, k ∈ T → w2.heap[k]? = w1.heap[k]?) → Seen w2.cell? p0 p.length 1 (v8s p)) (hpre : chunksF (c ++ p) <+: ALL) (hTl : ∀ k, k ∈ T → k < wS.heap.size)
    (hpb : ∀ k, p0.ownBlock = some k → v8s p ≠ [] → k ≠ b ∧ k ≠ nb) (hbT : b ∈ T) (hnT : nb ∈ T) (hyT : y ∈ T) (hbn : b ≠ nb) (hby : b ≠ y) (hny : nb ≠ y)
    {j q : Nat} {a : Option Addr} {cap : Nat} {wb w : World} {full : List UInt8} {n' : Int} (hI : PutInv J T c p p0 b nb y l wS j (.slice a (p.length - j) cap) wb) (hjq : j + q ≤ p.length) (e1 : chunksF (c ++ p.take (j + q)) = chunksF (c ++ p.take j) ++ [full])
    (h : Mem wb [b, nb] [.blk b 78 (v8s full), .blk nb 3 [.int .i64 n']] [] w) :
    YieldAt Fence.wide 0 Tryd.prog l #[.pointer (some ⟨b, 0, none⟩)] w fun e w' => ∃ u : { u : World // PutInv J T c p p0 b nb y l wS (j + q) (sliced a q (p.length - j) cap 1) u }, e = .returned (.bool true) ∧ Mem u.1 [b, nb] [.blk b 78 (v8s full), .blk nb 3 [.int .i64 n']] [] w' := by
  have hb1 : w.heap[b]? = some (.cells (v8s full).toArray 78 (0, 0)) := h.own _ (List.mem_cons_self ..)
  have hb2 : w.heap[nb]? = some (.cells #[.int .i64 n'] 3 (0, 0)) := h.own (.blk nb 3 [.int .i64 n']) (by simp)
  have hm0 : Mem wb T [] [] w := (h.sub .nil .nil).lend (by intro k hk; simp at hk; rcases hk with rfl | rfl <;> assumption)
  have hJ := hst _ _ _ hI.J hm0 (fun k hk => Nat.lt_of_lt_of_le (hTl k hk) (Nat.le_trans hI.size h.size))
  have hpx : chunksF (c ++ p.take j) ++ [full] <+: ALL := by
    rw [← e1]
    refine List.IsPrefix.trans ?_ hpre
    have := chunks_prefix (c ++ p.take (j + q)) (p.drop (j + q))
    rwa [List.append_assoc, List.take_append_drop] at this
  obtain ⟨fn, tmps, assign, body, hrun, hround⟩ := hyl _ _ _ hJ hpx hb1
  refine ⟨fn, tmps, assign, body, hrun, hround.mono ?_⟩
  rintro e w' ⟨rfl, hJ', hsz, hT⟩
  have hseen := hp _ w w' (h.at2 hI.seen hpb) hJ' hT
  have hyw : w'.heap[y]? = some (.cells #[.func (.yield l) #[] #[]] 76 (0, 0)) := by
    rw [hT y hyT, h.old y (Array.getElem?_eq_some_iff.1 hI.yv).1 (by simp; exact ⟨fun e => hby e.symm, fun e => hny e.symm⟩)]; exact hI.yv
  refine ⟨⟨w', hjq, by rw [e1]; exact hJ', slice_v p p0 hI.v hjq, hseen, hyw, fun k hk h1 h2 => ?_, Nat.le_trans hI.size (Nat.le_trans h.size hsz)⟩, rfl, ?_⟩
  · rw [hT k hk, h.old k (Nat.lt_of_lt_of_le (hTl k hk) hI.size) (by simp; exact ⟨h1, h2⟩)]; exact hI.keep k hk h1 h2
  · exact Mem.startL (Ms := [.blk b 78 (v8s full), .blk nb 3 [.int .i64 n']]) w' (by
      intro e he
      simp at he
      rcases he with rfl | rfl
      · exact (hT b hbT).trans hb1
      · exact (hT nb hnT).trans hb2) (by simp [Ent.num]; exact fun e => hbn e.symm)
theorem put_fin (hst : ∀ pre w1 w2, J T pre w1 → Mem w1 T [] [] w2 → (∀ k, k ∈ T → k < w2.heap.size) → J T pre w2) (hTl : ∀ k, k ∈ T → k < wS.heap.size) (hbT : b ∈ T) (hnT : nb ∈ T) {v : Value} {wb w : World} (hI : PutInv J T c p p0 b nb y l wS p.length v wb)
    (h : Mem wb [b, nb] (putM (c ++ p.take p.length) b nb) [] w) : PutPost J T (c ++ p) b nb wS (.returned (.tuple #[])) w := by
  rw [List.take_length] at h
  have hm0 : Mem wb T [] [] w := (h.sub .nil .nil).lend (by intro k hk; simp at hk; rcases hk with rfl | rfl <;> assumption)
  have hJ := hst _ _ _ hI.J hm0 (fun k hk => Nat.lt_of_lt_of_le (hTl k hk) (Nat.le_trans hI.size h.size))
  rw [List.take_length] at hJ
  refine ⟨rfl, hJ, h.own _ (List.mem_cons_self ..), h.own _ (List.mem_cons_of_mem _ (List.mem_cons_self ..)), fun k hk h1 h2 => ?_, Nat.le_trans hI.size h.size⟩
  rw [h.old k (Nat.lt_of_lt_of_le (hTl k hk) hI.size) (by simp; exact ⟨h1, h2⟩)]; exact hI.keep k hk h1 h2
end
end Go.Proofs.YtlapmdiabhlbmaaDoor
namespace Go.Proofs.YtlapmdiabhlbmaaDoor
open Go Go.PL Go.RowKit
theorem put (J : Jt) (T : List Nat) (c p : List UInt8) (p0 : Value) (b nb y l : Nat) (wS : World) (ALL : List (List UInt8)) (hst : ∀ pre w1 w2, J T pre w1 → Mem w1 T [] [] w2 → (∀ k, k ∈ T → k < w2.heap.size) → J T pre w2) (hyl : YieldOk Tryd.prog J T b l ALL)
    (hp : ∀ pre (w1 w2 : World), Seen w1.cell? p0 p.length 1 (v8s p) → J T pre w2 → (∀ k, k ∈ T → w2.heap[k]? = w1.heap[k]?) → Seen w2.cell? p0 p.length 1 (v8s p)) (hpre : chunksF (c ++ p) <+: ALL) (hTl : ∀ k, k ∈ T → k < wS.heap.size)
    (hpb : ∀ k, p0.ownBlock = some k → v8s p ≠ [] → k ≠ b ∧ k ≠ nb) (hbT : b ∈ T) (hnT : nb ∈ T) (hyT : y ∈ T) (hbn : b ≠ nb) (hby : b ≠ y) (hny : nb ≠ y)
    (hJ : J T (chunksF c) wS) (hs : Seen wS.cell? p0 p.length 1 (v8s p)) (hb : wS.heap[b]? = some (.cells (v8s (bufF c)).toArray 78 (0, 0))) (hn : wS.heap[nb]? = some (.cells #[.int .i64 ((c.length % 64 : Nat) : Int)] 3 (0, 0))) (hyv : wS.heap[y]? = some (.cells #[.func (.yield l) #[] #[]] 76 (0, 0))) :
    Calls Tryd.prog 40 [p0, .pointer (some ⟨b, 0, none⟩), .pointer (some ⟨nb, 0, none⟩), .pointer (some ⟨y, 0, none⟩)].toArray wS (PutPost J T (c ++ p) b nb wS) := by
  have hI0 : PutInv J T c p p0 b nb y l wS 0 p0 wS := ⟨Nat.zero_le _, by simpa using hJ, fun r h => by simpa using h, hs, hyv, fun _ _ _ _ => rfl, Nat.le_refl _⟩
  have hyb : (⟨y, 0, none⟩ : Addr).block ∉ [b, nb] := by simp; exact ⟨fun e => hby e.symm, fun e => hny e.symm⟩
  refine enter (m := 24) (R := Mem wS [b, nb] (putM c b nb) []) Tryd.func40 rfl rfl (Nat.le_of_ble_eq_true rfl) (Mem.startL (Ms := putM c b nb) wS (by
    intro e he
    simp [putM] at he
    rcases he with rfl | rfl
    · exact hb
    · exact hn) (by simp [putM, Ent.num]; exact fun e => hbn e.symm)) ?_
  refine wpc_block ?_
  refine wpc_loop (ι := { x : Nat × Value × World // PutInv J T c p p0 b nb y l wS x.1 x.2.1 x.2.2 }) (fun x => [(0, x.1.2.1), (1, .pointer (some ⟨b, 0, none⟩)), (2, .pointer (some ⟨nb, 0, none⟩)), (3, .pointer (some ⟨y, 0, none⟩))]) (fun x => Mem x.1.2.2 [b, nb] (putM (c ++ p.take x.1.1) b nb) []) (fun x => p.length - x.1.1) ⟨(0, p0, wS), hI0⟩ ?_ ?_ ?_
  · exact by repeat (first | exact trivial | refine ⟨rfl, ?_⟩)
  · exact fun w h => by have e : c ++ p.take 0 = c := by simp
                        rw [e]; exact h
  · rintro ⟨⟨j, v, wb⟩, hI⟩; dsimp only
    have hI : PutInv J T c p p0 b nb y l wS j v wb := hI
    obtain ⟨a, cap, rfl, hc1, hc2, hc3⟩ := (hI.v _ hI.seen).form
    have hjl := hI.le
    have hbl := bufF_length (c ++ p.take j)
    have hnl : (c ++ p.take j).length % 64 < 64 := Nat.mod_lt _ zz15
    simp only [putM]
    refine wpc_seq <| wpc_seq <| wpc_region <| wpl_q (q_pure rfl) rfl <| wpl_q (q_len Tryd.underlying22 rfl) rfl <| wpl_q (q_pure rfl) rfl <| wpl_nil <| ex_then ?_
    refine wpc_cond rfl (fun hc8 => ?_) (fun hc8 => ?_)
    ·
      simp only [decide_eq_true_eq] at hc8
      obtain ⟨q, hq⟩ : ∃ q, min (p.length - j) (64 - (c ++ p.take j).length % 64) = q := ⟨_, rfl⟩
      have hql : ((p.drop j).take q).length = q := by rw [List.length_take, List.length_drop]; omega
      have eT : c ++ p.take (j + q) = (c ++ p.take j) ++ (p.drop j).take q := by rw [take_plus, List.append_assoc]
      have hfl : ((bufF (c ++ p.take j)).take ((c ++ p.take j).length % 64) ++ (p.drop j).take q ++ (bufF (c ++ p.take j)).drop ((c ++ p.take j).length % 64 + q)).length = 64 := by rw [List.length_append, List.length_append, List.length_take, List.length_drop, hbl, hql]; omega
      refine wpc_skip <| ex_then <| wpc_block <| wpc_seq <| wpc_region <| wpl_q (q_ld Tryd.underlying3 rfl rfl rfl) rfl ?_
      refine wpl_q (qop_eq (q_ar_l Tryd.underlying78 Tryd.ti5 rfl rfl zz4 zz4 ((c ++ p.take j).length % 64) zz4) (slicedAt_lt _ _ _ _ hnl)) rfl ?_
      refine wpl_q (q_pure rfl) rfl ?_
      refine wpl_t (t_copy Tryd.underlying22 Tryd.ti5 rfl rfl (fun w h => hI.v _ (h.at2 hI.seen hpb)) (v8s_one _) (by rw [v8s_length]; omega) q hq (v8s ((bufF (c ++ p.take j)).take ((c ++ p.take j).length % 64) ++ (p.drop j).take q ++ (bufF (c ++ p.take j)).drop ((c ++ p.take j).length % 64 + q))) (by rw [v8s_take, v8s_take, v8s_drop, ← v8s_append, ← v8s_append])) rfl ?_
      intro b12
      refine wpl_q (q_pure rfl) rfl <| wpl_nil <| ex_then <| wpc_seq ?_
      refine wpc_draw 7 zz3 (fun _ h => h.drew) ?_
      refine wpd_p 0 rfl zz3 trivial (q_pure rfl) rfl sk0 ?_
      refine wpd_p 1 rfl zz3 trivial (q_pure rfl) rfl sk0 ?_
      refine wpd_p 2 rfl zz3 trivial (q_sl_l Tryd.underlying22 Tryd.ti5 rfl rfl zz4 zz4 q zz4) rfl sk0 ?_
      refine wpd_q 3 rfl zz3 trivial (q_ld Tryd.underlying3 rfl rfl rfl) rfl (fun _ h => h) ?_
      refine wpd_p 4 rfl zz3 trivial (q_pure rfl) rfl sk0 ?_
      first | refine wpd_p 5 rfl zz3 trivial (qop_eq (q_pure rfl) (congrArg (Value.int .i64) (wk_i64 zz4 zz4))) rfl sk0 ?_ | refine wpd_p 5 rfl zz3 trivial (q_pure rfl) rfl sk0 ?_
      refine wpd_p 6 rfl zz3 trivial (q_pure rfl) rfl sk0 ?_
      refine wpd_t0 7 rfl zz3 trivial (t_st1 Tryd.ti3 rfl rfl rfl Nat.zero_lt_one _ rfl) (fun _ => skk rfl) ?_
      intro _
      refine wpd_done zz3 ?_
      refine ex_then <| wpc_seq <| wpc_region <| wpl_q (q_ld Tryd.underlying3 rfl rfl rfl) rfl <| wpl_q (q_pure rfl) rfl <| wpl_nil <| ex_then ?_
      refine wpc_cond rfl (fun hc20 => ?_) (fun hc20 => ?_)
      ·
        have hjq : j + q ≤ p.length := by omega
        simp only [beq_iff_eq, decide_eq_true_eq] at hc20
        have hfull : (c ++ p.take j).length % 64 + q = 64 := by omega
        obtain ⟨e1, e2⟩ := put_full (c ++ p.take j) ((p.drop j).take q) (by rw [hql]; exact hfull)
        rw [hql] at e1
        rw [← eT] at e1 e2
        refine wpc_seq ?_
        refine wpc_region_y ?_
        refine wpli_q open_wide (q_load1 Tryd.underlying76 rfl rfl (fun w h => h.cell_oldL (cell_of_heap hI.yv rfl) hyb)) rfl ?_
        refine wpli_yield (l := l) (ι := { u : World // PutInv J T c p p0 b nb y l wS (j + q) (sliced a q (p.length - j) cap 1) u }) (V := fun _ => .bool true) (R' := fun u => Mem u.1 [b, nb] [.blk b 78 (v8s ((bufF (c ++ p.take j)).take ((c ++ p.take j).length % 64) ++ (p.drop j).take q ++ (bufF (c ++ p.take j)).drop ((c ++ p.take j).length % 64 + q))), .blk nb 3 [.int .i64 (((c ++ p.take j).length % 64 : Nat) + (q : Nat) : Int)]] []) rfl rfl ?_ rfl fun u => ?_
        · exact fun w h => put_yield J T c p p0 b nb y l wS ALL hst hyl hp hpre hTl hpb hbT hnT hyT hbn hby hny hI hjq e1 h
        refine wpli_nil ?_
        obtain ⟨wb2, HI⟩ := u
        refine ex_then <| wpc_region ?_
        refine wpl_q (q_build (cs := v8s (List.replicate 64 0)) (vs := []) rfl (built_array Tryd.underlying78 Tryd.ti78 Tryd.ti5 rfl)) rfl ?_
        refine wpl_t0 (t_stA Tryd.ti78 rfl rfl rfl (v8s_one _) (by rw [v8s_length]; exact hfl)) ?_
        intro _
        refine wpl_t0 (t_st1 Tryd.ti3 rfl rfl rfl Nat.zero_lt_one _ rfl) ?_
        intro _
        refine wpl_nil <| ex_block ?_
        refine ex_again ⟨(j + q, _, _), HI⟩ ?_ ?_ ?_
        · exact zz8
        · exact fun w h => by
            first
            | (show Mem _ _ (putM (c ++ p.take (j + q)) b nb) _ _
               rw [putM, bufF_zero _ e2, e2]; exact h)
            | (show Mem _ _ (putM (c ++ p.take (j + q)) b nb) _ _
               rw [putM, ← e2, show (((c ++ p.take (j + q)).length % 64 : Nat) : Int) = ((c ++ p.take j).length % 64 : Nat) + (q : Nat) by rw [take_plus, ← List.append_assoc, List.length_append, hql]; omega]; exact h)
        · show p.length - (j + q) < p.length - j; omega
      ·
        simp only [beq_eq_false_iff_ne, decide_eq_false_iff_not, ne_eq] at hc20
        obtain ⟨e1, e2⟩ := put_part (c ++ p.take j) ((p.drop j).take q) (by rw [hql]; omega)
        rw [hql] at e2
        rw [← eT] at e1 e2
        have HI := PutInv.step J T c p p0 b nb y l wS hI (q := q) zz4 (by rw [e1]; exact hI.J)
        refine wpc_skip <| ex_block ?_
        refine ex_again ⟨(j + q, _, _), HI⟩ ?_ ?_ ?_
        · exact zz8
        · exact fun w h => by
            first
            | (show Mem _ _ (putM (c ++ p.take (j + q)) b nb) _ _
               rw [putM, bufF_zero _ e2, e2]; exact h)
            | (show Mem _ _ (putM (c ++ p.take (j + q)) b nb) _ _
               rw [putM, ← e2, show (((c ++ p.take (j + q)).length % 64 : Nat) : Int) = ((c ++ p.take j).length % 64 : Nat) + (q : Nat) by rw [take_plus, ← List.append_assoc, List.length_append, hql]; omega]; exact h)
        · show p.length - (j + q) < p.length - j; omega
    ·
      simp only [decide_eq_false_iff_not] at hc8
      obtain rfl : j = p.length := by omega
      refine wpc_exit ?_
      refine ex_then_exit ?_
      refine ex_then_exit ?_
      refine ex_block_hit ?_
      refine ret0 (.inr rfl) rfl ?_
      exact fun w h => put_fin J T c p p0 b nb y l wS hst hTl hbT hnT hI h
end Go.Proofs.YtlapmdiabhlbmaaDoor
namespace Go.Proofs.YtlapmdiabhlbmaaDoor
open Go Go.PL Go.RowKit
def setLen (buf : List UInt8) (x : UInt64) : Nat → List UInt8
  | 0 => buf
  | i + 1 => (setLen buf x i).set (56 + i) (of8 (sr64 x (56 - 8 * i)).toNat)
theorem setLen_length (buf : List UInt8) (x : UInt64) : ∀ i, (setLen buf x i).length = buf.length
  | 0 => rfl
  | i + 1 => by simp [setLen, setLen_length buf x i]
def cF (a : List UInt8) : List UInt8 := if (a ++ [128]).length % 64 > 56 then (a ++ [128]) ++ List.replicate (64 - (a ++ [128]).length % 64) 0 else a ++ [128]
def lenN (ps : List (List UInt8)) : Nat → UInt64
  | 0 => 0
  | i + 1 => lenN ps i + of64 (ps.getD i []).length
def blocksF (ps : List (List UInt8)) : List (List UInt8) := chunksF (cF ps.flatten) ++ [setLen (bufF (cF ps.flatten)) (lenN ps ps.length * 8) 8]
def Parts (r : Rd) (v : Value) (ps : List (Value × List UInt8)) : Prop := Seen r v ps.length 1 (ps.map Prod.fst) ∧ ∀ q ∈ ps, Seen r q.1 q.2.length 1 (v8s q.2)
def encB (_ : List UInt8) (b : Nat) : Array Value := #[.pointer (some ⟨b, 0, none⟩)]
def AtB (T : List Nat) (x : List UInt8) (b : Nat) (w : World) : Prop := b ∈ T ∧ w.heap[b]? = some (.cells (v8s x).toArray 78 (0, 0))
def InvB (pb : Nat) (v : Value) (ps : List (Value × List UInt8)) (w : World) : Prop := w.heap[pb]? = some (.cells #[v] 23 (0, 0)) ∧ Parts w.cell? v ps
def blkM (l : Nat) (c : List UInt8) (b nb y : Nat) : List Ent := [.blk nb 3 [.int .i64 ((c.length % 64 : Nat) : Int)], .blk b 78 (v8s (bufF c)), .blk y 76 [.func (.yield l) #[] #[]]]
structure ItInv (J : Jt) (W : World) (c : List UInt8) (b nb y l : Nat) (wb : World) : Prop where
  J : J [nb, b, y] (chunksF c) wb
  b : W.heap.size ≤ b
  nb : W.heap.size ≤ nb
  y : W.heap.size ≤ y
def Stab (J : Jt) : Prop := ∀ T T' pre w1 w2, J T pre w1 → Mem w1 T [] [] w2 → (∀ k, k ∈ T' → (k ∈ T ∨ w1.heap.size ≤ k) ∧ k < w2.heap.size) → J T' pre w2
theorem put_at (J : Jt) (W : World) (l : Nat) (ALL : List (List UInt8)) (pb : Nat) (pv : Value) (ps : List (Value × List UInt8)) (hst : Stab J) (hyl : ∀ T b, b ∈ T → YieldOk Tryd.prog J T b l ALL)
    {c p : List UInt8} {p0 : Value} {b nb y : Nat} {wb w : World} {X : List Ent} (hI : ItInv J W c b nb y l wb) (h : Mem wb [nb, b, y] (X ++ blkM l c b nb y) [] w)
    (hpre : chunksF (c ++ p) <+: ALL) (hs : Seen w.cell? p0 p.length 1 (v8s p)) (hpb : ∀ k, p0.ownBlock = some k → v8s p ≠ [] → k ≠ b ∧ k ≠ nb)
    (hp : ∀ pre (w1 w2 : World), Seen w1.cell? p0 p.length 1 (v8s p) → J (nums X ++ [nb, b, y]) pre w2 → (∀ k, k ∈ nums X ++ [nb, b, y] → w2.heap[k]? = w1.heap[k]?) → Seen w2.cell? p0 p.length 1 (v8s p)) :
    Calls Tryd.prog 40 #[p0, .pointer (some ⟨b, 0, none⟩), .pointer (some ⟨nb, 0, none⟩), .pointer (some ⟨y, 0, none⟩)] w fun e w' =>
      ∃ u : { u : World // ItInv J W (c ++ p) b nb y l u }, e = .returned (.tuple #[]) ∧ Mem u.1 [nb, b, y] (blkM l (c ++ p) b nb y) [] w' := by
  have hn : w.heap[nb]? = some (.cells #[.int .i64 ((c.length % 64 : Nat) : Int)] 3 (0, 0)) := h.own (.blk nb 3 [.int .i64 ((c.length % 64 : Nat) : Int)]) (by simp [blkM])
  have hb : w.heap[b]? = some (.cells (v8s (bufF c)).toArray 78 (0, 0)) := h.own (.blk b 78 (v8s (bufF c))) (by simp [blkM])
  have hy : w.heap[y]? = some (.cells #[.func (.yield l) #[] #[]] 76 (0, 0)) := h.own (.blk y 76 [.func (.yield l) #[] #[]]) (by simp [blkM])
  have hap := (List.pairwise_append.1 h.apart).2.1
  simp only [blkM, List.pairwise_cons, List.mem_cons, List.mem_nil_iff, or_false, Ent.num, Option.some.injEq, forall_eq_or_imp, forall_eq] at hap
  have hnb : nb ≠ b := fun e => (hap.1.1 nb rfl) (congrArg some e.symm)
  have hny : nb ≠ y := fun e => (hap.1.2 nb rfl) (congrArg some e.symm)
  have hby : b ≠ y := fun e => (hap.2.1 b rfl) (congrArg some e.symm)
  have hTl : ∀ k, k ∈ nums X ++ [nb, b, y] → k < w.heap.size := by
    intro k hk
    rcases List.mem_append.1 hk with hk | hk
    · obtain ⟨e, he, hne⟩ := mem_nums.1 hk
      exact Ent.lt (h.own e (List.mem_append_left _ he)) hne
    · simp at hk
      rcases hk with rfl | rfl | rfl
      · exact (Array.getElem?_eq_some_iff.1 hn).1
      · exact (Array.getElem?_eq_some_iff.1 hb).1
      · exact (Array.getElem?_eq_some_iff.1 hy).1
  have hX : ∀ k, k ∈ nums X → wb.heap.size ≤ k := fun k hk => by
    obtain ⟨e, he, hne⟩ := mem_nums.1 hk
    rcases h.new e (List.mem_append_left _ he) k hne with h1 | h1
    · exact h1
    · have hxx := (List.pairwise_append.1 h.apart).2.2 e he
      simp at h1
      rcases h1 with rfl | rfl | rfl
      · exact absurd rfl (hxx (.blk k 3 [.int .i64 ((c.length % 64 : Nat) : Int)]) (by simp [blkM]) k hne)
      · exact absurd rfl (hxx (.blk k 78 (v8s (bufF c))) (by simp [blkM]) k hne)
      · exact absurd rfl (hxx (.blk k 76 [.func (.yield l) #[] #[]]) (by simp [blkM]) k hne)
  have hJ : J (nums X ++ [nb, b, y]) (chunksF c) w := hst _ _ _ _ _ hI.J (h.sub .nil .nil) fun k hk => ⟨(List.mem_append.1 hk).symm.imp id (hX k), hTl k hk⟩
  refine (put J (nums X ++ [nb, b, y]) c p p0 b nb y l w ALL (fun pre w1 w2 h1 h2 h3 => hst _ _ _ _ _ h1 h2 fun k hk => ⟨.inl hk, h3 k hk⟩) (hyl _ _ (by simp)) hp hpre hTl hpb (by simp) (by simp) (by simp) hnb.symm hby hny hJ hs hb hn hy).mono ?_
  rintro e w' ⟨rfl, j1, j2, j3, j4, j5⟩
  have hy' : w'.heap[y]? = some (.cells #[.func (.yield l) #[] #[]] 76 (0, 0)) := (j4 y (by simp) hby.symm hny.symm).trans hy
  refine ⟨⟨w', hst _ _ _ _ _ j1 ((Mem.start w').lend (by simp)) (fun k hk => ⟨.inl (List.mem_append_right _ hk), ?_⟩), hI.b, hI.nb, hI.y⟩, rfl, ?_⟩
  · exact Nat.lt_of_lt_of_le (hTl k (List.mem_append_right _ hk)) j5
  · exact Mem.startL (Ms := blkM l (c ++ p) b nb y) w' (by
      intro e he
      simp only [blkM, List.mem_cons, List.mem_nil_iff, or_false] at he
      rcases he with rfl | rfl | rfl
      · exact j3
      · exact j2
      · exact hy') (by simp [blkM, Ent.num]; exact ⟨⟨hnb.symm, hny.symm⟩, hby.symm⟩)
theorem addr_block (a : Addr) (i : Nat) : (a.add i).block = a.block := by unfold Addr.add; split <;> rfl
theorem cF_pre (a : List UInt8) : ∃ x, a ++ [128] ++ x = cF a := by
  unfold cF
  split
  · exact ⟨_, rfl⟩
  · exact ⟨[], by simp⟩
theorem pre_all (ps : List (List UInt8)) (c : List UInt8) (h : ∃ x, c ++ x = cF ps.flatten) : chunksF c <+: blocksF ps := by
  obtain ⟨x, hx⟩ := h
  unfold blocksF
  rw [← hx]
  exact (chunks_prefix c x).trans (List.prefix_append _ _)
theorem pre_take (ps : List (List UInt8)) (i : Nat) : ∃ x, (ps.take i).flatten ++ x = cF ps.flatten := by
  obtain ⟨x, hx⟩ := cF_pre ps.flatten
  refine ⟨(ps.drop i).flatten ++ ([128] ++ x), ?_⟩
  rw [← hx, ← List.append_assoc, ← List.flatten_append, List.take_append_drop, List.append_assoc]
theorem take_succ_flat (ps : List (List UInt8)) (i : Nat) (h : i < ps.length) : (ps.take (i + 1)).flatten = (ps.take i).flatten ++ ps.getD i [] := by
  have e : ps.take (i + 1) = ps.take i ++ [ps.getD i []] := by rw [List.take_add_one]; simp [h]
  rw [e]; simp
theorem cF_full (a : List UInt8) (h : (a ++ [128]).length % 64 > 56) : cF a = (a ++ [128]) ++ List.replicate (64 - (a ++ [128]).length % 64) 0 := if_pos h
theorem cF_room (a : List UInt8) (h : ¬ (a ++ [128]).length % 64 > 56) : cF a = a ++ [128] := if_neg h
end Go.Proofs.YtlapmdiabhlbmaaDoor
namespace Go.Proofs.YtlapmdiabhlbmaaDoor
open Go Go.PL Go.RowKit
theorem mem_c {u w : World} {T : List Nat} {l b nb y : Nat} {c c' : List UInt8} (e : c = c') (h : Mem u T (blkM l c' b nb y) [] w) : Mem u T (blkM l c b nb y) [] w := e ▸ h
theorem zeros_flat (k : Nat) : (List.replicate k (Value.int .u8 0).cells.toList).flatten = v8s (List.replicate k 0) := by
  induction k with
  | zero => rfl
  | succ k ih => rw [List.replicate_succ, List.flatten_cons, ih, List.replicate_succ]; rfl
theorem put_row (J : Jt) (W : World) (l : Nat) (ALL : List (List UInt8)) (pb : Nat) (pv : Value) (ps : List (Value × List UInt8)) (hst : Stab J) (hyl : ∀ T b, b ∈ T → YieldOk Tryd.prog J T b l ALL)
    {c p : List UInt8} {r m cap : Nat} {b nb y : Nat} {wb w : World} (hI : ItInv J W c b nb y l wb) (h : Mem wb [nb, b, y] (.row (.slice (some ⟨r, 0, none⟩) m cap) m 5 1 (v8s p) :: blkM l c b nb y) [] w) (hpre : chunksF (c ++ p) <+: ALL) :
    Calls Tryd.prog 40 #[.slice (some ⟨r, 0, none⟩) m cap, .pointer (some ⟨b, 0, none⟩), .pointer (some ⟨nb, 0, none⟩), .pointer (some ⟨y, 0, none⟩)] w fun e w' =>
      ∃ u : { u : World // ItInv J W (c ++ p) b nb y l u }, e = .returned (.tuple #[]) ∧ Mem u.1 [nb, b, y] (blkM l (c ++ p) b nb y) [] w' := by
  have hlen : m = p.length := by have := h.row_len (List.mem_cons_self ..); simpa using this.symm
  subst hlen
  have hap := (List.pairwise_cons.1 h.apart).1
  have hrb : r ≠ b := fun e => hap (.blk b 78 (v8s (bufF c))) (by simp [blkM]) r rfl (by rw [e]; rfl)
  have hrn : r ≠ nb := fun e => hap (.blk nb 3 [.int .i64 ((c.length % 64 : Nat) : Int)]) (by simp [blkM]) r rfl (by rw [e]; rfl)
  refine put_at J W l ALL pb pv ps hst hyl (X := [.row (.slice (some ⟨r, 0, none⟩) p.length cap) p.length 5 1 (v8s p)]) hI h hpre (h.seen_row (List.mem_cons_self ..)) (fun k hk _ => by
    simp [Value.ownBlock] at hk; subst hk; exact ⟨hrb, hrn⟩) (fun pre w1 w2 h1 _ hT => ?_)
  have hrT := hT r (by simp [nums, Ent.num, Value.ownBlock])
  obtain ⟨q1, a, cp, q2, q3, q4, q5⟩ := h1
  simp at q2
  obtain ⟨rfl, rfl⟩ := q2
  refine ⟨q1, _, _, rfl, q3, q4, ?_⟩
  rcases q5 with q5 | ⟨ad, q5, q6⟩
  · cases q5.1
  · cases q5
    refine .inr ⟨_, rfl, fun j u hj => ?_⟩
    have := q6 j u hj
    rw [add_lit] at this ⊢
    exact (World.cell?_of_block hrT).trans this
theorem last_yield (J : Jt) (W : World) (l : Nat) (ALL : List (List UInt8)) (ps : List (Value × List UInt8)) (hst : Stab J) (hyl : ∀ T b, b ∈ T → YieldOk Tryd.prog J T b l ALL) (hALL : blocksF (ps.map Prod.snd) = ALL)
    {b nb y : Nat} {n' : Int} {wb w : World} (hI : ItInv J W (cF (ps.map Prod.snd).flatten) b nb y l wb)
    (h : Mem wb [nb, b, y] [.blk nb 3 [.int .i64 n'], .blk b 78 (v8s (setLen (bufF (cF (ps.map Prod.snd).flatten)) (lenN (ps.map Prod.snd) ps.length * 8) 8)), .blk y 76 [.func (.yield l) #[] #[]]] [] w) :
    YieldAt Fence.wide 0 Tryd.prog l #[.pointer (some ⟨b, 0, none⟩)] w fun e w' => ∃ u : { u : World // ∃ T, J T ALL u }, e = .returned (.bool true) ∧ w' = u.1 := by
  have hlt : ∀ k, k ∈ [nb, b, y] → k < w.heap.size := fun k hk => by
    have hk' : k ∈ nums [.blk nb 3 [.int .i64 n'], .blk b 78 (v8s (setLen (bufF (cF (ps.map Prod.snd).flatten)) (lenN (ps.map Prod.snd) ps.length * 8) 8)), .blk y 76 [.func (.yield l) #[] #[]]] := hk
    obtain ⟨e, he, hn⟩ := mem_nums.1 hk'
    exact Ent.lt (h.own e he) hn
  have hJ := hst _ [nb, b, y] _ _ _ hI.J (h.sub .nil .nil) (fun k hk => ⟨.inl hk, hlt k hk⟩)
  have hb : w.heap[b]? = some (.cells (v8s (setLen (bufF (cF (ps.map Prod.snd).flatten)) (lenN (ps.map Prod.snd) ps.length * 8) 8)).toArray 78 (0, 0)) := h.own (.blk b 78 (v8s (setLen (bufF (cF (ps.map Prod.snd).flatten)) (lenN (ps.map Prod.snd) ps.length * 8) 8))) (by simp)
  have hall : chunksF (cF (ps.map Prod.snd).flatten) ++ [setLen (bufF (cF (ps.map Prod.snd).flatten)) (lenN (ps.map Prod.snd) ps.length * 8) 8] = ALL := by rw [← hALL]; unfold blocksF; rw [List.length_map]
  obtain ⟨fn, tmps, assign, body, hrun, hround⟩ := hyl [nb, b, y] b (by simp) _ _ w hJ (by rw [hall]; exact List.prefix_refl _) hb
  refine ⟨fn, tmps, assign, body, hrun, hround.mono ?_⟩
  rintro e w' ⟨rfl, hJ', _⟩
  rw [hall] at hJ'
  exact ⟨⟨w', _, hJ'⟩, rfl, rfl⟩
def ItPost (J : Jt) (ALL : List (List UInt8)) (e : Ending) (w : World) : Prop := (∃ v, e = .returned v) ∧ ∃ T, J T ALL w
theorem iter (J : Jt) (W : World) (l : Nat) (ALL : List (List UInt8)) (pb : Nat) (pv : Value) (ps : List (Value × List UInt8)) (hst : Stab J) (hyl : ∀ T b, b ∈ T → YieldOk Tryd.prog J T b l ALL) (hALL : blocksF (ps.map Prod.snd) = ALL)
    (hinv : ∀ T pre w1, J T pre w1 → InvB pb pv ps w1) (hJ0 : J [] [] W) :
    Calls Tryd.prog 39 [.func (.yield l) #[] #[], .pointer (some ⟨pb, 0, none⟩)].toArray W (ItPost J ALL) := by
  obtain ⟨a, cap, rfl, hlc, hcm, hz⟩ := (hinv _ _ _ hJ0).2.1.form
  have hpbW : pb < W.heap.size := (Array.getElem?_eq_some_iff.1 (hinv _ _ _ hJ0).1).1
  have hmL : cap ≤ 9223372036854775807 := by simp only [maxLen] at hcm; omega
  refine enter (m := 53) (R := Mem W [] [] []) Tryd.func39 rfl rfl (Nat.le_of_ble_eq_true rfl) (Mem.start W) ?_
  refine wpc_seq <| wpc_region ?_
  refine wpl_t (t_box rfl _ rfl) rfl ?_
  intro b2
  refine wpl_nil <| ex_then <| wpc_seq <| wpc_region ?_
  refine wpl_t (t_alloc Tryd.ti78 (v8s (bufF [])) (by rfl)) rfl ?_
  intro b3
  refine wpl_nil <| ex_then <| wpc_seq <| wpc_region ?_
  refine wpl_t (t_alloc Tryd.ti3 _ rfl) rfl ?_
  intro b4
  refine wpl_t0 (t_st1 Tryd.ti3 rfl rfl rfl Nat.zero_lt_one _ rfl) ?_
  intro _
  refine wpl_q (q_pure rfl) rfl <| wpl_nil <| ex_then <| wpc_seq <| wpc_region ?_
  refine wpl_q (q_fn (us := []) (vs := [.pointer (some ⟨b3, 0, none⟩), .pointer (some ⟨b4, 0, none⟩), .pointer (some ⟨b2, 0, none⟩)]) rfl rfl) rfl ?_
  refine wpl_q (q_pure rfl) rfl <| wpl_nil <| ex_then <| wpc_seq <| wpc_seq ?_
  refine wpc_ex (p := ItInv J W [] b3 b4 b2 l) (R' := fun wb => Mem wb [b4, b3, b2] (blkM l [] b3 b4 b2) []) (fun w h => ?_) (fun wb0 hI0 => ?_)
  · have h2 : Mem W [] (blkM l [] b3 b4 b2) [] w := h
    have hlt : ∀ k, k ∈ [b4, b3, b2] → W.heap.size ≤ k ∧ k < w.heap.size := fun k hk => by
      have hk' : k ∈ nums (blkM l [] b3 b4 b2) := hk
      obtain ⟨e, he, hn⟩ := mem_nums.1 hk'
      exact ⟨(h2.new e he k hn).resolve_right (by simp), Ent.lt (h2.own e he) hn⟩
    exact ⟨w, ⟨hst [] _ _ _ _ hJ0 (h2.sub .nil .nil) (fun k hk => ⟨.inr (hlt k hk).1, (hlt k hk).2⟩), (hlt b3 (by simp)).1, (hlt b4 (by simp)).1, (hlt b2 (by simp)).1⟩, h2.base⟩
  refine wpc_region ?_
  refine wpl_q (q_load1 Tryd.underlying23 rfl rfl (fun w h => h.cell_oldL (cell_of_heap (hinv _ _ _ hI0.J).1 rfl) (by have := hI0.b; have := hI0.nb; have := hI0.y; simp; omega))) rfl ?_
  refine wpl_q (q_len Tryd.underlying23 rfl) rfl <| wpl_q (q_pure rfl) rfl <| wpl_nil <| ex_then <| wpc_block ?_
  refine wpc_loop (ι := { x : Nat × World // x.1 ≤ ps.length ∧ ItInv J W ((ps.map Prod.snd).take x.1).flatten b3 b4 b2 l x.2 }) (fun x => [(13, .int .i64 (x.1.1 : Nat)), (12, .int .i64 (ps.length : Nat)), (11, .slice a ps.length cap), (6, .func (.func 40) #[] #[.pointer (some ⟨b3, 0, none⟩), .pointer (some ⟨b4, 0, none⟩), .pointer (some ⟨b2, 0, none⟩)]), (5, .int .u64 (lenN (ps.map Prod.snd) x.1.1).toNat), (2, .pointer (some ⟨b2, 0, none⟩)), (3, .pointer (some ⟨b3, 0, none⟩)), (4, .pointer (some ⟨b4, 0, none⟩))]) (fun x => Mem x.1.2 [b4, b3, b2] (blkM l ((ps.map Prod.snd).take x.1.1).flatten b3 b4 b2) []) (fun x => ps.length - x.1.1) ⟨(0, wb0), Nat.zero_le _, hI0⟩ ?_ ?_ ?_
  · exact by repeat (first | exact trivial | refine ⟨rfl, ?_⟩)
  · exact fun w h => h
  · rintro ⟨⟨i, wb⟩, hi, hI⟩; dsimp only
    have hi : i ≤ ps.length := hi
    have hI : ItInv J W ((ps.map Prod.snd).take i).flatten b3 b4 b2 l wb := hI
    have hP := hinv _ _ _ hI.J
    refine wpc_seq <| wpc_region <| wpl_q (q_pure rfl) rfl <| wpl_nil <| ex_then <| wpc_seq ?_
    refine wpc_cond rfl (fun hc14 => ?_) (fun hc14 => ?_)
    ·
      simp only [decide_eq_true_eq] at hc14
      obtain ⟨ad, rfl⟩ : ∃ ad, a = some ad := by
        cases a with
        | none => have := hz rfl; omega
        | some ad => exact ⟨ad, rfl⟩
      obtain ⟨⟨qv, qb⟩, hq⟩ : ∃ q, ps[i]? = some q := ⟨_, List.getElem?_eq_getElem zz4⟩
      have hqm : (qv, qb) ∈ ps := List.mem_of_getElem? hq
      have hq1 : (ps.map Prod.fst)[i]? = some qv := by rw [List.getElem?_map, hq]; rfl
      have hq2 : (ps.map Prod.snd).getD i [] = qb := by rw [List.getD_eq_getElem?_getD, List.getElem?_map, hq]; rfl
      have hfs : ((ps.map Prod.snd).take (i + 1)).flatten = ((ps.map Prod.snd).take i).flatten ++ qb := by rw [take_succ_flat _ _ (by simp; omega), hq2]
      have hqs : Seen wb.cell? qv qb.length 1 (v8s qb) := hP.2.2 _ hqm
      obtain ⟨aq, capq, rfl, hq3, hq4, hq5⟩ := hqs.form
      have hadb : ad.block < W.heap.size := (hinv _ _ _ hJ0).2.1.block_lt (by intro e; rw [List.map_eq_nil_iff] at e; subst e; exact absurd hqm (by simp)) ad.block rfl
      have hqbl : ∀ k, (Value.slice aq qb.length capq).ownBlock = some k → v8s qb ≠ [] → k < W.heap.size := fun k hk hne => ((hinv _ _ _ hJ0).2.2 _ hqm).block_lt hne k hk
      have hbW := hI.b; have hnW := hI.nb; have hyW := hI.y
      refine wpc_skip <| ex_then <| wpc_seq <| wpc_block <| wpc_seq <| wpc_region ?_
      refine wpl_q (q_idxS Tryd.underlying23 Tryd.ti22 rfl rfl zz4 zz4 (i) zz4) rfl ?_
      refine wpl_q (q_load1 Tryd.underlying22 rfl rfl (fun w h => h.cell_oldL (hP.2.1.cell hq1) (by rw [addr_block]; simp; omega))) rfl ?_
      refine wpl_q (q_pure rfl) rfl <| wpl_nil <| ex_then <| wpc_seq <| wpc_region <| wpl_q (q_pure rfl) rfl <| wpl_q (q_pure rfl) rfl <| wpl_q (q_len Tryd.underlying22 rfl) rfl <| wpl_q (q64_conv Tryd.underlying3 Tryd.underlying75 rfl) rfl ?_
      refine wpl_q (qop_eq (q64_add rfl rfl) (v := .int .u64 (lenN (ps.map Prod.snd) (i + 1)).toNat) (by rw [lenN, hq2])) rfl ?_
      refine wpl_q (q_pure rfl) rfl <| wpl_nil <| ex_then <| wpc_region <| wpl_q (q_pure rfl) rfl <| wpl_q (q_pure rfl) rfl ?_
      refine wpl_t (t_callG (ι := { u : World // ItInv J W (((ps.map Prod.snd).take i).flatten ++ qb) b3 b4 b2 l u }) (V := fun _ => .tuple #[]) (R' := fun u => Mem u.1 [b4, b3, b2] (blkM l (((ps.map Prod.snd).take i).flatten ++ qb) b3 b4 b2) []) (cap := #[.pointer (some ⟨b3, 0, none⟩), .pointer (some ⟨b4, 0, none⟩), .pointer (some ⟨b2, 0, none⟩)]) rfl Tryd.hb40 rfl fun w h => put_at J W l ALL pb (.slice none 0 0) ps hst hyl (X := []) hI h (hALL ▸ pre_all _ _ (hfs ▸ pre_take _ (i + 1))) (h.seen_oldL (hP.2.2 _ hqm) (fun k hk hne => by have := hqbl k hk hne; simp; omega)) (fun k hk hne => by have := hqbl k hk hne; omega) (fun pre w1 w2 _ hJ2 _ => (hinv _ _ _ hJ2).2.2 _ hqm)) rfl ?_
      intro b24
      refine wpl_nil <| ex_block <| ex_then <| wpc_region ?_
      first | refine wpl_q (qop_eq (q_pure rfl) (congrArg (Value.int .i64) (wk_i64 zz4 zz4))) rfl ?_ | refine wpl_q (q_pure rfl) rfl ?_
      refine wpl_q (q_pure rfl) rfl <| wpl_nil ?_
      refine ex_again ⟨(i + 1, b24.1), by show i + 1 ≤ ps.length; omega, by show ItInv J W ((ps.map Prod.snd).take (i + 1)).flatten b3 b4 b2 l b24.1; rw [hfs]; exact b24.2⟩ ?_ ?_ ?_
      · exact zz8
      · exact fun w h => by
          show Mem b24.1 [b4, b3, b2] (blkM l ((ps.map Prod.snd).take (i + 1)).flatten b3 b4 b2) [] w
          rw [hfs]; exact h
      · show ps.length - (i + 1) < ps.length - i; omega
    ·
      simp only [decide_eq_false_iff_not] at hc14
      obtain rfl : i = ps.length := by omega
      have eall : ((ps.map Prod.snd).take ps.length).flatten = (ps.map Prod.snd).flatten := by rw [List.take_of_length_le (by simp)]
      rw [eall] at hI
      refine wpc_mono (R' := Mem wb [b4, b3, b2] (blkM l (ps.map Prod.snd).flatten b3 b4 b2) []) (fun w h => by rw [← eall]; exact h) ?_
      refine wpc_exit ?_
      refine ex_then_exit ?_
      refine ex_then_exit ?_
      refine ex_block_hit ?_
      refine ex_then <| wpc_seq <| wpc_region <| wpl_q (q_pure rfl) rfl ?_
      refine wpl_t (t_buildSlice (v8s [128]) Tryd.underlying22 Tryd.ti5 rfl zz15 zz15 rfl rfl rfl) rfl ?_
      intro b27
      refine wpl_t (t_callG (ι := { u : World // ItInv J W ((ps.map Prod.snd).flatten ++ [128]) b3 b4 b2 l u }) (V := fun _ => .tuple #[]) (R' := fun u => Mem u.1 [b4, b3, b2] (blkM l ((ps.map Prod.snd).flatten ++ [128]) b3 b4 b2) []) (cap := #[.pointer (some ⟨b3, 0, none⟩), .pointer (some ⟨b4, 0, none⟩), .pointer (some ⟨b2, 0, none⟩)]) rfl Tryd.hb40 rfl fun w h => put_row J W l ALL pb (.slice none 0 0) ps hst hyl hI h (hALL ▸ pre_all _ _ (cF_pre _))) rfl ?_
      intro b28
      refine wpl_nil <| ex_then ?_
      refine wpc_cut { u : World // ItInv J W (cF (ps.map Prod.snd).flatten) b3 b4 b2 l u } (fun _ => [(5, .int .u64 (lenN (ps.map Prod.snd) ps.length).toNat), (2, .pointer (some ⟨b2, 0, none⟩)), (3, .pointer (some ⟨b3, 0, none⟩)), (4, .pointer (some ⟨b4, 0, none⟩))]) (fun u => Mem u.1 [b4, b3, b2] (blkM l (cF (ps.map Prod.snd).flatten) b3 b4 b2) []) ?_ ?_
      ·
        refine wpc_seq ?_
        obtain ⟨wb1, hI1⟩ := b28
        refine wpc_mono (R' := Mem wb1 [b4, b3, b2] [.blk b4 3 [.int .i64 ((((ps.map Prod.snd).flatten ++ [(128 : UInt8)]).length % 64 : Nat) : Int)], .blk b3 78 (v8s (bufF ((ps.map Prod.snd).flatten ++ [(128 : UInt8)]))), .blk b2 76 [.func (.yield l) #[] #[]]] []) (fun w h => h) ?_
        refine wpc_region <| wpl_q (q_ld Tryd.underlying3 rfl rfl rfl) rfl <| wpl_q (q_pure rfl) rfl <| wpl_nil <| ex_then ?_
        refine wpc_cond rfl (fun hc30 => ?_) (fun hc30 => ?_)
        ·
          simp only [decide_eq_true_eq] at hc30
          have hm64 : ((ps.map Prod.snd).flatten ++ [(128 : UInt8)]).length % 64 < 64 := Nat.mod_lt _ zz15
          have ecf := cF_full (ps.map Prod.snd).flatten zz4
          refine wpc_region <| wpl_q (q_pure rfl) rfl <| wpl_q (q_ld Tryd.underlying3 rfl rfl rfl) rfl ?_
          first | refine wpl_q (qop_eq (q_pure rfl) (congrArg (Value.int .i64) (wk_i64 zz4 zz4))) rfl ?_ | refine wpl_q (q_pure rfl) rfl ?_
          refine wpl_t (t_makeSlice Tryd.underlying22 Tryd.ti5 rfl rfl zz4 (Int.le_refl _) zz4 zz4 (64 - ((ps.map Prod.snd).flatten ++ [(128 : UInt8)]).length % 64) (64 - ((ps.map Prod.snd).flatten ++ [(128 : UInt8)]).length % 64) zz4 zz4 (v8s (List.replicate (64 - ((ps.map Prod.snd).flatten ++ [(128 : UInt8)]).length % 64) (0 : UInt8))) rfl (zeros_flat _)) rfl ?_
          intro b34
          refine wpl_t (t_callG (ι := { u : World // ItInv J W (((ps.map Prod.snd).flatten ++ [(128 : UInt8)]) ++ List.replicate (64 - ((ps.map Prod.snd).flatten ++ [(128 : UInt8)]).length % 64) (0 : UInt8)) b3 b4 b2 l u }) (V := fun _ => .tuple #[]) (R' := fun u => Mem u.1 [b4, b3, b2] (blkM l (((ps.map Prod.snd).flatten ++ [(128 : UInt8)]) ++ List.replicate (64 - ((ps.map Prod.snd).flatten ++ [(128 : UInt8)]).length % 64) (0 : UInt8)) b3 b4 b2) []) (cap := #[.pointer (some ⟨b3, 0, none⟩), .pointer (some ⟨b4, 0, none⟩), .pointer (some ⟨b2, 0, none⟩)]) rfl Tryd.hb40 rfl fun w h => put_row J W l ALL pb (.slice none 0 0) ps hst hyl hI1 h (hALL ▸ pre_all _ _ ⟨[], by rw [List.append_nil]; exact ecf.symm⟩)) rfl ?_
          intro b35
          have HI : ItInv J W (cF (ps.map Prod.snd).flatten) b3 b4 b2 l b35.1 := by rw [ecf]; exact b35.2
          refine wpl_nil ?_
          refine ex_mid ⟨_, HI⟩ ?_ ?_
          · exact zz8
          · exact fun w h => mem_c ecf h
        ·
          simp only [decide_eq_false_iff_not] at hc30
          have ecf := cF_room (ps.map Prod.snd).flatten zz4
          have HI : ItInv J W (cF (ps.map Prod.snd).flatten) b3 b4 b2 l wb1 := by rw [ecf]; exact hI1
          refine wpc_skip ?_
          refine ex_mid ⟨_, HI⟩ ?_ ?_
          · exact zz8
          · exact fun w h => mem_c ecf h
      ·
        rintro ⟨wb2, hI2⟩
        dsimp only
        refine wpc_seq <| wpc_region <| wpl_q (q_pure rfl) rfl ?_
        refine wpl_q (q64_mul (b := 8) rfl rfl) rfl ?_
        refine wpl_q (q_pure rfl) rfl <| wpl_nil <| ex_then <| wpc_seq <| wpc_seq <| wpc_region <| wpl_q (q_pure rfl) rfl <| wpl_nil <| ex_then <| wpc_block ?_
        refine wpc_loop (ι := { j : Nat // j ≤ 8 }) (fun j => [(38, .int .i64 (j.1 : Nat)), (5, .int .u64 (lenN (ps.map Prod.snd) ps.length * 8).toNat), (2, .pointer (some ⟨b2, 0, none⟩)), (3, .pointer (some ⟨b3, 0, none⟩)), (4, .pointer (some ⟨b4, 0, none⟩))]) (fun j => Mem wb2 [b4, b3, b2] [.blk b4 3 [.int .i64 (((cF (ps.map Prod.snd).flatten).length % 64 : Nat) : Int)], .blk b3 78 (v8s (setLen (bufF (cF (ps.map Prod.snd).flatten)) (lenN (ps.map Prod.snd) ps.length * 8) j.1)), .blk b2 76 [.func (.yield l) #[] #[]]] []) (fun j => 8 - j.1) ⟨0, zz4⟩ ?_ ?_ ?_
        · exact by repeat (first | exact trivial | refine ⟨rfl, ?_⟩)
        · exact fun w h => h
        · rintro ⟨j, hj⟩; dsimp only
          have hsl := (setLen_length (bufF (cF (ps.map Prod.snd).flatten)) (lenN (ps.map Prod.snd) ps.length * 8) j).trans (bufF_length _)
          refine wpc_seq <| wpc_region <| wpl_q (q_pure rfl) rfl <| wpl_nil <| ex_then <| wpc_seq ?_
          refine wpc_cond rfl (fun hc39 => ?_) (fun hc39 => ?_)
          ·
            simp only [decide_eq_true_eq, decide_eq_false_iff_not, Bool.and_eq_true, Bool.or_eq_true, beq_iff_eq, bne_iff_ne, ne_eq] at hc39
            refine wpc_skip <| ex_then <| wpc_seq <| wpc_block <| wpc_seq <| wpc_region <| wpl_q (q_pure rfl) rfl <| wpl_q (q_pure rfl) rfl <| wpl_nil <| ex_then <| wpc_region <| wpl_q (q_pure rfl) rfl ?_
            first | refine wpl_q (qop_eq (q_pure rfl) (congrArg (Value.int .i64) (wk_i64 zz4 zz4))) rfl ?_ | refine wpl_q (q_pure rfl) rfl ?_
            refine wpl_q (q_pure rfl) rfl <| wpl_q (q_pure rfl) rfl ?_
            first | refine wpl_q (qop_eq (q_pure rfl) (congrArg (Value.int .i64) (wk_i64 zz4 zz4))) rfl ?_ | refine wpl_q (q_pure rfl) rfl ?_
            first | refine wpl_q (qop_eq (q_pure rfl) (congrArg (Value.int .i64) (wk_i64 zz4 zz4))) rfl ?_ | refine wpl_q (q_pure rfl) rfl ?_
            refine wpl_q (q64_shr rfl rfl zz4 (56 - 8 * j) zz4) rfl ?_
            refine wpl_q (q8_conv Tryd.underlying75 Tryd.underlying5 rfl) rfl ?_
            refine wpl_q (q_idxA Tryd.underlying78 Tryd.ti5 rfl rfl zz4 zz4 (56 + j) zz4) rfl ?_
            refine wpl_t0 (t_st1 Tryd.ti5 rfl rfl rfl zz16 _ (by first | exact v8s_set _ | rfl)) ?_
            intro _
            refine wpl_nil <| ex_block <| ex_then <| wpc_region ?_
            first | refine wpl_q (qop_eq (q_pure rfl) (congrArg (Value.int .i64) (wk_i64 zz4 zz4))) rfl ?_ | refine wpl_q (q_pure rfl) rfl ?_
            refine wpl_q (q_pure rfl) rfl <| wpl_nil ?_
            refine ex_again ⟨j + 1, zz4⟩ ?_ ?_ ?_
            · exact zz8
            · exact fun w h => h
            · show 8 - (j + 1) < 8 - j; omega
          ·
            simp only [decide_eq_false_iff_not] at hc39
            obtain rfl : j = 8 := by omega
            refine wpc_exit ?_
            refine ex_then_exit ?_
            refine ex_then_exit ?_
            refine ex_block_hit ?_
            refine ex_then ?_
            refine wpc_region_y ?_
            refine wpli_q open_wide (q_ld Tryd.underlying76 rfl rfl rfl) rfl ?_
            refine wpli_yield (l := l) (ι := { u : World // ∃ T, J T ALL u }) (V := fun _ => .bool true) (R' := fun u w => w = u.1) rfl rfl ?_ rfl fun u => ?_
            · exact fun w h => last_yield J W l ALL ps hst hyl hALL hI2 h
            refine wpli_nil ?_
            refine ret0 (.inr rfl) rfl ?_
            exact fun w h => ⟨⟨_, rfl⟩, h ▸ u.2⟩
end Go.Proofs.YtlapmdiabhlbmaaDoor
namespace Go.Proofs.YtlapmdiabhlbmaaDoor
open Go Go.PL Go.RowKit
def initS : List UInt32 := [1779033703, 3144134277, 1013904242, 2773480762, 1359893119, 2600822924, 528734635, 1541459225]
def stF2 (bl : List (List UInt8)) : List UInt32 := bl.foldl addF initS
theorem stF2_length (bl : List (List UInt8)) : (stF2 bl).length = 8 := by
  suffices h : ∀ (bl : List (List UInt8)) (s : List UInt32), s.length = 8 → (bl.foldl addF s).length = 8 from h bl initS rfl
  intro bl
  induction bl with
  | nil => exact fun s h => h
  | cons x r ih => exact fun s h => ih _ ((addF_length s x).trans h)
def outN (st : List UInt32) : Nat → List UInt8
  | 0 => List.replicate 32 0
  | i + 1 => (outN st i).set i (of8 (sr32 (st.getD (i / 4) 0) (24 - 8 * (i % 4))).toNat)
theorem outN_length (st : List UInt32) : ∀ i, (outN st i).length = 32
  | 0 => rfl
  | i + 1 => by simp [outN, outN_length st i]
def joinF (ps : List (List UInt8)) : List UInt8 := outN (stF2 (blocksF ps)) 32
theorem blocksF_64 (ps : List (List UInt8)) : ∀ x ∈ blocksF ps, x.length = 64 := by
  intro x hx
  unfold blocksF at hx
  rcases List.mem_append.1 hx with hx | hx
  · unfold chunksF at hx
    obtain ⟨i, hi, rfl⟩ := List.mem_map.1 hx
    have hi' := List.mem_range.1 hi
    rw [List.length_take, List.length_drop]
    omega
  · simp at hx
    subst hx
    rw [setLen_length, bufF_length]
def joinM (pb b3 b2 : Nat) (pv : Value) (pre : List (List UInt8)) : List Ent := [.blk pb 23 [pv], .blk b3 53 (v32s (stF2 pre)), .blk b2 26 (v8s (List.replicate 32 0))]
theorem join_it (w : World) (pb : Nat) (pv : Value) (ps : List (Value × List UInt8)) : IterOk Tryd.prog 39 #[.pointer (some ⟨pb, 0, none⟩)] encB AtB (InvB pb pv ps) (blocksF (ps.map Prod.snd)) w := by
  intro l J hst hinv hy hJ0
  exact iter J w l _ pb pv ps hst (fun T b hb pre x w1 hJ hpre hh => hy T pre x b w1 hJ hpre ⟨hb, hh⟩) rfl hinv hJ0
theorem atB_stab (T : List Nat) (x : List UInt8) (b : Nat) (w w' : World) (h : AtB T x b w) (h2 : ∀ j, j ∈ T → w'.heap[j]? = w.heap[j]?) : AtB T x b w' := ⟨h.1, (h2 b h.1).trans h.2⟩
theorem inv_join {w0 w : World} {pb b3 b2 : Nat} {pv : Value} {ps : List (Value × List UInt8)} {pre : List (List UInt8)} (hP : Parts w0.cell? pv ps) (h : Mem w0 [] (joinM pb b3 b2 pv pre) [] w) : InvB pb pv ps w :=
  ⟨h.own (.blk pb 23 [pv]) (by simp [joinM]), h.seen_old hP.1, fun q hq => h.seen_old (hP.2 q hq)⟩
theorem blocks (pv : Value) (hc : pv.cells.toList = [pv]) (w : World) :
    Calls Tryd.prog 30 [pv].toArray w (Gives w (fun pb : Nat => .func (.func 39) #[] #[.pointer (some ⟨pb, 0, none⟩)]) (fun pb => [.blk pb 23 [pv]]) (fun _ => [])) := by
  refine enter (m := 4) (R := Mem w [] [] []) Tryd.func30 rfl rfl (Nat.le_of_ble_eq_true rfl) (Mem.start w) ?_
  refine wpc_seq <| wpc_region ?_
  refine wpl_t (t_box rfl [pv] hc) rfl ?_
  intro b1
  refine wpl_q (q_pure rfl) rfl <| wpl_nil <| ex_then <| wpc_seq <| wpc_region ?_
  refine wpl_q (q_fn (us := []) (vs := [.pointer (some ⟨b1, 0, none⟩)]) rfl rfl) rfl ?_
  refine wpl_q (q_pure rfl) rfl <| wpl_nil <| ex_then <| wpc_ret ?_
  refine ret1 (.inl rfl) rfl rfl ?_
  exact fun w h => ⟨b1, rfl, h.below, h.made (Sub.refl _) .nil⟩
theorem quo4 (i : Nat) (h : i ≤ 64) : wk .i64 (Int.tdiv (i : Int) 4) = ((i / 4 : Nat) : Int) := by
  have e : Int.tdiv (i : Int) 4 = ((i / 4 : Nat) : Int) := rfl
  rw [e, wk_i64 zz4 zz4]
theorem join (pv : Value) (ps : List (Value × List UInt8)) (w : World) (hP : Parts w.cell? pv ps) (hro : CellsAt w.cell? ⟨0, 0, none⟩ (v32s rootsL)) (hsz : 0 < w.heap.size) :
    Calls Tryd.prog 16 [pv].toArray w (Pur w (.agg (v8s (joinF (ps.map Prod.snd))).toArray)) := by
  have hcell : pv.cells.toList = [pv] := by obtain ⟨_, _, rfl, _⟩ := hP.1.form; rfl
  refine enterM (m := 30) (R := Mem w [] [] []) Tryd.func16 rfl rfl (Nat.le_of_ble_eq_true rfl) (Mem.start w) ?_
  refine wpc_seq <| wpc_region ?_
  refine wpl_t (t_alloc Tryd.ti26 (v8s (List.replicate 32 0)) (by rfl)) rfl ?_
  intro b2
  refine wpl_nil <| ex_then <| wpc_seq <| wpc_region <| wpl_q (q_buildFull (v32s initS) Tryd.underlying53 Tryd.ti53 Tryd.ti46 rfl rfl (v32s_one _) rfl) rfl ?_
  refine wpl_t (t_alloc Tryd.ti53 (v32s (List.replicate 8 0)) (by rfl)) rfl ?_
  intro b3
  refine wpl_t0 (t_stA Tryd.ti53 rfl rfl rfl (v32s_one _) rfl) ?_
  intro _
  refine wpl_nil <| ex_then <| wpc_seq <| wpc_seq <| wpc_region <| wpl_q (q_pure rfl) rfl ?_
  refine wpl_t (t_call Tryd.hb30 rfl fun w h => blocks pv hcell w) rfl ?_
  intro b9
  refine wpl_nil <| ex_then <| wpc_block ?_
  refine wpc_range (xs := blocksF (ps.map Prod.snd)) (At := AtB) (Inv := InvB b9 pv ps) (encs := encB) (joinM b9 b3 b2 pv) (fun x b => [(4, .pointer (some ⟨b, 0, none⟩)), (3, .pointer (some ⟨b3, 0, none⟩)), (2, .pointer (some ⟨b2, 0, none⟩))]) rfl Tryd.hb39 (fun w h => join_it w b9 pv ps) (fun pre w h => inv_join hP h) atB_stab (fun _ _ => rfl) zz15 ?_ ?_ ?_
  · intro l x b R K hK
    refine wpci_region ?_
    refine wpli_q (open_round l) (q_pure rfl) rfl ?_
    refine wpli_nil ?_
    exact ex_assign hK zz8
  · intro l pre x b w1 T hpre hm hat hT
    have hx : x.length = 64 := blocksF_64 _ x (hpre.subset (by simp))
    have hnew : ∀ k, k ∈ nums (joinM b9 b3 b2 pv pre) → w.heap.size ≤ k := fun k hk => by
      obtain ⟨e, he, hn⟩ := mem_nums.1 hk
      exact (hm.new e he k hn).resolve_right (by simp)
    have hbn : b ∉ nums (joinM b9 b3 b2 pv pre) := fun hk => by
      obtain ⟨e, he, hn⟩ := mem_nums.1 hk
      exact inM_not (hT b hat.1).2 e he hn
    have h0n : 0 ∉ nums (joinM b9 b3 b2 pv pre) := fun hk => by have := hnew 0 hk; omega
    have hb3 : b3 ∈ nums (joinM b9 b3 b2 pv pre) := by simp [joinM, nums, Ent.num]
    show WPCI _ _ _ _ (Mem w1 (nums (joinM b9 b3 b2 pv pre)) [.blk b9 23 [pv], .blk b3 53 (v32s (stF2 pre)), .blk b2 26 (v8s (List.replicate 32 0))] []) _ _
    refine wpci_block ?_
    refine wpci_region ?_
    refine wpli_q (open_round l) (q_pure rfl) rfl ?_
    have hst : stF2 (pre ++ [x]) = addF (stF2 pre) x := by simp [stF2]
    refine wpli_t (open_round l) (t_turn1 b3 Tryd.hb31 rfl fun w' h hs => add b3 b (stF2 pre) x (stF2_length _) hx w' hs (h.at_oldL (fun j v hj => by rw [add_lit, Nat.zero_add]; exact cell_of_heap hat.2 (by simpa using hj)) hbn) (fun e => hbn (e ▸ hb3)) (h.at_oldL (hm.at_old hro) h0n) (fun e => h0n (e ▸ hb3))) rfl fun _ => ?_
    refine wpli_nil ?_
    refine ex_block ?_
    exact ex_round fun _ h => by
      have e : joinM b9 b3 b2 pv (pre ++ [x]) = [.blk b9 23 [pv], .blk b3 53 (v32s (addF (stF2 pre) x)), .blk b2 26 (v8s (List.replicate 32 0))] := by rw [joinM, hst]
      rw [e]; exact h
  intro D
  refine ex_block <| ex_then <| wpc_seq <| wpc_region ?_
  refine wpl_t (t_alloc Tryd.ti26 (v8s (outN (stF2 (blocksF (ps.map Prod.snd))) 0)) (by rfl)) rfl ?_
  intro b5
  refine wpl_nil <| ex_then <| wpc_seq <| wpc_seq <| wpc_region <| wpl_q (q_pure rfl) rfl <| wpl_nil <| ex_then <| wpc_block ?_
  refine wpc_loop (ι := { i : Nat // i ≤ 32 }) (fun i => [(13, .int .i64 (i.1 : Nat)), (5, .pointer (some ⟨b5, 0, none⟩)), (3, .pointer (some ⟨b3, 0, none⟩)), (2, .pointer (some ⟨b2, 0, none⟩))]) (fun i => Mem w [] (.blk b5 26 (v8s (outN (stF2 (blocksF (ps.map Prod.snd))) i.1)) :: .obj D (.deferred (some [])) :: joinM b9 b3 b2 pv (blocksF (ps.map Prod.snd))) []) (fun i => 32 - i.1) ⟨0, zz4⟩ ?_ ?_ ?_
  · exact by repeat (first | exact trivial | refine ⟨rfl, ?_⟩)
  · exact fun w h => h
  · rintro ⟨i, hi⟩; dsimp only
    have hol := outN_length (stF2 (blocksF (ps.map Prod.snd))) i
    have hsl := stF2_length (blocksF (ps.map Prod.snd))
    simp only [joinM]
    refine wpc_seq <| wpc_region <| wpl_q (q_pure rfl) rfl <| wpl_nil <| ex_then <| wpc_seq ?_
    refine wpc_cond rfl (fun hc14 => ?_) (fun hc14 => ?_)
    ·
      simp only [decide_eq_true_eq, decide_eq_false_iff_not, Bool.and_eq_true, Bool.or_eq_true, beq_iff_eq, bne_iff_ne, ne_eq] at hc14
      refine wpc_skip <| ex_then <| wpc_seq <| wpc_block <| wpc_seq <| wpc_region <| wpl_q (q_pure rfl) rfl <| wpl_q (q_pure rfl) rfl <| wpl_nil <| ex_then <| wpc_region <| wpl_q (q_pure rfl) rfl ?_
      refine wpl_q (q_pure rfl) rfl ?_
      refine wpl_q (qop_eq (q_quo rfl rfl zz15) (v := .int .i64 ((i / 4 : Nat) : Int)) (congrArg (Value.int .i64) (quo4 i zz4))) rfl ?_
      refine wpl_q (q_idxA Tryd.underlying53 Tryd.ti46 rfl rfl zz4 zz4 (i / 4) zz4) rfl ?_
      refine wpl_q (q_ld Tryd.underlying46 rfl rfl zz14) rfl ?_
      refine wpl_q (q_pure rfl) rfl ?_
      refine wpl_q (qop_eq (q_rem rfl rfl zz15) (v := .int .i64 ((i % 4 : Nat) : Int)) rfl) rfl ?_
      first | refine wpl_q (qop_eq (q_pure rfl) (congrArg (Value.int .i64) (wk_i64 zz4 zz4))) rfl ?_ | refine wpl_q (q_pure rfl) rfl ?_
      first | refine wpl_q (qop_eq (q_pure rfl) (congrArg (Value.int .i64) (wk_i64 zz4 zz4))) rfl ?_ | refine wpl_q (q_pure rfl) rfl ?_
      refine wpl_q (q32_shr rfl rfl zz4 (24 - 8 * (i % 4)) zz4) rfl ?_
      refine wpl_q (q8_conv Tryd.underlying46 Tryd.underlying5 rfl) rfl ?_
      refine wpl_q (q_idxA Tryd.underlying26 Tryd.ti5 rfl rfl zz4 zz4 (i) zz4) rfl ?_
      refine wpl_t0 (t_st1 Tryd.ti5 rfl rfl rfl zz16 _ (by first | exact v8s_set _ | rfl)) ?_
      intro _
      refine wpl_nil <| ex_block <| ex_then <| wpc_region ?_
      first | refine wpl_q (qop_eq (q_pure rfl) (congrArg (Value.int .i64) (wk_i64 zz4 zz4))) rfl ?_ | refine wpl_q (q_pure rfl) rfl ?_
      refine wpl_q (q_pure rfl) rfl <| wpl_nil ?_
      refine ex_again ⟨i + 1, zz4⟩ ?_ ?_ ?_
      · exact zz8
      · exact fun w h => h
      · show 32 - (i + 1) < 32 - i; omega
    ·
      simp only [decide_eq_false_iff_not] at hc14
      obtain rfl : i = 32 := by omega
      refine wpc_exit ?_
      refine ex_then_exit ?_
      refine ex_then_exit ?_
      refine ex_block_hit ?_
      refine ex_then <| wpc_seq <| wpc_region <| wpl_q (q_ldN Tryd.underlying26 rfl Tryd.ti26 rfl ((v8s_length _).trans (outN_length _ _))) rfl ?_
      refine wpl_t0 (t_stA Tryd.ti26 rfl rfl ((v8s_length _).trans (outN_length _ _)) (v8s_one _) ((v8s_length _).trans rfl)) ?_
      intro _
      refine wpl_nil <| ex_then <| wpc_ret ?_
      refine ex_mark (.inl rfl) (.there .here) ?_
      refine retv1 (.inl rfl) rfl (rv_agg Tryd.underlying26 rfl Tryd.ti26 rfl (fun w h => h.cells_blk zz12) (by rw [v8s_length]; exact outN_length _ _)) ?_
      exact fun w h => ⟨rfl, h.below⟩
end Go.Proofs.YtlapmdiabhlbmaaDoor
namespace Go.Proofs.YtlapmdiabhlbmaaDoor
open Go Go.PL Go.RowKit
theorem joinF_length (ps : List (List UInt8)) : (joinF ps).length = 32 := outN_length _ _
theorem parts_one {w0 w : World} {M : List Ent} {S : List Fact} {g : Nat} {bv : Value} {bs : List UInt8} (h : Mem w0 [] (.row (.slice (some ⟨g, 0, none⟩) 1 1) 1 22 1 [bv] :: M) S w) (hb : Seen w0.cell? bv bs.length 1 (v8s bs)) : Parts w.cell? (.slice (some ⟨g, 0, none⟩) 1 1) [(bv, bs)] :=
  ⟨h.seen_row (List.mem_cons_self ..), fun q hq => by simp at hq; subst hq; exact h.seen_old hb⟩
theorem sum (bv : Value) (bs : List UInt8) (w : World) (hb : Seen w.cell? bv bs.length 1 (v8s bs)) (hro : CellsAt w.cell? ⟨0, 0, none⟩ (v32s rootsL)) (hsz : 0 < w.heap.size) :
    Calls Tryd.prog 11 [bv].toArray w (Pur w (.agg (v8s (joinF [bs])).toArray)) := by
  refine enter (m := 6) (R := Mem w [] [] []) Tryd.func11 rfl rfl (Nat.le_of_ble_eq_true rfl) (Mem.start w) ?_
  refine wpc_seq <| wpc_region ?_
  refine wpl_t (t_alloc Tryd.ti26 (v8s (List.replicate 32 0)) (by rfl)) rfl ?_
  intro b2
  refine wpl_nil <| ex_then <| wpc_seq <| wpc_region <| wpl_q (q_pure rfl) rfl ?_
  refine wpl_t (t_buildSlice [bv] Tryd.underlying23 Tryd.ti22 rfl zz15 zz15 rfl (by obtain ⟨_, _, rfl, _⟩ := hb.form; rfl) rfl) rfl ?_
  intro b4
  refine wpl_t (t_pur Tryd.hb16 rfl fun w' h => join _ [(bv, bs)] w' (parts_one h hb) (h.at_old hro) (Nat.lt_of_lt_of_le hsz h.size)) rfl ?_
  intro b5
  refine wpl_t0 (t_stA Tryd.ti26 rfl rfl ((v8s_length _).trans (joinF_length _)) (v8s_one _) ((v8s_length _).trans rfl)) ?_
  intro _
  refine wpl_nil <| ex_then <| wpc_ret ?_
  refine retv1 (.inl rfl) rfl (rv_agg Tryd.underlying26 rfl Tryd.ti26 rfl (fun w h => h.cells_blk zz12) ((v8s_length _).trans (joinF_length _))) ?_
  exact fun w h => ⟨rfl, h.below⟩
end Go.Proofs.YtlapmdiabhlbmaaDoor
namespace Go.Proofs.YtlapmdiabhlbmaaDoor
open Go Go.PL Go.RowKit
def rotR (x : UInt32) (k : Nat) : UInt32 := sr32 x k ||| sl32 x (32 - k)
def zc (m : Nat) : Nat := (120 - (m + 1) % 64) % 64
def lenB (x : UInt64) : Nat → List UInt8
  | 0 => []
  | j + 1 => lenB x j ++ [of8 (sr64 x (8 * (7 - j))).toNat]
theorem lenB_length (x : UInt64) : ∀ j, (lenB x j).length = j
  | 0 => rfl
  | j + 1 => by simp [lenB, lenB_length x j]
def padF (bs : List UInt8) : List UInt8 := (bs ++ [128] ++ List.replicate (zc bs.length) 0) ++ lenB (of64 bs.length * 8) 8
end Go.Proofs.YtlapmdiabhlbmaaDoor
namespace Go.Proofs.YtlapmdiabhlbmaaDoor
open Go Go.PL Go.RowKit
def word4 (bs : List UInt8) (i : Nat) : Nat → UInt32
  | 0 => 0
  | j + 1 => word4 bs i j * 256 + of32 (bs.getD (4 * i + j) 0).toNat
theorem or_add (x y k : Nat) (h : y < 2 ^ k) : x * 2 ^ k ||| y = x * 2 ^ k + y := by rw [Nat.mul_comm, ← Nat.two_pow_add_eq_or_of_lt h]
theorem nat_split (a b c d : Nat) (hb : b < 256) (hc : c < 256) (hd : d < 256) : a * 16777216 ||| b * 65536 ||| c * 256 ||| d = ((a * 256 + b) * 256 + c) * 256 + d := by
  have h1 := or_add a (b * 65536) 24 zz4
  have h2 := or_add (a * 256 + b) (c * 256) 16 zz4
  have h3 := or_add ((a * 256 + b) * 256 + c) d 8 zz4
  have e1 : a * 16777216 ||| b * 65536 = (a * 256 + b) * 65536 := by
    have : a * 16777216 ||| b * 65536 = a * 16777216 + b * 65536 := h1
    rw [this]; omega
  have e2 : (a * 256 + b) * 65536 ||| c * 256 = ((a * 256 + b) * 256 + c) * 256 := by
    have : (a * 256 + b) * 65536 ||| c * 256 = (a * 256 + b) * 65536 + c * 256 := h2
    rw [this]; omega
  rw [e1, e2]; exact h3
theorem u32_split (a b c d : UInt8) : (((0 * 256 + of32 a.toNat) * 256 + of32 b.toNat) * 256 + of32 c.toNat) * 256 + of32 d.toNat =
    sl32 (of32 a.toNat) 24 ||| sl32 (of32 b.toNat) 16 ||| sl32 (of32 c.toNat) 8 ||| of32 d.toNat := by
  have e : ∀ x : UInt8, (of32 (x.toNat : Int)).toNat = x.toNat := fun x => by
    have := x.toNat_lt
    have h := of32_toNat (x.toNat : Int)
    omega
  have ha := a.toNat_lt; have hb := b.toNat_lt; have hc := c.toNat_lt; have hd := d.toNat_lt
  have hs : ∀ (x : UInt8) (k : Nat), k ≤ 24 → (sl32 (of32 x.toNat) k).toNat = x.toNat * 2 ^ k := fun x k hk => by
    have hx := x.toNat_lt
    unfold sl32
    rw [e, UInt32.toNat_ofNat']
    have h1 : 2 ^ k ≤ 2 ^ 24 := Nat.pow_le_pow_right zz4 hk
    have h2 : x.toNat * 2 ^ k ≤ 255 * 2 ^ 24 := Nat.mul_le_mul zz4 h1
    have hm : min k 32 = k := by omega
    rw [hm]
    exact Nat.mod_eq_of_lt zz4
  apply UInt32.toNat_inj.1
  simp only [UInt32.toNat_or, hs _ 24 zz4, hs _ 16 zz4, hs _ 8 zz4, UInt32.toNat_add, UInt32.toNat_mul, e]
  have := nat_split a.toNat b.toNat c.toNat d.toNat zz4 zz4 zz4
  have e2 : a.toNat * 2 ^ 24 ||| b.toNat * 2 ^ 16 ||| c.toNat * 2 ^ 8 ||| d.toNat = ((a.toNat * 256 + b.toNat) * 256 + c.toNat) * 256 + d.toNat := this
  rw [e2]
  have z : (0 : UInt32).toNat = 0 := rfl
  have z2 : (256 : UInt32).toNat = 256 := rfl
  rw [z, z2]
  omega
theorem word4_eq (bs : List UInt8) (i : Nat) : word4 bs i 4 = wordF bs i := u32_split _ _ _ _
theorem rotR_eq (x : UInt32) (k : Nat) (h1 : 1 ≤ k) (h2 : k ≤ 31) : rotR x k = rotlF x (-(k : Int)) := by
  have e : (of64 (-(k : Int)) &&& 31).toNat = 32 - k := by
    have h := of64_toNat (-(k : Int))
    have h3 : (of64 (-(k : Int))).toNat = 18446744073709551616 - k := by omega
    have h4 : (of64 (-(k : Int)) &&& 31).toNat = (of64 (-(k : Int))).toNat % 32 := by
      rw [UInt64.toNat_and]; exact Nat.and_two_pow_sub_one_eq_mod _ 5
    rw [h4, h3]; omega
  have e2 : (32 - (of64 (-(k : Int)) &&& 31)).toNat = k := by
    rw [UInt64.toNat_sub, e]; simp; omega
  unfold rotR rotlF
  rw [e, e2]
  simp only [Int.toNat_natCast]
  apply UInt32.eq_of_toBitVec_eq
  simp only [UInt32.toBitVec_or]
  rw [BitVec.or_comm]
def sumF (bs : List UInt8) : List UInt8 := outN (stF2 (chunksF (padF bs))) 32
theorem sumF_length (bs : List UInt8) : (sumF bs).length = 32 := outN_length _ _
end Go.Proofs.YtlapmdiabhlbmaaDoor
namespace Go.Proofs.YtlapmdiabhlbmaaDoor
open Go Go.PL Go.RowKit
theorem lenN_eq (ps : List (List UInt8)) : ∀ i, i ≤ ps.length → lenN ps i = of64 ((ps.take i).flatten.length : Nat)
  | 0, _ => by simp [lenN, of64]
  | i + 1, h => by
    rw [lenN, lenN_eq ps i zz4, take_succ_flat ps i zz4, List.length_append]
    apply UInt64.toNat_inj.1
    have h1 := of64_toNat (((ps.take i).flatten.length : Nat) : Int)
    have h2 := of64_toNat (((ps.getD i []).length : Nat) : Int)
    have h3 := of64_toNat ((((ps.take i).flatten.length + (ps.getD i []).length : Nat) : Nat) : Int)
    rw [UInt64.toNat_add]
    omega
theorem setLen_eq (buf : List UInt8) (x : UInt64) (h : buf.length = 64) : ∀ i, i ≤ 8 → setLen buf x i = buf.take 56 ++ lenB x i ++ buf.drop (56 + i)
  | 0, _ => by simp [setLen, lenB]
  | i + 1, hi => by
    rw [setLen, setLen_eq buf x h i zz4]
    have hl : (buf.take 56 ++ lenB x i).length = 56 + i := by simp [lenB_length]; omega
    have hd : buf.drop (56 + i) = buf.getD (56 + i) 0 :: buf.drop (56 + (i + 1)) := by
      rw [List.drop_eq_getElem_cons zz4, List.getD_eq_getElem?_getD, List.getElem?_eq_getElem zz4]; rfl
    rw [List.set_append_right (56 + i) _ zz4, hl, Nat.sub_self, hd, List.set_cons_zero, lenB]
    simp [show 56 - 8 * i = 8 * (7 - i) from zz4]
theorem blocks_pad (ps : List (List UInt8)) : blocksF ps = chunksF (padF ps.flatten) := by
  unfold blocksF
  rw [lenN_eq ps _ (Nat.le_refl _), List.take_length]
  generalize ps.flatten = a
  have hc : a ++ [(128 : UInt8)] ++ List.replicate (zc a.length) 0 = cF a ++ List.replicate (56 - (cF a).length % 64) 0 ∧ (cF a).length % 64 ≤ 56 := by
    by_cases h : (a ++ [(128 : UInt8)]).length % 64 > 56
    · rw [cF_full a h]
      have hl : (a ++ [(128 : UInt8)] ++ List.replicate (64 - (a ++ [(128 : UInt8)]).length % 64) (0 : UInt8)).length % 64 = 0 := by
        rw [List.length_append, List.length_replicate]; omega
      refine ⟨?_, zz4⟩
      rw [hl, List.append_assoc, List.append_assoc, List.append_assoc, List.replicate_append_replicate]
      congr 3
      simp [zc] at h ⊢; omega
    · rw [cF_room a h]
      refine ⟨?_, zz4⟩
      congr 2
      simp [zc] at h ⊢; omega
  unfold padF
  rw [hc.1]
  generalize cF a = c at hc
  obtain ⟨_, hr⟩ := hc
  rw [setLen_eq _ _ (bufF_length c) 8 zz4, List.append_assoc c]
  have hx : c.length % 64 + (List.replicate (56 - c.length % 64) (0 : UInt8) ++ lenB (of64 (a.length : Nat) * 8) 8).length = 64 := by
    rw [List.length_append, List.length_replicate, lenB_length]; omega
  rw [(put_full c _ hx).1, hx]
  congr 2
  have e1 : (bufF c).drop (56 + 8) = [] := List.drop_of_length_le (by rw [bufF_length]; omega)
  rw [e1, List.append_nil, List.append_nil, ← List.append_assoc]
  congr 1
  rw [buf_take]
  unfold bufF
  have e3 : (c.drop (64 * (c.length / 64))).length = c.length % 64 := by rw [List.length_drop]; omega
  rw [List.take_append, List.take_of_length_le zz4, e3, List.take_replicate]
  congr 2; omega
theorem join_sum (ps : List (List UInt8)) : joinF ps = sumF ps.flatten := by unfold joinF sumF; rw [blocks_pad]
theorem one_flat (bs : List UInt8) : [bs].flatten = bs := by simp
theorem same_step (xs ys : List UInt8) (i : Nat) (h : xs.take i = ys.take i) (h1 : i < xs.length) (h2 : i < ys.length) (he : xs.getD i 0 = ys.getD i 0) : xs.take (i + 1) = ys.take (i + 1) := by
  rw [List.take_add_one, List.take_add_one, h]
  simp only [List.getD_eq_getElem?_getD, List.getElem?_eq_getElem h1, List.getElem?_eq_getElem h2, Option.getD_some] at he
  simp [h1, h2, he]
theorem refSame (av : Value) (xs : List UInt8) (bv : Value) (ys : List UInt8) (w : World) (hav : Seen w.cell? av xs.length 1 (v8s xs)) (hbv : Seen w.cell? bv ys.length 1 (v8s ys))  :
    Calls Tryd.prog 15 [av, bv].toArray w (Pur w (.bool (decide (xs = ys)))) := by
  have sav := hav.sv
  have lav := sav.le
  simp only [maxLen] at lav
  have sbv := hbv.sv
  have lbv := sbv.le
  simp only [maxLen] at lbv
  refine enter (m := 26) (R := Mem w [] [] []) Tryd.func15 rfl rfl (Nat.le_of_ble_eq_true rfl) (Mem.start w) ?_
  refine wpc_seq <| wpc_region <| wpl_q (q_pure rfl) rfl <| wpl_nil <| ex_then <| wpc_seq <| wpc_seq <| wpc_region <| wpl_q (q_pure rfl) rfl ?_
  refine wpl_q (q_lenW Tryd.underlying22 rfl zz5) rfl ?_
  refine wpl_q (q_pure rfl) rfl ?_
  refine wpl_q (q_lenW Tryd.underlying22 rfl zz5) rfl ?_
  refine wpl_q (q_pure rfl) rfl <| wpl_nil <| ex_then ?_
  refine wpc_cond rfl (fun hc10 => ?_) (fun hc10 => ?_)
  ·
   simp only [decide_eq_true_eq, bne_iff_ne, ne_eq] at hc10
   have hne : xs ≠ ys := fun e => hc10 (by rw [e])
   refine wpc_seq <| wpc_region <| wpl_q (q_pure rfl) rfl <| wpl_nil <| ex_then <| wpc_ret ?_
   refine ex_then_ret ?_
   refine ret1 (.inl rfl) rfl rfl ?_
   exact fun w h => ⟨by simp [hne], h.below⟩
  ·
   simp only [bne_eq_false_iff_eq] at hc10
   have hl : xs.length = ys.length := by omega
   refine wpc_skip <| ex_then <| wpc_seq <| wpc_seq <| wpc_region <| wpl_q (q_pure rfl) rfl <| wpl_nil <| ex_then <| wpc_block ?_
   refine wpc_loopc (ι := { x : Nat // (x ≤ xs.length) ∧ (xs.take x = ys.take x) }) [(0, _), (1, _)] (fun x Lc => (5, .int .i64 ((x.1 : Nat) : Int)) :: Lc) (fun x => Mem w [] [] []) (fun x => xs.length - x.1) ⟨0, ⟨Nat.zero_le _, rfl⟩⟩ zz8 ?_ ?_
   ·
    exact fun w h => h
   ·
    rintro ⟨i, ⟨hi0, hi1⟩⟩; try dsimp only
    have hi0 : i ≤ xs.length := hi0; have hi1 : xs.take i = ys.take i := hi1
    refine wpc_seq <| wpc_seq <| wpc_region <| wpl_q (q_pure rfl) rfl <| wpl_q (q_pure rfl) rfl ?_
    refine wpl_q (q_lenW Tryd.underlying22 rfl zz5) rfl ?_
    refine wpl_q (q_pure rfl) rfl <| wpl_nil <| ex_then ?_
    refine wpc_cond rfl (fun hc14 => ?_) (fun hc14 => ?_)
    ·
     try simp only [decide_eq_true_eq, decide_eq_false_iff_not, Bool.and_eq_true, Bool.or_eq_true, beq_iff_eq, bne_iff_ne, ne_eq, Bool.not_eq_true', Bool.not_eq_false', Decidable.not_not] at hc14
     refine wpc_skip <| ex_then <| wpc_seq <| wpc_block <| wpc_seq ?_
     refine wpc_draw 9 zz3 (fun _ h => h.drew) ?_
     refine wpd_p 0 rfl zz3 trivial (q_pure rfl) rfl sk0 ?_
     refine wpd_p 1 rfl zz3 trivial (q_pure rfl) rfl sk0 ?_
     refine wpd_p 2 rfl zz3 trivial (q_idxW1 Tryd.underlying22 Tryd.ti5 rfl rfl zz5 zz1) rfl sk0 ?_
     refine wpd_q 3 rfl zz3 trivial (q_ldW Tryd.underlying5 rfl rfl (fun w h => zz7) (by first | exact v8s_get zz10 | rfl)) rfl (fun _ h => h) ?_
     refine wpd_p 4 rfl zz3 trivial (q_pure rfl) rfl sk0 ?_
     refine wpd_p 5 rfl zz3 trivial (q_pure rfl) rfl sk0 ?_
     refine wpd_p 6 rfl zz3 trivial (q_idxW1 Tryd.underlying22 Tryd.ti5 rfl rfl zz5 zz1) rfl sk0 ?_
     refine wpd_q 7 rfl zz3 trivial (q_ldW Tryd.underlying5 rfl rfl (fun w h => zz7) (by first | exact v8s_get zz10 | rfl)) rfl (fun _ h => h) ?_
     refine wpd_p 8 rfl zz3 trivial (q8_neq rfl rfl) rfl sk0 ?_
     refine wpd_done zz3 ?_
     refine ex_then ?_
     refine wpc_cond rfl (fun hc25 => ?_) (fun hc25 => ?_)
     ·
      simp only [Bool.not_eq_true', decide_eq_false_iff_not] at hc25
      have hne : xs ≠ ys := fun e => hc25 (by rw [e])
      refine wpc_seq <| wpc_region <| wpl_q (q_pure rfl) rfl <| wpl_nil <| ex_then <| wpc_ret ?_
      refine ex_block_ret ?_
      refine ex_then_ret ?_
      refine ex_then_ret ?_
      refine ex_block_ret ?_
      refine ex_then_ret ?_
      refine ret1 (.inl rfl) rfl rfl ?_
      exact fun w h => ⟨by simp [hne], h.below⟩
     ·
      simp only [Bool.not_eq_false', decide_eq_true_eq] at hc25
      refine wpc_skip <| ex_block <| ex_then <| wpc_region <| wpl_q (q_pure rfl) rfl ?_
      refine wpl_q (q_addN (b := 1) rfl rfl zz1) rfl ?_
      refine wpl_q (q_pure rfl) rfl <| wpl_nil ?_
      refine ex_again ⟨i + 1, ⟨zz4, same_step xs ys i hi1 zz4 zz4 hc25⟩⟩ ?_ ?_ ?_
      ·
       exact zz8
      ·
       exact fun w h => by first | exact h | exact h.sub SubC.h SubC.h | exact h.sub zz9 zz9
      ·
       (show xs.length - (i + 1) < xs.length - i); omega
    ·
     simp only [decide_eq_false_iff_not] at hc14
     obtain rfl : i = xs.length := by omega
     have heq : xs = ys := by rw [List.take_length, hl, List.take_length] at hi1; exact hi1
     refine wpc_exit ?_
     refine ex_then_exit ?_
     refine ex_then_exit ?_
     refine ex_block_hit ?_
     refine ex_then <| wpc_seq <| wpc_region <| wpl_q (q_pure rfl) rfl <| wpl_nil <| ex_then <| wpc_ret ?_
     refine ret1 (.inl rfl) rfl rfl ?_
     exact fun w h => ⟨by simp [heq], h.below⟩
end Go.Proofs.YtlapmdiabhlbmaaDoor
namespace Go.Proofs.YtlapmdiabhlbmaaDoor
open Go Go.PL Go.RowKit
def Glb (w : World) : Prop := CellsAt w.cell? ⟨0, 0, none⟩ (v32s rootsL) ∧ 0 < w.heap.size
theorem glob {w0 w : World} {M : List Ent} {S : List Fact} (h : Mem w0 [] M S w) (hG : Glb w0) : Glb w := ⟨h.at_old hG.1, Nat.lt_of_lt_of_le hG.2 h.size⟩
theorem joinW (pv : Value) (ps : List (Value × List UInt8)) (w : World) (hP : Parts w.cell? pv ps) (hG : Glb w) : Calls Tryd.prog 16 [pv].toArray w (Pur w (.agg (v8s (sumF (ps.map Prod.snd).flatten)).toArray)) := by
  rw [← join_sum]; exact join pv ps w hP hG.1 hG.2
theorem sumW (bv : Value) (bs : List UInt8) (w : World) (hb : Seen w.cell? bv bs.length 1 (v8s bs)) (hG : Glb w) : Calls Tryd.prog 11 [bv].toArray w (Pur w (.agg (v8s (sumF bs)).toArray)) := by
  have := sum bv bs w hb hG.1 hG.2
  rwa [join_sum, one_flat] at this
theorem eq8_26 : Eq8 Tryd.prog 26 32 := eqc_array Tryd.underlying26 Tryd.ti26 Tryd.ti5 rfl (eqc_int Tryd.underlying5 Tryd.ti5)
end Go.Proofs.YtlapmdiabhlbmaaDoor
namespace Go.Proofs.YtlapmdiabhlbmaaDoor
open Go Go.PL Go.RowKit
def hexD : List UInt8 := [48, 49, 50, 51, 52, 53, 54, 55, 56, 57, 97, 98, 99, 100, 101, 102]
def hexF (xs : List UInt8) : Nat → List UInt8
  | 0 => []
  | i + 1 => hexF xs i ++ [hexD.getD (sr8 (xs.getD i 0) 4).toNat 0] ++ [hexD.getD ((xs.getD i 0) &&& 15).toNat 0]
theorem sr8_lt (x : UInt8) : (sr8 x 4).toNat < 16 := by
  have := x.toNat_lt
  simp only [sr8, UInt8.toNat_ofNat']
  have : min 4 8 = 4 := rfl
  rw [this]; omega
theorem and8_lt (x : UInt8) : (x &&& 15).toNat < 16 := by
  rw [UInt8.toNat_and]
  have : x.toNat &&& (15 : UInt8).toNat = x.toNat % 16 := Nat.and_two_pow_sub_one_eq_mod _ 4
  rw [this]; exact Nat.mod_lt _ zz15
theorem hexF_length (xs : List UInt8) : ∀ i, (hexF xs i).length = 2 * i
  | 0 => rfl
  | i + 1 => by rw [hexF, List.length_append, List.length_append, hexF_length xs i]; simp; omega
theorem hexW (bv : Value) (bs : List UInt8) (w : World) (hbv : Seen w.cell? bv bs.length 1 (v8s bs)) (hbl : bs.length ≤ 100000) :
    Calls Tryd.prog 18 [bv].toArray w (Pur w (str (hexF bs bs.length))) := by
  have sbv := hbv.sv
  have lbv := sbv.le
  simp only [maxLen] at lbv
  refine enter (m := 22) (R := Mem w [] [] []) Tryd.func18 rfl rfl (Nat.le_of_ble_eq_true rfl) (Mem.start w) ?_
  refine wpc_seq <| wpc_region <| wpl_q (q_pure rfl) rfl <| wpl_nil <| ex_then <| wpc_seq <| wpc_region ?_
  refine wpl_t (t_alloc Tryd.ti61 _ rfl) rfl (fun b3 => ?_)
  refine wpl_nil <| ex_then <| wpc_seq <| wpc_seq <| wpc_region <| wpl_q (q_pure rfl) rfl ?_
  refine wpl_q (q_lenW Tryd.underlying22 rfl zz5) rfl ?_
  refine wpl_q (q_pure rfl) rfl <| wpl_nil <| ex_then <| wpc_block ?_
  refine wpc_loopc (ι := { x : Nat × Value × Value // (x.1 ≤ bs.length) ∧ (SV x.2.1 (hexF bs x.1).length) ∧ ((x.1 = 0 → x.2.1 = .slice none 0 0)) ∧ ((x.2.2 = .pointer none ∨ x.2.2 = .pointer (some ⟨b3, 0, none⟩))) }) [(3, _), (6, _), (7, _)] (fun x Lc => (8, .int .i64 ((x.1.1 : Nat) : Int)) :: Lc) (fun x => Mem w [] (bEnts b3 x.1.2.2 x.1.2.1 (hexF bs x.1.1)) []) (fun x => bs.length - x.1.1) ⟨(0, .slice none 0 0, .pointer none), ⟨Nat.zero_le _, SV.nil, fun _ => rfl, .inl rfl⟩⟩ zz8 ?_ ?_
  · exact fun w h => h.nilRow 5 1
  · rintro ⟨⟨i, v, p⟩, ⟨hi0, hi1, hi2, hi3⟩⟩; try dsimp only
    have hi0 : i ≤ bs.length := hi0; have hi1 : SV v (hexF bs i).length := hi1; have hi2 : (i = 0 → v = .slice none 0 0) := hi2; have hi3 : (p = .pointer none ∨ p = .pointer (some ⟨b3, 0, none⟩)) := hi3
    have hxl := hexF_length bs i
    have hb1 := sr8_lt (bs.getD i 0)
    have hb2 := and8_lt (bs.getD i 0)
    refine wpc_seq <| wpc_region <| wpl_q (q_pure rfl) rfl <| wpl_nil <| ex_then <| wpc_seq ?_
    refine wpc_cond rfl (fun hc9 => ?_) (fun hc9 => ?_)
    ·
      try simp only [decide_eq_true_eq, decide_eq_false_iff_not, Bool.and_eq_true, Bool.or_eq_true, beq_iff_eq, bne_iff_ne, ne_eq, Bool.not_eq_true', Bool.not_eq_false', Decidable.not_not] at hc9
      refine wpc_skip <| ex_then <| wpc_seq <| wpc_block <| wpc_seq <| wpc_region ?_
      refine wpl_q (q_idxW1 Tryd.underlying22 Tryd.ti5 rfl rfl zz5 zz1) rfl ?_
      refine wpl_q (q_ldW Tryd.underlying5 rfl rfl (fun w h => zz7) (by first | exact v8s_get zz10 | rfl)) rfl ?_
      refine wpl_q (q_pure rfl) rfl <| wpl_nil <| ex_then <| wpc_seq <| wpc_region <| wpl_q (q_pure rfl) rfl ?_
      refine wpl_q (q8_shr rfl rfl zz17 4 rfl) rfl ?_
      refine wpl_q (q_strIdx Tryd.underlying9 rfl rfl zz1) rfl ?_
      refine wpl_tp (t_callA Tryd.hb32 rfl fun w h h2 => writeByte b3 p v (hexF bs i) _ w h2 hi1 hi3 (by first | omega | (simp only [List.length_append, List.length_cons, List.length_nil]; omega))) rfl (fun b15 p15 => ?_)
      refine wpl_nil <| ex_then <| wpc_region <| wpl_q (q_pure rfl) rfl ?_
      refine wpl_q (q8_and (b := (15 : UInt8)) rfl rfl) rfl ?_
      refine wpl_q (q_strIdx Tryd.underlying9 rfl rfl zz1) rfl ?_
      refine wpl_tp (t_callA Tryd.hb32 rfl fun w h h2 => writeByte b3 (.pointer (some ⟨b3, 0, none⟩)) b15 _ _ w h2 p15 (.inr rfl) (by first | omega | (simp only [List.length_append, List.length_cons, List.length_nil]; omega))) rfl (fun b19 p19 => ?_)
      refine wpl_nil <| ex_block <| ex_then <| wpc_region ?_
      refine wpl_q (q_addN (b := 1) rfl rfl zz1) rfl ?_
      refine wpl_q (q_pure rfl) rfl <| wpl_nil ?_
      refine ex_again ⟨(i + 1, b19, .pointer (some ⟨b3, 0, none⟩)), ⟨zz4, p19, fun h => absurd h (Nat.succ_ne_zero _), Or.inr rfl⟩⟩ ?_ ?_ ?_
      · exact zz8
      · exact fun w h => by first | exact h | exact h.sub zz9 zz9
      · (show bs.length - (i + 1) < bs.length - i); omega
    ·
      simp only [decide_eq_false_iff_not] at hc9
      obtain rfl : i = bs.length := by omega
      have hnil : hexF bs bs.length = [] → v = .slice none 0 0 := fun h => hi2 (by have h1 := congrArg List.length h; rw [hxl, List.length_nil] at h1; omega)
      refine wpc_exit ?_
      refine ex_then_exit ?_
      refine ex_then_exit ?_
      refine ex_block_hit ?_
      refine ex_then <| wpc_seq <| wpc_region ?_
      refine wpl_tp (t_callA Tryd.hb33 rfl fun w h h2 => string_ b3 p v (hexF bs bs.length) w h2 hi1 hnil zz4) rfl (fun b21 p21 => ?_)
      refine wpl_q (q_pure rfl) rfl <| wpl_nil <| ex_then <| wpc_ret ?_
      refine ret1 (.inl rfl) rfl rfl ?_
      exact fun w h => ⟨rfl, h.below⟩
end Go.Proofs.YtlapmdiabhlbmaaDoor
namespace Go.Proofs.YtlapmdiabhlbmaaDoor
open Go Go.PL Go.RowKit
def b64A : List UInt8 := [65, 66, 67, 68, 69, 70, 71, 72, 73, 74, 75, 76, 77, 78, 79, 80, 81, 82, 83, 84, 85, 86, 87, 88, 89, 90, 97, 98, 99, 100, 101, 102, 103, 104, 105, 106, 107, 108, 109, 110, 111, 112, 113, 114, 115, 116, 117, 118, 119, 120, 121, 122, 48, 49, 50, 51, 52, 53, 54, 55, 56, 57, 43, 47]
def word3 (xs : List UInt8) : Nat := ((xs.getD 0 0).toNat * 2 ^ 16 ||| (xs.getD 1 0).toNat * 2 ^ 8) ||| (xs.getD 2 0).toNat
def b64C (xs : List UInt8) (n k : Nat) : UInt8 := if n < k then 61 else b64A.getD (word3 xs / 2 ^ (18 - 6 * k) &&& 63) 0
def b64G (xs : List UInt8) (n : Nat) : Nat → List UInt8
  | 0 => []
  | k + 1 => b64G xs n k ++ [b64C xs n k]
theorem b64G_length (xs : List UInt8) (n : Nat) : ∀ k, (b64G xs n k).length = k
  | 0 => rfl
  | k + 1 => by rw [b64G, List.length_append, b64G_length xs n k]; rfl
def pad3 (ys : List UInt8) : List UInt8 := ys.take 3 ++ (List.replicate 3 (0 : UInt8)).drop (min ys.length 3)
theorem pad3_length (ys : List UInt8) : (pad3 ys).length = 3 := by
  unfold pad3; rw [List.length_append, List.length_take, List.length_drop, List.length_replicate]; omega
def b64F (xs : List UInt8) : Nat → List UInt8
  | 0 => []
  | g + 1 => b64F xs g ++ b64G (pad3 (xs.drop (3 * g))) (min (xs.drop (3 * g)).length 3) 4
theorem b64F_length (xs : List UInt8) : ∀ g, (b64F xs g).length = 4 * g
  | 0 => rfl
  | g + 1 => by rw [b64F, List.length_append, b64F_length xs g, b64G_length]; omega
def base64F (xs : List UInt8) : List UInt8 := b64F xs ((xs.length + 2) / 3)
theorem pad3_copy (ys : List UInt8) : (v8s (List.replicate 3 0)).take 0 ++ (v8s ys).take (min ys.length 3) ++ (v8s (List.replicate 3 0)).drop (0 + min ys.length 3) = v8s (pad3 ys) := by
  have h : ys.take (min ys.length 3) = ys.take 3 := by rw [← List.take_take, List.take_of_length_le (by rw [List.length_take]; omega)]
  rw [pad3, v8s_append, List.take_zero, List.nil_append, Nat.zero_add]
  simp only [v8s, ← List.map_take, ← List.map_drop, h]
theorem rest3 {r : Rd} {u : Value} {xs : List UInt8} {g : Nat} (h : Seen r u (xs.drop (3 * g)).length 1 (v8s (xs.drop (3 * g)))) :
    Seen r (slv u (min (xs.drop (3 * g)).length 3) (xs.drop (3 * g)).length 1) (xs.drop (3 * (g + 1))).length 1 (v8s (xs.drop (3 * (g + 1)))) := by
  have h2 := h.slv8 (min (xs.drop (3 * g)).length 3) (xs.drop (3 * g)).length zz4 (Nat.le_refl _)
  have e : ((xs.drop (3 * g)).drop (min (xs.drop (3 * g)).length 3)).take ((xs.drop (3 * g)).length - min (xs.drop (3 * g)).length 3) = xs.drop (3 * (g + 1)) := by
    rw [List.take_of_length_le zz18, List.drop_drop]
    by_cases hc : 3 ≤ (xs.drop (3 * g)).length
    · rw [Nat.min_eq_right hc]; rfl
    · rw [List.length_drop] at hc
      rw [List.drop_of_length_le zz18, List.drop_of_length_le zz4]
  have e2 : (xs.drop (3 * g)).length - min (xs.drop (3 * g)).length 3 = (xs.drop (3 * (g + 1))).length := by simp only [List.length_drop]; omega
  rw [e, e2] at h2
  exact h2
theorem word3_lt (xs : List UInt8) : word3 xs < 2 ^ 24 := by
  have h0 := (xs.getD 0 0).toNat_lt
  have h1 := (xs.getD 1 0).toNat_lt
  have h2 := (xs.getD 2 0).toNat_lt
  exact Nat.or_lt_two_pow (Nat.or_lt_two_pow zz4 zz4) zz4
theorem and63_lt (n : Nat) : n &&& 63 < 64 := by
  rw [show n &&& 63 = n % 64 from Nat.and_two_pow_sub_one_eq_mod _ 6]; omega
theorem base64 (bv : Value) (bs : List UInt8) (w : World) (hbv : Seen w.cell? bv bs.length 1 (v8s bs)) (hbl : bs.length ≤ 100000) :
    Calls Tryd.prog 19 [bv].toArray w (Pur w (str (base64F bs))) := by
  have sbv := hbv.sv
  have lbv := sbv.le
  simp only [maxLen] at lbv
  refine enter (m := 47) (R := Mem w [] [] []) Tryd.func19 rfl rfl (Nat.le_of_ble_eq_true rfl) (Mem.start w) ?_
  refine wpc_seq <| wpc_region <| wpl_q (q_pure rfl) rfl <| wpl_nil <| ex_then <| wpc_seq <| wpc_region ?_
  refine wpl_t (t_alloc Tryd.ti61 _ rfl) rfl (fun b3 => ?_)
  refine wpl_nil <| ex_then <| wpc_seq <| wpc_block ?_
  refine wpc_loopc (ι := { x : Nat × Value × Value × Value // (3 * x.1 ≤ bs.length + 2) ∧ (SV x.2.1 (b64F bs x.1).length) ∧ ((x.1 = 0 → x.2.1 = .slice none 0 0)) ∧ ((x.2.2.1 = .pointer none ∨ x.2.2.1 = .pointer (some ⟨b3, 0, none⟩))) ∧ (Seen w.cell? x.2.2.2 (bs.drop (3 * x.1)).length 1 (v8s (bs.drop (3 * x.1)))) }) [(3, _)] (fun x Lc => (0, x.1.2.2.2) :: Lc) (fun x => Mem w [] (bEnts b3 x.1.2.2.1 x.1.2.1 (b64F bs x.1.1)) []) (fun x => bs.length - 3 * x.1.1) ⟨(0, .slice none 0 0, .pointer none, bv), ⟨Nat.zero_le _, SV.nil, fun _ => rfl, .inl rfl, hbv⟩⟩ zz8 ?_ ?_
  · exact fun w h => h.nilRow 5 1
  · rintro ⟨⟨g, v, p, u⟩, ⟨hi0, hi1, hi2, hi3, hi4⟩⟩; try dsimp only
    have hi0 : 3 * g ≤ bs.length + 2 := hi0; have hi1 : SV v (b64F bs g).length := hi1; have hi2 : (g = 0 → v = .slice none 0 0) := hi2; have hi3 : (p = .pointer none ∨ p = .pointer (some ⟨b3, 0, none⟩)) := hi3; have hi4 : Seen w.cell? u (bs.drop (3 * g)).length 1 (v8s (bs.drop (3 * g))) := hi4
    have hfl := b64F_length bs g
    have su := hi4.sv
    have hdl : (bs.drop (3 * g)).length = bs.length - 3 * g := List.length_drop
    refine wpc_seq <| wpc_seq <| wpc_region <| wpl_q (q_pure rfl) rfl ?_
    refine wpl_q (q_lenW Tryd.underlying22 rfl zz5) rfl ?_
    refine wpl_q (q_pure rfl) rfl <| wpl_nil <| ex_then ?_
    refine wpc_cond rfl (fun hc10 => ?_) (fun hc10 => ?_)
    ·
      simp only [decide_eq_true_eq, gt_iff_lt] at hc10
      have hp3 := pad3_length (bs.drop (3 * g))
      have hw3 := word3_lt (pad3 (bs.drop (3 * g)))
      simp only [word3] at hw3
      have hx0 := ((pad3 (bs.drop (3 * g))).getD 0 0).toNat_lt
      have hx1 := ((pad3 (bs.drop (3 * g))).getD 1 0).toNat_lt
      have hx2 := ((pad3 (bs.drop (3 * g))).getD 2 0).toNat_lt
      have hor : ((pad3 (bs.drop (3 * g))).getD 0 0).toNat * 2 ^ 16 ||| ((pad3 (bs.drop (3 * g))).getD 1 0).toNat * 2 ^ 8 < 2 ^ 24 := Nat.or_lt_two_pow zz4 zz4
      refine wpc_skip <| ex_then <| wpc_block <| wpc_seq <| wpc_region ?_
      refine wpl_t (t_alloc Tryd.ti66 (v8s (List.replicate 3 0)) (by rfl)) rfl (fun b4 => ?_)
      refine wpl_nil <| ex_then <| wpc_seq <| wpc_region <| wpl_q (q_arAll Tryd.underlying66 Tryd.ti5 rfl rfl) rfl <| wpl_q (q_pure rfl) rfl ?_
      refine wpl_t (t_copy Tryd.underlying22 Tryd.ti5 rfl rfl (fun w h => h.seen_old hi4) (v8s_one _) (by rw [v8s_length]; exact Nat.le_refl _) (min (bs.drop (3 * g)).length 3) rfl (v8s (pad3 (bs.drop (3 * g)))) (pad3_copy _)) rfl (fun b13 => ?_)
      refine wpl_q (q_pure rfl) rfl <| wpl_nil <| ex_then <| wpc_seq <| wpc_region ?_
      refine wpl_q (q_idxA1 (j := 0) Tryd.underlying66 Tryd.ti5 rfl rfl zz4) rfl ?_
      refine wpl_q (q_ld Tryd.underlying5 rfl rfl (by first | exact v8s_get zz10 | rfl)) rfl ?_
      refine wpl_q (q8_int Tryd.underlying5 Tryd.underlying3 rfl) rfl ?_
      refine wpl_q (q_shlN (b := 16) rfl rfl zz17 zz1) rfl ?_
      refine wpl_q (q_idxA1 (j := 1) Tryd.underlying66 Tryd.ti5 rfl rfl zz4) rfl ?_
      refine wpl_q (q_ld Tryd.underlying5 rfl rfl (by first | exact v8s_get zz10 | rfl)) rfl ?_
      refine wpl_q (q8_int Tryd.underlying5 Tryd.underlying3 rfl) rfl ?_
      refine wpl_q (q_shlN (b := 8) rfl rfl zz17 zz1) rfl ?_
      refine wpl_q (q_orN rfl rfl zz1 zz1) rfl ?_
      refine wpl_q (q_idxA1 (j := 2) Tryd.underlying66 Tryd.ti5 rfl rfl zz4) rfl ?_
      refine wpl_q (q_ld Tryd.underlying5 rfl rfl (by first | exact v8s_get zz10 | rfl)) rfl ?_
      refine wpl_q (q8_int Tryd.underlying5 Tryd.underlying3 rfl) rfl ?_
      refine wpl_q (q_orN rfl rfl zz1 zz1) rfl ?_
      refine wpl_q (q_pure rfl) rfl <| wpl_nil <| ex_then <| wpc_seq <| wpc_seq <| wpc_region <| wpl_q (q_pure rfl) rfl <| wpl_nil <| ex_then <| wpc_block ?_
      refine wpc_loopc (ι := { x : Nat × Value × Value // (x.1 ≤ 4) ∧ (SV x.2.1 (b64F bs g ++ b64G (pad3 (bs.drop (3 * g))) (min (bs.drop (3 * g)).length 3) x.1).length) ∧ ((x.2.2 = .pointer none ∨ x.2.2 = .pointer (some ⟨b3, 0, none⟩))) }) [(0, _), (3, _), (5, _), (6, _)] (fun x Lc => (27, .int .i64 ((x.1.1 : Nat) : Int)) :: Lc) (fun x => Mem w [] (bEnts b3 x.1.2.2 x.1.2.1 (b64F bs g ++ b64G (pad3 (bs.drop (3 * g))) (min (bs.drop (3 * g)).length 3) x.1.1)) []) (fun x => 4 - x.1.1) ⟨(0, v, p), ⟨Nat.zero_le _, by rw [b64G, List.append_nil]; exact hi1, hi3⟩⟩ zz8 ?_ ?_
      · exact fun w h => by
          dsimp only
          rw [b64G, List.append_nil]
          exact h.sub zz9 zz9
      · rintro ⟨⟨k, v2, p2⟩, ⟨hi0, hi1, hi2⟩⟩; try dsimp only
        have hi0 : k ≤ 4 := hi0; have hi1 : SV v2 (b64F bs g ++ b64G (pad3 (bs.drop (3 * g))) (min (bs.drop (3 * g)).length 3) k).length := hi1; have hi2 : (p2 = .pointer none ∨ p2 = .pointer (some ⟨b3, 0, none⟩)) := hi2
        refine wpc_seq <| wpc_region <| wpl_q (q_pure rfl) rfl <| wpl_nil <| ex_then <| wpc_seq ?_
        refine wpc_cond rfl (fun hc28 => ?_) (fun hc28 => ?_)
        ·
          try simp only [decide_eq_true_eq, decide_eq_false_iff_not, Bool.and_eq_true, Bool.or_eq_true, beq_iff_eq, bne_iff_ne, ne_eq, Bool.not_eq_true', Bool.not_eq_false', Decidable.not_not] at hc28
          refine wpc_skip <| ex_then <| wpc_seq <| wpc_block <| wpc_seq <| wpc_region <| wpl_q (q_pure rfl) rfl <| wpl_q (q_pure rfl) rfl <| wpl_nil <| ex_then <| wpc_seq <| wpc_region ?_
          refine wpl_q (q_pure rfl) rfl <| wpl_q (q_pure rfl) rfl <| wpl_q (q_pure rfl) rfl <| wpl_nil <| ex_then ?_
          refine wpc_cond rfl (fun hc32 => ?_) (fun hc32 => ?_)
          ·
            simp only [decide_eq_true_eq, gt_iff_lt] at hc32
            have hbc : b64C (pad3 (bs.drop (3 * g))) (min (bs.drop (3 * g)).length 3) k = 61 := if_pos zz4
            refine wpc_region ?_
            refine wpl_tp (t_callA Tryd.hb32 rfl fun w h h2 => writeByte b3 p2 v2 (b64F bs g ++ b64G (pad3 (bs.drop (3 * g))) (min (bs.drop (3 * g)).length 3) k) (61 : UInt8) w h2 hi1 hi2 (by rw [List.length_append, b64F_length, b64G_length]; omega)) rfl (fun b33 p33 => ?_)
            refine wpl_nil <| ex_block <| ex_then <| wpc_region ?_
            refine wpl_q (q_addN (b := 1) rfl rfl zz1) rfl ?_
            refine wpl_q (q_pure rfl) rfl <| wpl_nil ?_
            refine ex_again ⟨(k + 1, b33, .pointer (some ⟨b3, 0, none⟩)), ⟨zz4, by rw [b64G, ← List.append_assoc, hbc]; first | exact p33 | exact p41, Or.inr rfl⟩⟩ ?_ ?_ ?_
            · exact zz8
            · exact fun w h => by
                dsimp only
                rw [b64G, ← List.append_assoc, hbc]
                exact h.sub zz9 zz9
            · (show 4 - (k + 1) < 4 - k); omega
          ·
            simp only [decide_eq_false_iff_not, gt_iff_lt] at hc32
            have hbc : b64C (pad3 (bs.drop (3 * g))) (min (bs.drop (3 * g)).length 3) k = b64A.getD (word3 (pad3 (bs.drop (3 * g))) / 2 ^ (18 - 6 * k) &&& 63) 0 := if_neg zz4
            have ha6 := and63_lt (word3 (pad3 (bs.drop (3 * g))) / 2 ^ (18 - 6 * k))
            have hwd : word3 (pad3 (bs.drop (3 * g))) / 2 ^ (18 - 6 * k) ≤ word3 (pad3 (bs.drop (3 * g))) := Nat.div_le_self _ _
            simp only [word3] at ha6 hwd
            refine wpc_region <| wpl_q (q_pure rfl) rfl <| wpl_q (q_pure rfl) rfl ?_
            refine wpl_q (q_mulN (a := 6) rfl rfl zz1) rfl ?_
            refine wpl_q (q_subN (a := 18) rfl rfl zz4 zz1) rfl ?_
            refine wpl_q (q_shrN rfl rfl zz17) rfl ?_
            refine wpl_q (q_andN (b := 63) rfl rfl zz1 zz1) rfl ?_
            refine wpl_q (q_strIdx Tryd.underlying9 rfl rfl zz1) rfl ?_
            refine wpl_tp (t_callA Tryd.hb32 rfl fun w h h2 => writeByte b3 p2 v2 (b64F bs g ++ b64G (pad3 (bs.drop (3 * g))) (min (bs.drop (3 * g)).length 3) k) _ w h2 hi1 hi2 (by rw [List.length_append, b64F_length, b64G_length]; omega)) rfl (fun b41 p41 => ?_)
            refine wpl_nil <| ex_block <| ex_then <| wpc_region ?_
            refine wpl_q (q_addN (b := 1) rfl rfl zz1) rfl ?_
            refine wpl_q (q_pure rfl) rfl <| wpl_nil ?_
            refine ex_again ⟨(k + 1, b41, .pointer (some ⟨b3, 0, none⟩)), ⟨zz4, by rw [b64G, ← List.append_assoc, hbc]; first | exact p33 | exact p41, Or.inr rfl⟩⟩ ?_ ?_ ?_
            · exact zz8
            · exact fun w h => by
                dsimp only
                rw [b64G, ← List.append_assoc, hbc]
                exact h.sub zz9 zz9
            · (show 4 - (k + 1) < 4 - k); omega
        ·
          simp only [decide_eq_false_iff_not] at hc28
          obtain rfl : k = 4 := by omega
          refine wpc_exit ?_
          refine ex_then_exit ?_
          refine ex_then_exit ?_
          refine ex_block_hit ?_
          refine ex_then <| wpc_region <| wpl_q (q_pure rfl) rfl <| wpl_q (q_pure rfl) rfl ?_
          refine wpl_q (q_slWl Tryd.underlying22 Tryd.ti5 rfl rfl zz5 zz4) rfl ?_
          refine wpl_q (q_pure rfl) rfl <| wpl_nil <| ex_block ?_
          refine ex_again ⟨(g + 1, v2, p2, slv u (min (bs.drop (3 * g)).length 3) (bs.drop (3 * g)).length 1), ⟨zz4, by rw [b64F]; exact hi1, fun h => absurd h (Nat.succ_ne_zero _), hi2, rest3 hi4⟩⟩ ?_ ?_ ?_
          · exact zz8
          · exact fun w h => by first | exact h | exact h.sub zz9 zz9
          · (show bs.length - 3 * (g + 1) < bs.length - 3 * g); omega
    ·
      simp only [decide_eq_false_iff_not, gt_iff_lt] at hc10
      obtain rfl : g = (bs.length + 2) / 3 := by omega
      have hnil : b64F bs ((bs.length + 2) / 3) = [] → v = .slice none 0 0 := fun h => hi2 (by have h1 := congrArg List.length h; rw [hfl, List.length_nil] at h1; omega)
      refine wpc_exit ?_
      refine ex_then_exit ?_
      refine ex_then_exit ?_
      refine ex_block_hit ?_
      refine ex_then <| wpc_seq <| wpc_region ?_
      refine wpl_tp (t_callA Tryd.hb33 rfl fun w h h2 => string_ b3 p v (b64F bs ((bs.length + 2) / 3)) w h2 hi1 hnil zz4) rfl (fun b46 p46 => ?_)
      refine wpl_q (q_pure rfl) rfl <| wpl_nil <| ex_then <| wpc_ret ?_
      refine ret1 (.inl rfl) rfl rfl ?_
      exact fun w h => ⟨rfl, h.below⟩
end Go.Proofs.YtlapmdiabhlbmaaDoor
namespace Go.Proofs.YtlapmdiabhlbmaaDoor
open Go Go.PL Go.RowKit
def force {α : Type} (x : Nat) (k : Nat → α) : α := match x with
  | 0 => k 0
  | n + 1 => k (Nat.succ n)
def big (a b c : Nat) (y : Nat) : Nat := Nat.mod (Nat.xor (Nat.xor (Nat.shiftRight y a) (Nat.shiftRight y b)) (Nat.shiftRight y c)) 4294967296
def sml (a b c x : Nat) (y : Nat) : Nat := Nat.xor (Nat.mod (Nat.xor (Nat.shiftRight y a) (Nat.shiftRight y b)) 4294967296) (Nat.shiftRight x c)
def dbl (x : Nat) : Nat := Nat.mul x 4294967297
def tN (e f g h k w : Nat) : Nat := Nat.add (Nat.add (Nat.add (Nat.add h (big 6 11 25 (dbl e))) (Nat.xor (Nat.land e f) (Nat.land (Nat.sub 4294967295 e) g))) k) w
def uN (a b c : Nat) : Nat := Nat.add (big 2 13 22 (dbl a)) (Nat.xor (Nat.xor (Nat.land a b) (Nat.land a c)) (Nat.land b c))
def rnd : List Nat → List Nat → Nat → Nat → Nat → Nat → Nat → Nat → Nat → Nat → List Nat
  | k :: ks, w :: ws, a, b, c, d, e, f, g, h =>
    force (tN e f g h k w) fun t => force (Nat.mod (Nat.add t (uN a b c)) 4294967296) fun a' => force (Nat.mod (Nat.add d t) 4294967296) fun e' => rnd ks ws a' a b c e' e f g
  | _, _, a, b, c, d, e, f, g, h => [a, b, c, d, e, f, g, h]
def nw (w0 w1 w9 w14 : Nat) : Nat := Nat.mod (Nat.add (Nat.add (Nat.add (sml 17 19 10 w14 (dbl w14)) w9) (sml 7 18 3 w1 (dbl w1))) w0) 4294967296
def sch : Nat → Nat → Nat → Nat → Nat → Nat → Nat → Nat → Nat → Nat → Nat → Nat → Nat → Nat → Nat → Nat → Nat → List Nat
  | 0, _, _, _, _, _, _, _, _, _, _, _, _, _, _, _, _ => []
  | n + 1, w0, w1, w2, w3, w4, w5, w6, w7, w8, w9, w10, w11, w12, w13, w14, w15 =>
    force (nw w0 w1 w9 w14) fun w16 => w0 :: sch n w1 w2 w3 w4 w5 w6 w7 w8 w9 w10 w11 w12 w13 w14 w15 w16
def ksN : List Nat := [1116352408, 1899447441, 3049323471, 3921009573, 961987163, 1508970993, 2453635748, 2870763221, 3624381080, 310598401, 607225278, 1426881987, 1925078388, 2162078206, 2614888103, 3248222580, 3835390401, 4022224774, 264347078, 604807628, 770255983, 1249150122, 1555081692, 1996064986, 2554220882, 2821834349, 2952996808, 3210313671, 3336571891, 3584528711, 113926993, 338241895, 666307205, 773529912, 1294757372, 1396182291, 1695183700, 1986661051, 2177026350, 2456956037, 2730485921, 2820302411, 3259730800, 3345764771, 3516065817, 3600352804, 4094571909, 275423344, 430227734, 506948616, 659060556, 883997877, 958139571, 1322822218, 1537002063, 1747873779, 1955562222, 2024104815, 2227730452, 2361852424, 2428436474, 2756734187, 3204031479, 3329325298]
theorem force_eq {α : Type} (x : Nat) (k : Nat → α) : force x k = k x := by cases x <;> rfl
theorem xor_mod (a b : Nat) : (a ^^^ b) % 4294967296 = (a % 4294967296) ^^^ (b % 4294967296) := Nat.xor_mod_two_pow (n := 32)
theorem sr_nat (x : UInt32) (k : Nat) (h : k ≤ 32) : (sr32 x k).toNat = x.toNat / 2 ^ k := by
  have := x.toNat_lt
  unfold sr32
  rw [UInt32.toNat_ofNat', Nat.min_eq_left h]
  exact Nat.mod_eq_of_lt (Nat.lt_of_le_of_lt (Nat.div_le_self ..) zz4)
theorem sl_nat (x : UInt32) (k : Nat) (h : k ≤ 32) : (sl32 x k).toNat = (x.toNat * 2 ^ k) % 4294967296 := by
  unfold sl32
  rw [UInt32.toNat_ofNat', Nat.min_eq_left h]
theorem rot2 (x : UInt32) : (rotlF x (-2)).toNat = Nat.shiftRight (dbl x.toNat) 2 % 4294967296 := by
  have hx := x.toNat_lt
  have h0 := rotR_eq x 2 zz4 zz4
  have h1 : (rotlF x (-2)).toNat = (rotR x 2).toNat := congrArg UInt32.toNat h0.symm
  rw [h1]
  unfold rotR
  rw [UInt32.toNat_or, sr_nat _ _ zz4, sl_nat _ _ zz4]
  have e : Nat.shiftRight (dbl x.toNat) 2 = x.toNat * 4294967297 / 4 := Nat.shiftRight_eq_div_pow _ 2
  rw [e]
  generalize x.toNat = n at hx
  have e2 : n * 2 ^ (32 - 2) % 4294967296 = (n % 4) * 2 ^ 30 := by
    show n * 1073741824 % 4294967296 = (n % 4) * 1073741824
    omega
  have e3 : n / 2 ^ 2 ||| (n % 4) * 2 ^ 30 = (n % 4) * 2 ^ 30 + n / 2 ^ 2 := by
    rw [Nat.or_comm]; exact or_add _ _ 30 (by show n / 4 < 1073741824; omega)
  rw [e2, e3]
  show (n % 4) * 1073741824 + n / 4 = n * 4294967297 / 4 % 4294967296
  have hg : n * 4294967297 / 4 = n / 4 + n * 1073741824 := by
    rw [show n * 4294967297 = n + n * 1073741824 * 4 from zz4, Nat.add_mul_div_right _ _ zz4]
  rw [hg]
  have hd := Nat.div_add_mod n 4
  have hr : n % 4 < 4 := Nat.mod_lt _ zz4
  generalize n / 4 = q at *
  generalize n % 4 = r at *
  subst hd
  omega
theorem rot6 (x : UInt32) : (rotlF x (-6)).toNat = Nat.shiftRight (dbl x.toNat) 6 % 4294967296 := by
  have hx := x.toNat_lt
  have h0 := rotR_eq x 6 zz4 zz4
  have h1 : (rotlF x (-6)).toNat = (rotR x 6).toNat := congrArg UInt32.toNat h0.symm
  rw [h1]
  unfold rotR
  rw [UInt32.toNat_or, sr_nat _ _ zz4, sl_nat _ _ zz4]
  have e : Nat.shiftRight (dbl x.toNat) 6 = x.toNat * 4294967297 / 64 := Nat.shiftRight_eq_div_pow _ 6
  rw [e]
  generalize x.toNat = n at hx
  have e2 : n * 2 ^ (32 - 6) % 4294967296 = (n % 64) * 2 ^ 26 := by
    show n * 67108864 % 4294967296 = (n % 64) * 67108864
    omega
  have e3 : n / 2 ^ 6 ||| (n % 64) * 2 ^ 26 = (n % 64) * 2 ^ 26 + n / 2 ^ 6 := by
    rw [Nat.or_comm]; exact or_add _ _ 26 (by show n / 64 < 67108864; omega)
  rw [e2, e3]
  show (n % 64) * 67108864 + n / 64 = n * 4294967297 / 64 % 4294967296
  have hg : n * 4294967297 / 64 = n / 64 + n * 67108864 := by
    rw [show n * 4294967297 = n + n * 67108864 * 64 from zz4, Nat.add_mul_div_right _ _ zz4]
  rw [hg]
  have hd := Nat.div_add_mod n 64
  have hr : n % 64 < 64 := Nat.mod_lt _ zz4
  generalize n / 64 = q at *
  generalize n % 64 = r at *
  subst hd
  omega
theorem rot7 (x : UInt32) : (rotlF x (-7)).toNat = Nat.shiftRight (dbl x.toNat) 7 % 4294967296 := by
  have hx := x.toNat_lt
  have h0 := rotR_eq x 7 zz4 zz4
  have h1 : (rotlF x (-7)).toNat = (rotR x 7).toNat := congrArg UInt32.toNat h0.symm
  rw [h1]
  unfold rotR
  rw [UInt32.toNat_or, sr_nat _ _ zz4, sl_nat _ _ zz4]
  have e : Nat.shiftRight (dbl x.toNat) 7 = x.toNat * 4294967297 / 128 := Nat.shiftRight_eq_div_pow _ 7
  rw [e]
  generalize x.toNat = n at hx
  have e2 : n * 2 ^ (32 - 7) % 4294967296 = (n % 128) * 2 ^ 25 := by
    show n * 33554432 % 4294967296 = (n % 128) * 33554432
    omega
  have e3 : n / 2 ^ 7 ||| (n % 128) * 2 ^ 25 = (n % 128) * 2 ^ 25 + n / 2 ^ 7 := by
    rw [Nat.or_comm]; exact or_add _ _ 25 (by show n / 128 < 33554432; omega)
  rw [e2, e3]
  show (n % 128) * 33554432 + n / 128 = n * 4294967297 / 128 % 4294967296
  have hg : n * 4294967297 / 128 = n / 128 + n * 33554432 := by
    rw [show n * 4294967297 = n + n * 33554432 * 128 from zz4, Nat.add_mul_div_right _ _ zz4]
  rw [hg]
  have hd := Nat.div_add_mod n 128
  have hr : n % 128 < 128 := Nat.mod_lt _ zz4
  generalize n / 128 = q at *
  generalize n % 128 = r at *
  subst hd
  omega
theorem rot11 (x : UInt32) : (rotlF x (-11)).toNat = Nat.shiftRight (dbl x.toNat) 11 % 4294967296 := by
  have hx := x.toNat_lt
  have h0 := rotR_eq x 11 zz4 zz4
  have h1 : (rotlF x (-11)).toNat = (rotR x 11).toNat := congrArg UInt32.toNat h0.symm
  rw [h1]
  unfold rotR
  rw [UInt32.toNat_or, sr_nat _ _ zz4, sl_nat _ _ zz4]
  have e : Nat.shiftRight (dbl x.toNat) 11 = x.toNat * 4294967297 / 2048 := Nat.shiftRight_eq_div_pow _ 11
  rw [e]
  generalize x.toNat = n at hx
  have e2 : n * 2 ^ (32 - 11) % 4294967296 = (n % 2048) * 2 ^ 21 := by
    show n * 2097152 % 4294967296 = (n % 2048) * 2097152
    omega
  have e3 : n / 2 ^ 11 ||| (n % 2048) * 2 ^ 21 = (n % 2048) * 2 ^ 21 + n / 2 ^ 11 := by
    rw [Nat.or_comm]; exact or_add _ _ 21 (by show n / 2048 < 2097152; omega)
  rw [e2, e3]
  show (n % 2048) * 2097152 + n / 2048 = n * 4294967297 / 2048 % 4294967296
  have hg : n * 4294967297 / 2048 = n / 2048 + n * 2097152 := by
    rw [show n * 4294967297 = n + n * 2097152 * 2048 from zz4, Nat.add_mul_div_right _ _ zz4]
  rw [hg]
  have hd := Nat.div_add_mod n 2048
  have hr : n % 2048 < 2048 := Nat.mod_lt _ zz4
  generalize n / 2048 = q at *
  generalize n % 2048 = r at *
  subst hd
  omega
theorem rot13 (x : UInt32) : (rotlF x (-13)).toNat = Nat.shiftRight (dbl x.toNat) 13 % 4294967296 := by
  have hx := x.toNat_lt
  have h0 := rotR_eq x 13 zz4 zz4
  have h1 : (rotlF x (-13)).toNat = (rotR x 13).toNat := congrArg UInt32.toNat h0.symm
  rw [h1]
  unfold rotR
  rw [UInt32.toNat_or, sr_nat _ _ zz4, sl_nat _ _ zz4]
  have e : Nat.shiftRight (dbl x.toNat) 13 = x.toNat * 4294967297 / 8192 := Nat.shiftRight_eq_div_pow _ 13
  rw [e]
  generalize x.toNat = n at hx
  have e2 : n * 2 ^ (32 - 13) % 4294967296 = (n % 8192) * 2 ^ 19 := by
    show n * 524288 % 4294967296 = (n % 8192) * 524288
    omega
  have e3 : n / 2 ^ 13 ||| (n % 8192) * 2 ^ 19 = (n % 8192) * 2 ^ 19 + n / 2 ^ 13 := by
    rw [Nat.or_comm]; exact or_add _ _ 19 (by show n / 8192 < 524288; omega)
  rw [e2, e3]
  show (n % 8192) * 524288 + n / 8192 = n * 4294967297 / 8192 % 4294967296
  have hg : n * 4294967297 / 8192 = n / 8192 + n * 524288 := by
    rw [show n * 4294967297 = n + n * 524288 * 8192 from zz4, Nat.add_mul_div_right _ _ zz4]
  rw [hg]
  have hd := Nat.div_add_mod n 8192
  have hr : n % 8192 < 8192 := Nat.mod_lt _ zz4
  generalize n / 8192 = q at *
  generalize n % 8192 = r at *
  subst hd
  omega
theorem rot17 (x : UInt32) : (rotlF x (-17)).toNat = Nat.shiftRight (dbl x.toNat) 17 % 4294967296 := by
  have hx := x.toNat_lt
  have h0 := rotR_eq x 17 zz4 zz4
  have h1 : (rotlF x (-17)).toNat = (rotR x 17).toNat := congrArg UInt32.toNat h0.symm
  rw [h1]
  unfold rotR
  rw [UInt32.toNat_or, sr_nat _ _ zz4, sl_nat _ _ zz4]
  have e : Nat.shiftRight (dbl x.toNat) 17 = x.toNat * 4294967297 / 131072 := Nat.shiftRight_eq_div_pow _ 17
  rw [e]
  generalize x.toNat = n at hx
  have e2 : n * 2 ^ (32 - 17) % 4294967296 = (n % 131072) * 2 ^ 15 := by
    show n * 32768 % 4294967296 = (n % 131072) * 32768
    omega
  have e3 : n / 2 ^ 17 ||| (n % 131072) * 2 ^ 15 = (n % 131072) * 2 ^ 15 + n / 2 ^ 17 := by
    rw [Nat.or_comm]; exact or_add _ _ 15 (by show n / 131072 < 32768; omega)
  rw [e2, e3]
  show (n % 131072) * 32768 + n / 131072 = n * 4294967297 / 131072 % 4294967296
  have hg : n * 4294967297 / 131072 = n / 131072 + n * 32768 := by
    rw [show n * 4294967297 = n + n * 32768 * 131072 from zz4, Nat.add_mul_div_right _ _ zz4]
  rw [hg]
  have hd := Nat.div_add_mod n 131072
  have hr : n % 131072 < 131072 := Nat.mod_lt _ zz4
  generalize n / 131072 = q at *
  generalize n % 131072 = r at *
  subst hd
  omega
theorem rot18 (x : UInt32) : (rotlF x (-18)).toNat = Nat.shiftRight (dbl x.toNat) 18 % 4294967296 := by
  have hx := x.toNat_lt
  have h0 := rotR_eq x 18 zz4 zz4
  have h1 : (rotlF x (-18)).toNat = (rotR x 18).toNat := congrArg UInt32.toNat h0.symm
  rw [h1]
  unfold rotR
  rw [UInt32.toNat_or, sr_nat _ _ zz4, sl_nat _ _ zz4]
  have e : Nat.shiftRight (dbl x.toNat) 18 = x.toNat * 4294967297 / 262144 := Nat.shiftRight_eq_div_pow _ 18
  rw [e]
  generalize x.toNat = n at hx
  have e2 : n * 2 ^ (32 - 18) % 4294967296 = (n % 262144) * 2 ^ 14 := by
    show n * 16384 % 4294967296 = (n % 262144) * 16384
    omega
  have e3 : n / 2 ^ 18 ||| (n % 262144) * 2 ^ 14 = (n % 262144) * 2 ^ 14 + n / 2 ^ 18 := by
    rw [Nat.or_comm]; exact or_add _ _ 14 (by show n / 262144 < 16384; omega)
  rw [e2, e3]
  show (n % 262144) * 16384 + n / 262144 = n * 4294967297 / 262144 % 4294967296
  have hg : n * 4294967297 / 262144 = n / 262144 + n * 16384 := by
    rw [show n * 4294967297 = n + n * 16384 * 262144 from zz4, Nat.add_mul_div_right _ _ zz4]
  rw [hg]
  have hd := Nat.div_add_mod n 262144
  have hr : n % 262144 < 262144 := Nat.mod_lt _ zz4
  generalize n / 262144 = q at *
  generalize n % 262144 = r at *
  subst hd
  omega
theorem rot19 (x : UInt32) : (rotlF x (-19)).toNat = Nat.shiftRight (dbl x.toNat) 19 % 4294967296 := by
  have hx := x.toNat_lt
  have h0 := rotR_eq x 19 zz4 zz4
  have h1 : (rotlF x (-19)).toNat = (rotR x 19).toNat := congrArg UInt32.toNat h0.symm
  rw [h1]
  unfold rotR
  rw [UInt32.toNat_or, sr_nat _ _ zz4, sl_nat _ _ zz4]
  have e : Nat.shiftRight (dbl x.toNat) 19 = x.toNat * 4294967297 / 524288 := Nat.shiftRight_eq_div_pow _ 19
  rw [e]
  generalize x.toNat = n at hx
  have e2 : n * 2 ^ (32 - 19) % 4294967296 = (n % 524288) * 2 ^ 13 := by
    show n * 8192 % 4294967296 = (n % 524288) * 8192
    omega
  have e3 : n / 2 ^ 19 ||| (n % 524288) * 2 ^ 13 = (n % 524288) * 2 ^ 13 + n / 2 ^ 19 := by
    rw [Nat.or_comm]; exact or_add _ _ 13 (by show n / 524288 < 8192; omega)
  rw [e2, e3]
  show (n % 524288) * 8192 + n / 524288 = n * 4294967297 / 524288 % 4294967296
  have hg : n * 4294967297 / 524288 = n / 524288 + n * 8192 := by
    rw [show n * 4294967297 = n + n * 8192 * 524288 from zz4, Nat.add_mul_div_right _ _ zz4]
  rw [hg]
  have hd := Nat.div_add_mod n 524288
  have hr : n % 524288 < 524288 := Nat.mod_lt _ zz4
  generalize n / 524288 = q at *
  generalize n % 524288 = r at *
  subst hd
  omega
theorem rot22 (x : UInt32) : (rotlF x (-22)).toNat = Nat.shiftRight (dbl x.toNat) 22 % 4294967296 := by
  have hx := x.toNat_lt
  have h0 := rotR_eq x 22 zz4 zz4
  have h1 : (rotlF x (-22)).toNat = (rotR x 22).toNat := congrArg UInt32.toNat h0.symm
  rw [h1]
  unfold rotR
  rw [UInt32.toNat_or, sr_nat _ _ zz4, sl_nat _ _ zz4]
  have e : Nat.shiftRight (dbl x.toNat) 22 = x.toNat * 4294967297 / 4194304 := Nat.shiftRight_eq_div_pow _ 22
  rw [e]
  generalize x.toNat = n at hx
  have e2 : n * 2 ^ (32 - 22) % 4294967296 = (n % 4194304) * 2 ^ 10 := by
    show n * 1024 % 4294967296 = (n % 4194304) * 1024
    omega
  have e3 : n / 2 ^ 22 ||| (n % 4194304) * 2 ^ 10 = (n % 4194304) * 2 ^ 10 + n / 2 ^ 22 := by
    rw [Nat.or_comm]; exact or_add _ _ 10 (by show n / 4194304 < 1024; omega)
  rw [e2, e3]
  show (n % 4194304) * 1024 + n / 4194304 = n * 4294967297 / 4194304 % 4294967296
  have hg : n * 4294967297 / 4194304 = n / 4194304 + n * 1024 := by
    rw [show n * 4294967297 = n + n * 1024 * 4194304 from zz4, Nat.add_mul_div_right _ _ zz4]
  rw [hg]
  have hd := Nat.div_add_mod n 4194304
  have hr : n % 4194304 < 4194304 := Nat.mod_lt _ zz4
  generalize n / 4194304 = q at *
  generalize n % 4194304 = r at *
  subst hd
  omega
theorem rot25 (x : UInt32) : (rotlF x (-25)).toNat = Nat.shiftRight (dbl x.toNat) 25 % 4294967296 := by
  have hx := x.toNat_lt
  have h0 := rotR_eq x 25 zz4 zz4
  have h1 : (rotlF x (-25)).toNat = (rotR x 25).toNat := congrArg UInt32.toNat h0.symm
  rw [h1]
  unfold rotR
  rw [UInt32.toNat_or, sr_nat _ _ zz4, sl_nat _ _ zz4]
  have e : Nat.shiftRight (dbl x.toNat) 25 = x.toNat * 4294967297 / 33554432 := Nat.shiftRight_eq_div_pow _ 25
  rw [e]
  generalize x.toNat = n at hx
  have e2 : n * 2 ^ (32 - 25) % 4294967296 = (n % 33554432) * 2 ^ 7 := by
    show n * 128 % 4294967296 = (n % 33554432) * 128
    omega
  have e3 : n / 2 ^ 25 ||| (n % 33554432) * 2 ^ 7 = (n % 33554432) * 2 ^ 7 + n / 2 ^ 25 := by
    rw [Nat.or_comm]; exact or_add _ _ 7 (by show n / 33554432 < 128; omega)
  rw [e2, e3]
  show (n % 33554432) * 128 + n / 33554432 = n * 4294967297 / 33554432 % 4294967296
  have hg : n * 4294967297 / 33554432 = n / 33554432 + n * 128 := by
    rw [show n * 4294967297 = n + n * 128 * 33554432 from zz4, Nat.add_mul_div_right _ _ zz4]
  rw [hg]
  have hd := Nat.div_add_mod n 33554432
  have hr : n % 33554432 < 33554432 := Nat.mod_lt _ zz4
  generalize n / 33554432 = q at *
  generalize n % 33554432 = r at *
  subst hd
  omega
theorem bigS1 (x : UInt32) : (rotlF x (-6) ^^^ rotlF x (-11) ^^^ rotlF x (-25)).toNat = big 6 11 25 (dbl x.toNat) := by
  rw [UInt32.toNat_xor, UInt32.toNat_xor, rot6, rot11, rot25, ← xor_mod, ← xor_mod]; rfl
theorem bigS0 (x : UInt32) : (rotlF x (-2) ^^^ rotlF x (-13) ^^^ rotlF x (-22)).toNat = big 2 13 22 (dbl x.toNat) := by
  rw [UInt32.toNat_xor, UInt32.toNat_xor, rot2, rot13, rot22, ← xor_mod, ← xor_mod]; rfl
theorem smls1 (x : UInt32) : (rotlF x (-17) ^^^ rotlF x (-19) ^^^ sr32 x 10).toNat = sml 17 19 10 x.toNat (dbl x.toNat) := by
  have e : Nat.shiftRight x.toNat 10 = x.toNat / 2 ^ 10 := Nat.shiftRight_eq_div_pow _ 10
  rw [UInt32.toNat_xor, UInt32.toNat_xor, rot17, rot19, sr_nat _ _ zz4, ← xor_mod, ← e]; rfl
theorem smls0 (x : UInt32) : (rotlF x (-7) ^^^ rotlF x (-18) ^^^ sr32 x 3).toNat = sml 7 18 3 x.toNat (dbl x.toNat) := by
  have e : Nat.shiftRight x.toNat 3 = x.toNat / 2 ^ 3 := Nat.shiftRight_eq_div_pow _ 3
  rw [UInt32.toNat_xor, UInt32.toNat_xor, rot7, rot18, sr_nat _ _ zz4, ← xor_mod, ← e]; rfl
theorem not_nat (x : UInt32) : (~~~x).toNat = 4294967295 - x.toNat := by simp [UInt32.toNat_not]
theorem nw_eq (x0 x1 x9 x14 : UInt32) : ((rotlF x14 (-17) ^^^ rotlF x14 (-19) ^^^ sr32 x14 10) + x9 + (rotlF x1 (-7) ^^^ rotlF x1 (-18) ^^^ sr32 x1 3) + x0).toNat = nw x0.toNat x1.toNat x9.toNat x14.toNat := by
  rw [UInt32.toNat_add, UInt32.toNat_add, UInt32.toNat_add, smls1, smls0]
  show _ = (((sml 17 19 10 x14.toNat (dbl x14.toNat)) + x9.toNat) + (sml 7 18 3 x1.toNat (dbl x1.toNat)) + x0.toNat) % 4294967296
  omega
def wN (bs : List UInt8) (i : Nat) : Nat := ((wsF bs (i + 1)).getD i 0).toNat
theorem ws_get (bs : List UInt8) (n i : Nat) (h : i < n) : (wsF bs n).getD i 0 = (wsF bs (i + 1)).getD i 0 := by
  induction n with
  | zero => omega
  | succ n ih =>
    by_cases e : i = n
    · rw [e]
    · have hi : i < n := by omega
      rw [← ih hi]
      simp only [wsF, List.getD_eq_getElem?_getD]
      rw [List.getElem?_append_left (by rw [wsF_length]; exact hi)]
theorem ws_last (bs : List UInt8) (i : Nat) : (wsF bs (i + 1)).getD i 0 = if i < 16 then wordF bs i else mixF (wsF bs i) i := by
  simp only [wsF, List.getD_eq_getElem?_getD]
  rw [List.getElem?_append_right (by rw [wsF_length]; exact Nat.le_refl _), wsF_length, Nat.sub_self]; rfl
theorem wN_low (bs : List UInt8) (i : Nat) (h : i < 16) : wN bs i = (wordF bs i).toNat := by rw [wN, ws_last, if_pos h]
theorem wN_rec (bs : List UInt8) (i : Nat) : wN bs (i + 16) = nw (wN bs i) (wN bs (i + 1)) (wN bs (i + 9)) (wN bs (i + 14)) := by
  rw [wN, ws_last, if_neg zz4]
  unfold mixF
  rw [show i + 16 - 2 = i + 14 from zz4, show i + 16 - 7 = i + 9 from zz4, show i + 16 - 15 = i + 1 from zz4, show i + 16 - 16 = i from zz4]
  rw [nw_eq, ws_get bs (i + 16) i zz4, ws_get bs (i + 16) (i + 1) zz4, ws_get bs (i + 16) (i + 9) zz4, ws_get bs (i + 16) (i + 14) zz4]; rfl
theorem sch_eq (bs : List UInt8) : ∀ n i, sch n (wN bs i) (wN bs (i + 1)) (wN bs (i + 2)) (wN bs (i + 3)) (wN bs (i + 4)) (wN bs (i + 5)) (wN bs (i + 6)) (wN bs (i + 7)) (wN bs (i + 8)) (wN bs (i + 9)) (wN bs (i + 10)) (wN bs (i + 11)) (wN bs (i + 12)) (wN bs (i + 13)) (wN bs (i + 14)) (wN bs (i + 15)) = (List.range n).map fun j => wN bs (i + j)
  | 0, i => by simp [sch]
  | n + 1, i => by
    unfold sch
    rw [force_eq, ← wN_rec]
    have := sch_eq bs n (i + 1)
    rw [show i + 1 + 1 = i + 2 from zz4, show i + 1 + 2 = i + 3 from zz4, show i + 1 + 3 = i + 4 from zz4, show i + 1 + 4 = i + 5 from zz4, show i + 1 + 5 = i + 6 from zz4, show i + 1 + 6 = i + 7 from zz4, show i + 1 + 7 = i + 8 from zz4, show i + 1 + 8 = i + 9 from zz4, show i + 1 + 9 = i + 10 from zz4, show i + 1 + 10 = i + 11 from zz4, show i + 1 + 11 = i + 12 from zz4, show i + 1 + 12 = i + 13 from zz4, show i + 1 + 13 = i + 14 from zz4, show i + 1 + 14 = i + 15 from zz4, show i + 1 + 15 = i + 16 from zz4] at this
    rw [this, List.range_succ_eq_map, List.map_cons, List.map_map]
    congr 1
    apply List.map_congr_left
    intro j _
    show wN bs (i + 1 + j) = wN bs (i + (j + 1))
    congr 1; omega
def l8 (r : List UInt32) : List Nat := [(r.getD 0 0).toNat, (r.getD 1 0).toNat, (r.getD 2 0).toNat, (r.getD 3 0).toNat, (r.getD 4 0).toNat, (r.getD 5 0).toNat, (r.getD 6 0).toNat, (r.getD 7 0).toNat]
theorem t_eq (k w : UInt32) (r : List UInt32) : ∃ q, tN (r.getD 4 0).toNat (r.getD 5 0).toNat (r.getD 6 0).toNat (r.getD 7 0).toNat k.toNat w.toNat = (tF k w r).toNat + 4294967296 * q := by
  have e : tN (r.getD 4 0).toNat (r.getD 5 0).toNat (r.getD 6 0).toNat (r.getD 7 0).toNat k.toNat w.toNat =
      (r.getD 7 0).toNat + (rotlF (r.getD 4 0) (-6) ^^^ rotlF (r.getD 4 0) (-11) ^^^ rotlF (r.getD 4 0) (-25)).toNat + ((r.getD 4 0 &&& r.getD 5 0) ^^^ (~~~ r.getD 4 0 &&& r.getD 6 0)).toNat + k.toNat + w.toNat := by
    rw [bigS1, UInt32.toNat_xor, UInt32.toNat_and, UInt32.toNat_and, not_nat]; rfl
  rw [e]
  unfold tF
  rw [UInt32.toNat_add, UInt32.toNat_add, UInt32.toNat_add, UInt32.toNat_add]
  generalize (r.getD 7 0).toNat = a, (rotlF (r.getD 4 0) (-6) ^^^ rotlF (r.getD 4 0) (-11) ^^^ rotlF (r.getD 4 0) (-25)).toNat = b, ((r.getD 4 0 &&& r.getD 5 0) ^^^ (~~~ r.getD 4 0 &&& r.getD 6 0)).toNat = c, k.toNat = d, w.toNat = f
  exact ⟨(a + b + c + d + f) / 4294967296, zz4⟩
theorem u_eq (r : List UInt32) : ∃ q, uN (r.getD 0 0).toNat (r.getD 1 0).toNat (r.getD 2 0).toNat = (uF r).toNat + 4294967296 * q := by
  have e : uN (r.getD 0 0).toNat (r.getD 1 0).toNat (r.getD 2 0).toNat = (rotlF (r.getD 0 0) (-2) ^^^ rotlF (r.getD 0 0) (-13) ^^^ rotlF (r.getD 0 0) (-22)).toNat + ((r.getD 0 0 &&& r.getD 1 0) ^^^ (r.getD 0 0 &&& r.getD 2 0) ^^^ (r.getD 1 0 &&& r.getD 2 0)).toNat := by
    rw [bigS0, UInt32.toNat_xor, UInt32.toNat_xor, UInt32.toNat_and, UInt32.toNat_and, UInt32.toNat_and]; rfl
  rw [e]
  unfold uF
  rw [UInt32.toNat_add]
  generalize (rotlF (r.getD 0 0) (-2) ^^^ rotlF (r.getD 0 0) (-13) ^^^ rotlF (r.getD 0 0) (-22)).toNat = a, ((r.getD 0 0 &&& r.getD 1 0) ^^^ (r.getD 0 0 &&& r.getD 2 0) ^^^ (r.getD 1 0 &&& r.getD 2 0)).toNat = b
  exact ⟨(a + b) / 4294967296, zz4⟩
theorem rnd_one (k w : UInt32) (r : List UInt32) (ks ws : List Nat) : rnd (k.toNat :: ks) (w.toNat :: ws) (r.getD 0 0).toNat (r.getD 1 0).toNat (r.getD 2 0).toNat (r.getD 3 0).toNat (r.getD 4 0).toNat (r.getD 5 0).toNat (r.getD 6 0).toNat (r.getD 7 0).toNat =
    rnd ks ws ((roundF k w r).getD 0 0).toNat ((roundF k w r).getD 1 0).toNat ((roundF k w r).getD 2 0).toNat ((roundF k w r).getD 3 0).toNat ((roundF k w r).getD 4 0).toNat ((roundF k w r).getD 5 0).toNat ((roundF k w r).getD 6 0).toNat ((roundF k w r).getD 7 0).toNat := by
  obtain ⟨q, hq⟩ := t_eq k w r
  obtain ⟨p, hp⟩ := u_eq r
  have e1 : Nat.mod (Nat.add (tN (r.getD 4 0).toNat (r.getD 5 0).toNat (r.getD 6 0).toNat (r.getD 7 0).toNat k.toNat w.toNat) (uN (r.getD 0 0).toNat (r.getD 1 0).toNat (r.getD 2 0).toNat)) 4294967296 = (tF k w r + uF r).toNat := by
    rw [hq, hp, UInt32.toNat_add]
    show ((tF k w r).toNat + 4294967296 * q + ((uF r).toNat + 4294967296 * p)) % 4294967296 = _
    omega
  have e2 : Nat.mod (Nat.add (r.getD 3 0).toNat (tN (r.getD 4 0).toNat (r.getD 5 0).toNat (r.getD 6 0).toNat (r.getD 7 0).toNat k.toNat w.toNat)) 4294967296 = (r.getD 3 0 + tF k w r).toNat := by
    rw [hq, UInt32.toNat_add]
    show ((r.getD 3 0).toNat + ((tF k w r).toNat + 4294967296 * q)) % 4294967296 = _
    omega
  rw [rnd, force_eq, force_eq, force_eq, e1, e2]; rfl
theorem ksN_eq : ksN = rootsL.map (·.toNat) := by decide +kernel
theorem rnd_all (ws st : List UInt32) (T : Nat) (hT : rootsL.length = T) (hw : ws.length = T) : ∀ m i, i + m = T → rnd ((rootsL.map (·.toNat)).drop i) ((ws.map (·.toNat)).drop i) ((roundsF ws st i).getD 0 0).toNat ((roundsF ws st i).getD 1 0).toNat ((roundsF ws st i).getD 2 0).toNat ((roundsF ws st i).getD 3 0).toNat ((roundsF ws st i).getD 4 0).toNat ((roundsF ws st i).getD 5 0).toNat ((roundsF ws st i).getD 6 0).toNat ((roundsF ws st i).getD 7 0).toNat = l8 (roundsF ws st T)
  | 0, i, h => by
    obtain rfl : i = T := by omega
    rw [List.drop_of_length_le (by rw [List.length_map]; exact Nat.le_of_eq hT), List.drop_of_length_le (by rw [List.length_map, hw]; exact Nat.le_refl _)]
    simp [rnd, l8]
  | m + 1, i, h => by
    have e1 : (rootsL.map (·.toNat)).drop i = (rootsL.getD i 0).toNat :: (rootsL.map (·.toNat)).drop (i + 1) := by
      rw [List.drop_eq_getElem_cons (by rw [List.length_map]; omega), List.getElem_map, List.getD_eq_getElem?_getD, List.getElem?_eq_getElem zz4]; rfl
    have e2 : (ws.map (·.toNat)).drop i = (ws.getD i 0).toNat :: (ws.map (·.toNat)).drop (i + 1) := by
      rw [List.drop_eq_getElem_cons (by rw [List.length_map]; omega), List.getElem_map, List.getD_eq_getElem?_getD, List.getElem?_eq_getElem zz4]; rfl
    rw [e1, e2, rnd_one]
    exact rnd_all ws st T hT hw m (i + 1) zz4
def compN (s0 s1 s2 s3 s4 s5 s6 s7 : Nat) (ws : List Nat) : List Nat := match rnd ksN ws s0 s1 s2 s3 s4 s5 s6 s7 with
  | [a, b, c, d, e, f, g, h] => [Nat.mod (Nat.add s0 a) 4294967296, Nat.mod (Nat.add s1 b) 4294967296, Nat.mod (Nat.add s2 c) 4294967296, Nat.mod (Nat.add s3 d) 4294967296, Nat.mod (Nat.add s4 e) 4294967296, Nat.mod (Nat.add s5 f) 4294967296, Nat.mod (Nat.add s6 g) 4294967296, Nat.mod (Nat.add s7 h) 4294967296]
  | _ => []
theorem wsF_nat (bs : List UInt8) (n : Nat) : (wsF bs n).map (·.toNat) = (List.range n).map fun j => wN bs (0 + j) := by
  apply List.ext_getElem?
  intro j
  rw [List.getElem?_map, List.getElem?_map]
  by_cases h : j < n
  · rw [List.getElem?_eq_getElem (by rw [wsF_length]; exact h), List.getElem?_eq_getElem (by rw [List.length_range]; exact h)]
    simp only [Option.map_some, List.getElem_range, Nat.zero_add]
    have := ws_get bs n j h
    rw [List.getD_eq_getElem?_getD, List.getElem?_eq_getElem (by rw [wsF_length]; exact h)] at this
    rw [wN, ← this]; rfl
  · rw [List.getElem?_eq_none (by rw [wsF_length]; omega), List.getElem?_eq_none (by rw [List.length_range]; omega)]; rfl
theorem ws_sch (bs : List UInt8) (n : Nat) : (wsF bs n).map (·.toNat) = sch n (wordF bs 0).toNat (wordF bs 1).toNat (wordF bs 2).toNat (wordF bs 3).toNat (wordF bs 4).toNat (wordF bs 5).toNat (wordF bs 6).toNat (wordF bs 7).toNat (wordF bs 8).toNat (wordF bs 9).toNat (wordF bs 10).toNat (wordF bs 11).toNat (wordF bs 12).toNat (wordF bs 13).toNat (wordF bs 14).toNat (wordF bs 15).toNat := by
  rw [wsF_nat, ← sch_eq bs n 0]
  simp only [Nat.zero_add]
  rw [wN_low bs 0 zz4, wN_low bs 1 zz4, wN_low bs 2 zz4, wN_low bs 3 zz4, wN_low bs 4 zz4, wN_low bs 5 zz4, wN_low bs 6 zz4, wN_low bs 7 zz4, wN_low bs 8 zz4, wN_low bs 9 zz4, wN_low bs 10 zz4, wN_low bs 11 zz4, wN_low bs 12 zz4, wN_low bs 13 zz4, wN_low bs 14 zz4, wN_low bs 15 zz4]
theorem sum_get (st r : List UInt32) (h : st.length = 8) : sumN st r 8 = [st.getD 0 0 + r.getD 0 0, st.getD 1 0 + r.getD 1 0, st.getD 2 0 + r.getD 2 0, st.getD 3 0 + r.getD 3 0, st.getD 4 0 + r.getD 4 0, st.getD 5 0 + r.getD 5 0, st.getD 6 0 + r.getD 6 0, st.getD 7 0 + r.getD 7 0] := by
  match st, h with
  | [a, b, c, d, e, f, g, i], _ => simp [sumN]
theorem add_nat0 (st ws : List UInt32) (T : Nat) (hT : rootsL.length = T) (hw : ws.length = T) (h : st.length = 8) : l8 (sumN st (roundsF ws st T) 8) = compN (st.getD 0 0).toNat (st.getD 1 0).toNat (st.getD 2 0).toNat (st.getD 3 0).toNat (st.getD 4 0).toNat (st.getD 5 0).toNat (st.getD 6 0).toNat (st.getD 7 0).toNat (ws.map (·.toNat)) := by
  have hr := rnd_all ws st T hT hw T 0 (Nat.zero_add T)
  simp only [List.drop_zero] at hr
  rw [roundsF] at hr
  unfold compN
  rw [ksN_eq]
  generalize roundsF ws st T = r at hr ⊢
  rw [hr, sum_get st _ h]
  simp only [l8, List.getD_cons_zero, List.getD_cons_succ, UInt32.toNat_add]
  rfl
theorem add_nat (st : List UInt32) (bs : List UInt8) (h : st.length = 8) : l8 (addF st bs) = compN (st.getD 0 0).toNat (st.getD 1 0).toNat (st.getD 2 0).toNat (st.getD 3 0).toNat (st.getD 4 0).toNat (st.getD 5 0).toNat (st.getD 6 0).toNat (st.getD 7 0).toNat ((wsF bs 64).map (·.toNat)) :=
  add_nat0 st (wsF bs 64) 64 rootsL_length (wsF_length bs 64) h
end Go.Proofs.YtlapmdiabhlbmaaDoor
namespace Go.Proofs.YtlapmdiabhlbmaaDoor
open Go Go.PL Go.RowKit
def byteW (w k : Nat) : UInt8 := UInt8.ofNat (w / 2 ^ k)
def bytesW : List Nat → List UInt8
  | [] => []
  | w :: r => byteW w 24 :: byteW w 16 :: byteW w 8 :: byteW w 0 :: bytesW r
theorem bytesW_length (a : List Nat) : (bytesW a).length = 4 * a.length := by
  induction a with
  | nil => rfl
  | cons w r ih => simp only [bytesW, List.length_cons, ih]; omega
theorem bytesW_get (a : List Nat) : ∀ i, i < a.length → (bytesW a).getD (4 * i) 0 = byteW (a.getD i 0) 24 ∧ (bytesW a).getD (4 * i + 1) 0 = byteW (a.getD i 0) 16 ∧ (bytesW a).getD (4 * i + 2) 0 = byteW (a.getD i 0) 8 ∧ (bytesW a).getD (4 * i + 3) 0 = byteW (a.getD i 0) 0 := by
  induction a with
  | nil => intro i hi; simp at hi
  | cons w r ih =>
    intro i hi
    cases i with
    | zero => exact ⟨rfl, rfl, rfl, rfl⟩
    | succ i =>
      have := ih i (by simpa using hi)
      rw [show 4 * (i + 1) = 4 * i + 1 + 1 + 1 + 1 from zz4, show 4 * i + 1 + 1 + 1 + 1 + 1 = (4 * i + 1) + 1 + 1 + 1 + 1 from zz4, show 4 * i + 1 + 1 + 1 + 1 + 2 = (4 * i + 2) + 1 + 1 + 1 + 1 from zz4, show 4 * i + 1 + 1 + 1 + 1 + 3 = (4 * i + 3) + 1 + 1 + 1 + 1 from zz4]
      exact this
theorem byteW_nat (w k : Nat) : (byteW w k).toNat = w / 2 ^ k % 256 := by unfold byteW; rw [UInt8.toNat_ofNat']
theorem bytesW_drop (a : List Nat) (i : Nat) : (bytesW a).drop (4 * i) = bytesW (a.drop i) := by
  induction i generalizing a with
  | zero => rfl
  | succ i ih =>
    cases a with
    | nil => simp [bytesW]
    | cons w r =>
      rw [show 4 * (i + 1) = 4 * i + 1 + 1 + 1 + 1 from zz4]
      simp only [bytesW, List.drop_succ_cons]
      exact ih r
theorem bytesW_take (a : List Nat) (i : Nat) : (bytesW a).take (4 * i) = bytesW (a.take i) := by
  induction i generalizing a with
  | zero => rfl
  | succ i ih =>
    cases a with
    | nil => simp [bytesW]
    | cons w r =>
      rw [show 4 * (i + 1) = 4 * i + 1 + 1 + 1 + 1 from zz4]
      simp only [bytesW, List.take_succ_cons, ih]
theorem word_W (a : List Nat) (i : Nat) (h : i < a.length) (hw : a.getD i 0 < 4294967296) : (wordF (bytesW a) i).toNat = a.getD i 0 := by
  obtain ⟨h0, h1, h2, h3⟩ := bytesW_get a i h
  rw [← word4_eq]
  have e : ∀ x : UInt8, (of32 (x.toNat : Int)).toNat = x.toNat := fun x => by
    have := x.toNat_lt
    have h := of32_toNat (x.toNat : Int)
    omega
  simp only [word4, UInt32.toNat_add, UInt32.toNat_mul, e, Nat.add_zero]
  simp only [h0, h1, h2, h3, byteW_nat]
  have z : (0 : UInt32).toNat = 0 := rfl
  have z2 : (256 : UInt32).toNat = 256 := rfl
  rw [z, z2]
  generalize a.getD i 0 = w at hw
  show (((((((0 * 256 % 4294967296 + w / 16777216 % 256) % 4294967296) * 256 % 4294967296 + w / 65536 % 256) % 4294967296) * 256 % 4294967296 + w / 256 % 256) % 4294967296) * 256 % 4294967296 + w / 1 % 256) % 4294967296 = w
  omega
def blkN (W : List Nat) (s : List Nat) : List Nat := match s with
  | [s0, s1, s2, s3, s4, s5, s6, s7] => compN s0 s1 s2 s3 s4 s5 s6 s7 (sch 64 (W.getD 0 0) (W.getD 1 0) (W.getD 2 0) (W.getD 3 0) (W.getD 4 0) (W.getD 5 0) (W.getD 6 0) (W.getD 7 0) (W.getD 8 0) (W.getD 9 0) (W.getD 10 0) (W.getD 11 0) (W.getD 12 0) (W.getD 13 0) (W.getD 14 0) (W.getD 15 0))
  | _ => []
def hashN : Nat → List Nat → List Nat → List Nat
  | 0, _, s => s
  | n + 1, W, s => hashN n (W.drop 16) (blkN W s)
def iniN : List Nat := [1779033703, 3144134277, 1013904242, 2773480762, 1359893119, 2600822924, 528734635, 1541459225]
theorem blk_eq (st : List UInt32) (W : List Nat) (h : st.length = 8) (hW : 16 ≤ W.length) (hw : ∀ x ∈ W, x < 4294967296) : l8 (addF st (bytesW (W.take 16))) = blkN W (l8 st) := by
  have g : ∀ i, i < 16 → (wordF (bytesW (W.take 16)) i).toNat = W.getD i 0 := fun i hi => by
    have hl : (W.take 16).length = 16 := by rw [List.length_take]; omega
    have e : (W.take 16).getD i 0 = W.getD i 0 := by
      simp only [List.getD_eq_getElem?_getD]; rw [List.getElem?_take, if_pos hi]
    rw [word_W _ _ zz4, e]
    rw [e, List.getD_eq_getElem?_getD, List.getElem?_eq_getElem zz4]
    exact hw _ (List.getElem_mem _)
  rw [add_nat _ _ h, ws_sch, g 0 zz4, g 1 zz4, g 2 zz4, g 3 zz4, g 4 zz4, g 5 zz4, g 6 zz4, g 7 zz4, g 8 zz4, g 9 zz4, g 10 zz4, g 11 zz4, g 12 zz4, g 13 zz4, g 14 zz4, g 15 zz4]
  rfl
theorem hash_eq : ∀ (n : Nat) (W : List Nat) (st : List UInt32), st.length = 8 → W.length = 16 * n → (∀ x ∈ W, x < 4294967296) → l8 ((chunksF (bytesW W)).foldl addF st) = hashN n W (l8 st)
  | 0, W, st, h, hW, hw => by
    obtain rfl : W = [] := List.eq_nil_of_length_eq_zero zz4
    rfl
  | n + 1, W, st, h, hW, hw => by
    have hc : chunksF (bytesW W) = bytesW (W.take 16) :: chunksF (bytesW (W.drop 16)) := by
      unfold chunksF
      have l1 := bytesW_length W
      have l2 := bytesW_length (W.drop 16)
      rw [List.length_drop] at l2
      rw [show (bytesW W).length / 64 = (bytesW (W.drop 16)).length / 64 + 1 from zz4, List.range_succ_eq_map, List.map_cons, List.map_map]
      congr 1
      · exact bytesW_take W 16
      · apply List.map_congr_left
        intro i _
        show ((bytesW W).drop (64 * (i + 1))).take 64 = ((bytesW (W.drop 16)).drop (64 * i)).take 64
        rw [← bytesW_drop W 16, List.drop_drop]
        congr 2; omega
    rw [hc, List.foldl_cons, hash_eq n (W.drop 16) _ ((addF_length _ _).trans h) zz18 (fun x hx => hw x (List.mem_of_mem_drop hx)), hashN]
    congr 1
    exact blk_eq st W h zz4 hw
theorem outN_list (st : List UInt32) : ∀ i, i ≤ 32 → outN st i = ((List.range i).map fun j => of8 (sr32 (st.getD (j / 4) 0) (24 - 8 * (j % 4))).toNat) ++ List.replicate (32 - i) 0
  | 0, _ => by simp [outN]
  | i + 1, h => by
    rw [outN, outN_list st i zz4, List.range_succ, List.map_append]
    have e : List.replicate (32 - i) (0 : UInt8) = 0 :: List.replicate (32 - (i + 1)) 0 := by
      rw [show 32 - i = (32 - (i + 1)) + 1 from zz4, List.replicate_succ]
    rw [e, List.set_append_right i _ (by simp), List.length_map, List.length_range, Nat.sub_self, List.set_cons_zero, List.append_assoc]
    rfl
theorem of8_W (x : UInt32) (k : Nat) (hk : k ≤ 32) : of8 ((sr32 x k).toNat : Int) = byteW x.toNat k := by
  apply UInt8.toNat_inj.1
  have h := of8_toNat ((sr32 x k).toNat : Int)
  rw [byteW_nat, ← sr_nat x k hk]; omega
theorem out_W (st : List UInt32) : outN st 32 = bytesW (l8 st) := by
  rw [outN_list st 32 (Nat.le_refl _), Nat.sub_self, List.replicate_zero, List.append_nil]
  show [of8 (sr32 (st.getD 0 0) 24).toNat, of8 (sr32 (st.getD 0 0) 16).toNat, of8 (sr32 (st.getD 0 0) 8).toNat, of8 (sr32 (st.getD 0 0) 0).toNat,
    of8 (sr32 (st.getD 1 0) 24).toNat, of8 (sr32 (st.getD 1 0) 16).toNat, of8 (sr32 (st.getD 1 0) 8).toNat, of8 (sr32 (st.getD 1 0) 0).toNat,
    of8 (sr32 (st.getD 2 0) 24).toNat, of8 (sr32 (st.getD 2 0) 16).toNat, of8 (sr32 (st.getD 2 0) 8).toNat, of8 (sr32 (st.getD 2 0) 0).toNat,
    of8 (sr32 (st.getD 3 0) 24).toNat, of8 (sr32 (st.getD 3 0) 16).toNat, of8 (sr32 (st.getD 3 0) 8).toNat, of8 (sr32 (st.getD 3 0) 0).toNat,
    of8 (sr32 (st.getD 4 0) 24).toNat, of8 (sr32 (st.getD 4 0) 16).toNat, of8 (sr32 (st.getD 4 0) 8).toNat, of8 (sr32 (st.getD 4 0) 0).toNat,
    of8 (sr32 (st.getD 5 0) 24).toNat, of8 (sr32 (st.getD 5 0) 16).toNat, of8 (sr32 (st.getD 5 0) 8).toNat, of8 (sr32 (st.getD 5 0) 0).toNat,
    of8 (sr32 (st.getD 6 0) 24).toNat, of8 (sr32 (st.getD 6 0) 16).toNat, of8 (sr32 (st.getD 6 0) 8).toNat, of8 (sr32 (st.getD 6 0) 0).toNat,
    of8 (sr32 (st.getD 7 0) 24).toNat, of8 (sr32 (st.getD 7 0) 16).toNat, of8 (sr32 (st.getD 7 0) 8).toNat, of8 (sr32 (st.getD 7 0) 0).toNat] = _
  simp only [of8_W _ 24 zz4, of8_W _ 16 zz4, of8_W _ 8 zz4, of8_W _ 0 zz4]
  rfl
theorem sum_W (bs : List UInt8) (n : Nat) (W : List Nat) (hp : padF bs = bytesW W) (hl : W.length = 16 * n) (hw : ∀ x ∈ W, x < 4294967296) : sumF bs = bytesW (hashN n W iniN) := by
  unfold sumF
  rw [out_W, hp]
  congr 1
  exact hash_eq n W initS rfl hl hw
end Go.Proofs.YtlapmdiabhlbmaaDoor
namespace Go.Proofs.YtlapmdiabhlbmaaDoor
open Go Go.PL Go.RowKit
theorem nil_pad : padF [] = bytesW [2147483648, 0, 0, 0, 0, 0, 0, 0, 0, 0, 0, 0, 0, 0, 0, 0] := by decide +kernel
theorem nil_sum : sumF [] = bytesW [3820012610, 2566659092, 2600203464, 2574235940, 665731556, 1687917388, 2761267483, 2018687061] := (sum_W _ 1 _ nil_pad zz15 zz15).trans (congrArg bytesW (by decide +kernel))
theorem abc_pad : padF [97, 98, 99] = bytesW [1633837952, 0, 0, 0, 0, 0, 0, 0, 0, 0, 0, 0, 0, 0, 0, 24] := by decide +kernel
theorem abc_sum : sumF [97, 98, 99] = bytesW [3128432319, 2399260650, 1094795486, 1571693091, 2953011619, 2518121116, 3021012833, 4060091821] := (sum_W _ 1 _ abc_pad zz15 zz15).trans (congrArg bytesW (by decide +kernel))
theorem nil_hex : (hexF (sumF []) 32).take 16 = [101, 51, 98, 48, 99, 52, 52, 50, 57, 56, 102, 99, 49, 99, 49, 52] := by rw [nil_sum]; decide +kernel
theorem abc_hex : (hexF (sumF [97, 98, 99]) 32).take 16 = [98, 97, 55, 56, 49, 54, 98, 102, 56, 102, 48, 49, 99, 102, 101, 97] := by rw [abc_sum]; decide +kernel
theorem ex_hex : hexF [0, 255, 16] 3 = [48, 48, 102, 102, 49, 48] := by decide +kernel
theorem ex_b64 : base64F [0, 255, 16] = [65, 80, 56, 81] := by decide +kernel
theorem lawHex (xs : List UInt8) (w : World) (hxs : xs.length = 32)  :
    Calls Tryd.prog 26 [.agg (v8s xs).toArray].toArray w (Pur w (str (hexF xs 32))) := by
  refine enter (m := 5) (R := Mem w [] [] []) Tryd.func26 rfl rfl (Nat.le_of_ble_eq_true rfl) (Mem.start w) ?_
  refine wpc_seq <| wpc_region ?_
  refine wpl_t (t_box rfl (v8s xs) rfl) rfl (fun b1 => ?_)
  refine wpl_q (q_pure rfl) rfl <| wpl_nil <| ex_then <| wpc_seq <| wpc_region <| wpl_q (q_arAll Tryd.underlying26 Tryd.ti5 rfl rfl) rfl ?_
  refine wpl_t (t_pur (v := str (hexF xs 32)) Tryd.hb18 rfl fun w h => by have hh := hexW (arv b1 32) xs w (Seen.re8 (m := 32) (by exact h.seenA (by first | decide | (simp only [maxLen]; omega)) zz0)) zz4; rw [hxs] at hh; exact hh) rfl (fun b4 => ?_)
  refine wpl_q (q_pure rfl) rfl <| wpl_nil <| ex_then <| wpc_ret ?_
  refine ret1 (.inl rfl) rfl rfl ?_
  exact fun w h => ⟨rfl, h.below⟩
end Go.Proofs.YtlapmdiabhlbmaaDoor
namespace Go.Proofs.YtlapmdiabhlbmaaDoor
open Go Go.PL Go.RowKit
theorem alive  (w : World)  (hG : Glb w) :
    Calls Tryd.prog 17 [].toArray w (Pur w (.bool true)) := by
  have hn1 : (hexF (sumF []) 32).length = 64 := hexF_length _ 32
  have hn2 : (hexF (sumF [97, 98, 99]) 32).length = 64 := hexF_length _ 32
  refine enter (m := 37) (R := Mem w [] [] []) Tryd.func17 rfl rfl (Nat.le_of_ble_eq_true rfl) (Mem.start w) ?_
  refine wpc_seq <| wpc_region <| wpl_q (q_pure rfl) rfl <| wpl_nil <| ex_then <| wpc_seq <| wpc_region ?_
  refine wpl_t (t_pur Tryd.hb11 rfl fun w h => sumW (.slice none 0 0) [] w (seen_nil _ _) (glob h hG)) rfl (fun b3 => ?_)
  refine wpl_t (t_pur Tryd.hb26 rfl fun w h => lawHex _ w zz21) rfl (fun b4 => ?_)
  refine wpl_tp (t_bsV (v8s [97, 98, 99]) Tryd.underlying22 Tryd.ti5 rfl rfl zz15 zz15 rfl (v8s_one _)) rfl (fun b5 p5 => ?_)
  refine wpl_t (t_cvLit Tryd.underlying22 Tryd.underlying5 rfl zz11 zz15) rfl (fun b6 => ?_)
  refine wpl_t (t_pur Tryd.hb11 rfl fun w h => sumW _ [97, 98, 99] w zz2 (glob h hG)) rfl (fun b7 => ?_)
  refine wpl_t (t_pur Tryd.hb26 rfl fun w h => lawHex _ w zz21) rfl (fun b8 => ?_)
  refine wpl_q (q_pure rfl) rfl <| wpl_q (q_pure rfl) rfl <| wpl_nil <| ex_then <| wpc_seq <| wpc_region <| wpl_q (q_pure rfl) rfl <| wpl_q (q_lenS Tryd.underlying9 rfl) rfl ?_
  refine wpl_q (q_tru (q_eqI rfl rfl) (by rw [hexF_length]; rfl)) rfl ?_
  refine wpl_q (q_pure rfl) rfl <| wpl_on rfl rfl <| wpl_q (q_pure rfl) rfl <| wpl_on rfl rfl ?_
  refine wpl_q (q_strHi Tryd.underlying9 rfl rfl zz1) rfl ?_
  refine wpl_on rfl rfl ?_
  refine wpl_q (q_tru (q_strEq Tryd.underlying9 rfl rfl zz3) nil_hex) rfl ?_
  refine wpl_q (q_pure rfl) rfl <| wpl_q (q_pure rfl) rfl <| wpl_on rfl rfl <| wpl_q (q_pure rfl) rfl <| wpl_on rfl rfl <| wpl_q (q_lenS Tryd.underlying9 rfl) rfl <| wpl_on rfl rfl ?_
  refine wpl_q (q_tru (q_eqI rfl rfl) (by rw [hexF_length]; rfl)) rfl ?_
  refine wpl_q (q_pure rfl) rfl <| wpl_q (q_pure rfl) rfl <| wpl_on rfl rfl <| wpl_q (q_pure rfl) rfl <| wpl_on rfl rfl ?_
  refine wpl_q (q_strHi Tryd.underlying9 rfl rfl zz1) rfl ?_
  refine wpl_on rfl rfl ?_
  refine wpl_q (q_tru (q_strEq Tryd.underlying9 rfl rfl zz3) abc_hex) rfl ?_
  refine wpl_q (q_pure rfl) rfl <| wpl_q (q_pure rfl) rfl <| wpl_on rfl rfl ?_
  refine wpl_tp (t_bsV (v8s [0, 255, 16]) Tryd.underlying22 Tryd.ti5 rfl rfl zz15 zz15 rfl (v8s_one _)) rfl (fun b28 p28 => ?_)
  refine wpl_on rfl rfl ?_
  refine wpl_t (t_pur Tryd.hb18 rfl fun w h => hexW _ _ w zz2 zz1) rfl (fun b29 => ?_)
  refine wpl_on rfl rfl ?_
  refine wpl_q (q_tru (q_strEq Tryd.underlying9 rfl rfl zz3) ex_hex) rfl ?_
  refine wpl_q (q_pure rfl) rfl <| wpl_q (q_pure rfl) rfl <| wpl_on rfl rfl ?_
  refine wpl_tp (t_bsV (v8s [0, 255, 16]) Tryd.underlying22 Tryd.ti5 rfl rfl zz15 zz15 rfl (v8s_one _)) rfl (fun b33 p33 => ?_)
  refine wpl_on rfl rfl ?_
  refine wpl_t (t_pur Tryd.hb19 rfl fun w h => base64 _ _ w zz2 zz1) rfl (fun b34 => ?_)
  refine wpl_on rfl rfl ?_
  refine wpl_q (q_tru (q_strEq Tryd.underlying9 rfl rfl zz3) ex_b64) rfl ?_
  refine wpl_q (q_pure rfl) rfl <| wpl_q (q_pure rfl) rfl <| wpl_nil <| ex_then <| wpc_ret ?_
  refine ret1 (.inl rfl) rfl rfl ?_
  exact fun w h => ⟨rfl, h.below⟩
end Go.Proofs.YtlapmdiabhlbmaaDoor
namespace Go.Proofs.YtlapmdiabhlbmaaDoor
open Go Go.PL Go.RowKit
theorem mem_getD {l : List UInt8} {i : Nat} (h : i < l.length) : l.getD i 0 ∈ l := by
  rw [List.getD_eq_getElem?_getD, List.getElem?_eq_getElem h]; exact List.getElem_mem h
end Go.Proofs.YtlapmdiabhlbmaaDoor
namespace Go.Proofs.YtlapmdiabhlbmaaDoor
open Go Go.PL
open Go.Shelf
def Tryd.lays162_ren : Go.Shelf.Ren := ⟨fun | 162 => 36 | 232 => 45 | 227 => 46 | 234 => 47 | 236 => 48 | 228 => 55 | 271 => 56 | 151 => 57 | 120 => 61 | 197 => 62 | 152 => 63 | 260 => 65 | 137 => 34 | 119 => 66 | 224 => 67 | 225 => 68 | 217 => 44 | 266 => 54 | n => n, fun | 9 => 9 | 4 => 4 | 3 => 3 | 5 => 5 | 117 => 85 | 116 => 84 | 0 => 0 | 124 => 88 | 21 => 21 | 105 => 97 | 46 => 52 | 119 => 105 | 139 => 108 | 138 => 107 | n => n, fun | 3 => 3 | 4 => 4 | n => n⟩
theorem Tryd.lays162 : Go.Proofs.Lays.n162 Tryd.prog Tryd.lays162_ren := {
  mixed := by kernel_rfl
  f119 := Tryd.func66.trans (congrArg some zz3)
  f120 := Tryd.func61.trans (congrArg some zz3)
  f137 := Tryd.func34.trans (congrArg some zz3)
  f151 := Tryd.func57.trans (congrArg some zz3)
  f152 := Tryd.func63.trans (congrArg some zz3)
  f162 := Tryd.func36.trans (congrArg some zz3)
  f197 := Tryd.func62.trans (congrArg some zz3)
  f217 := Tryd.func44.trans (congrArg some zz3)
  f224 := Tryd.func67.trans (congrArg some zz3)
  f225 := Tryd.func68.trans (congrArg some zz3)
  f227 := Tryd.func46.trans (congrArg some zz3)
  f228 := Tryd.func55.trans (congrArg some zz3)
  f232 := Tryd.func45.trans (congrArg some zz3)
  f234 := Tryd.func47.trans (congrArg some zz3)
  f236 := Tryd.func48.trans (congrArg some zz3)
  f260 := Tryd.func65.trans (congrArg some zz3)
  f266 := Tryd.func54.trans (congrArg some zz3)
  f271 := Tryd.func56.trans (congrArg some zz3)
  t0 := Tryd.underlying0
  a0 := Tryd.isAgg0
  z0 := Tryd.sizeOf0
  v0 := Tryd.zeroValue0
  t3 := Tryd.underlying3
  a3 := Tryd.isAgg3
  z3 := Tryd.sizeOf3
  v3 := Tryd.zeroValue3
  t4 := Tryd.underlying4
  a4 := Tryd.isAgg4
  z4 := Tryd.sizeOf4
  v4 := Tryd.zeroValue4
  t5 := Tryd.underlying5
  a5 := Tryd.isAgg5
  z5 := Tryd.sizeOf5
  v5 := Tryd.zeroValue5
  t9 := Tryd.underlying9
  a9 := Tryd.isAgg9
  z9 := Tryd.sizeOf9
  v9 := Tryd.zeroValue9
  t21 := Tryd.underlying21
  a21 := Tryd.isAgg21
  z21 := Tryd.sizeOf21
  v21 := Tryd.zeroValue21
  t46 := Tryd.underlying52
  a46 := Tryd.isAgg52
  z46 := Tryd.sizeOf52
  v46 := Tryd.zeroValue52
  t105 := Tryd.underlying97
  a105 := Tryd.isAgg97
  z105 := Tryd.sizeOf97
  v105 := Tryd.zeroValue97
  t116 := Tryd.underlying84
  a116 := Tryd.isAgg84
  z116 := Tryd.sizeOf84
  t117 := Tryd.underlying85
  a117 := Tryd.isAgg85
  z117 := Tryd.sizeOf85
  v117 := Tryd.zeroValue85
  t119 := Tryd.underlying105
  a119 := Tryd.isAgg105
  z119 := Tryd.sizeOf105
  t124 := Tryd.underlying88
  a124 := Tryd.isAgg88
  z124 := Tryd.sizeOf88
  v124 := Tryd.zeroValue88
  t138 := Tryd.underlying107
  a138 := Tryd.isAgg107
  z138 := Tryd.sizeOf107
  v138 := Tryd.zeroValue107
  t139 := Tryd.underlying108
  a139 := Tryd.isAgg108
  z139 := Tryd.sizeOf108
  v139 := Tryd.zeroValue108
  g3 := by kernel_rfl
  g4 := by kernel_rfl }
open Go.RowKit in
theorem Tryd.strings_TrimRight_one (s : ByteArray) (c : UInt8) (hc : c.toNat < 128) (w : World) (hs : s.size ≤ 9223372036854775807) :
    Calls Tryd.prog 36 #[.string s, .string ⟨#[c]⟩] w fun e w' => e = .returned (.string ⟨(Lib.trimRightB s.data.toList c).toArray⟩) ∧ w' = w := Any.strings_TrimRight_one Tryd.lays162 s c hc w hs
def Tryd.lays137_ren : Go.Shelf.Ren := ⟨fun | 137 => 34 | 217 => 44 | 266 => 54 | n => n, fun | 9 => 9 | 5 => 5 | 3 => 3 | n => n, fun | n => n⟩
theorem Tryd.lays137 : Go.Proofs.Lays.n137 Tryd.prog Tryd.lays137_ren := {
  mixed := by kernel_rfl
  f137 := Tryd.func34.trans (congrArg some zz3)
  f217 := Tryd.func44.trans (congrArg some zz3)
  f266 := Tryd.func54.trans (congrArg some zz3)
  t3 := Tryd.underlying3
  a3 := Tryd.isAgg3
  z3 := Tryd.sizeOf3
  v3 := Tryd.zeroValue3
  t5 := Tryd.underlying5
  a5 := Tryd.isAgg5
  z5 := Tryd.sizeOf5
  v5 := Tryd.zeroValue5
  t9 := Tryd.underlying9
  a9 := Tryd.isAgg9
  z9 := Tryd.sizeOf9
  v9 := Tryd.zeroValue9 }
open Go.RowKit in
theorem Tryd.strings_IndexByte (s : ByteArray) (c : Int) (w : World) :
    Calls Tryd.prog 34 #[.string s, .int .u8 c] w fun e w' => e = .returned (.int .i64 (Lib.indexByte s.data.toList c.toNat.toUInt8)) ∧ w' = w := Any.strings_IndexByte Tryd.lays137 s c w
def Tryd.laysM179_ren : Go.Shelf.Ren := ⟨fun | 179 => 37 | 251 => 49 | 252 => 50 | 181 => 58 | 184 => 59 | 290 => 60 | 324 => 64 | n => n, fun | 130 => 89 | 5 => 5 | 75 => 63 | 0 => 0 | 93 => 71 | 91 => 69 | 3 => 3 | 131 => 90 | 4 => 4 | 37 => 22 | 20 => 20 | 80 => 65 | 9 => 9 | n => n, fun | 14 => 1 | n => n⟩
theorem Tryd.laysM179 : Go.Proofs.LaysM.n179 Tryd.prog Tryd.laysM179_ren := {
  mixed := by kernel_rfl
  f179 := Tryd.func37.trans (congrArg some zz3)
  f181 := Tryd.func58.trans (congrArg some zz3)
  f184 := Tryd.func59.trans (congrArg some zz3)
  f251 := Tryd.func49.trans (congrArg some zz3)
  f252 := Tryd.func50.trans (congrArg some zz3)
  f290 := Tryd.func60.trans (congrArg some zz3)
  f324 := Tryd.func64.trans (congrArg some zz3)
  t0 := Tryd.underlying0
  a0 := Tryd.isAgg0
  z0 := Tryd.sizeOf0
  v0 := Tryd.zeroValue0
  t3 := Tryd.underlying3
  a3 := Tryd.isAgg3
  z3 := Tryd.sizeOf3
  v3 := Tryd.zeroValue3
  t4 := Tryd.underlying4
  a4 := Tryd.isAgg4
  z4 := Tryd.sizeOf4
  v4 := Tryd.zeroValue4
  t5 := Tryd.underlying5
  a5 := Tryd.isAgg5
  z5 := Tryd.sizeOf5
  v5 := Tryd.zeroValue5
  t20 := Tryd.underlying20
  a20 := Tryd.isAgg20
  z20 := Tryd.sizeOf20
  v20 := Tryd.zeroValue20
  t37 := Tryd.underlying22
  a37 := Tryd.isAgg22
  z37 := Tryd.sizeOf22
  v37 := Tryd.zeroValue22
  t75 := Tryd.underlying63
  a75 := Tryd.isAgg63
  z75 := Tryd.sizeOf63
  v75 := Tryd.zeroValue63
  t91 := Tryd.underlying69
  a91 := Tryd.isAgg69
  z91 := Tryd.sizeOf69
  v91 := Tryd.zeroValue69
  t93 := Tryd.underlying71
  a93 := Tryd.isAgg71
  z93 := Tryd.sizeOf71
  v93 := Tryd.zeroValue71
  t130 := Tryd.underlying89
  a130 := Tryd.isAgg89
  z130 := Tryd.sizeOf89
  v130 := Tryd.zeroValue89
  t131 := Tryd.underlying90
  a131 := Tryd.isAgg90
  z131 := Tryd.sizeOf90
  v131 := Tryd.zeroValue90
  g14 := by kernel_rfl
  t9 := Tryd.underlying9
  a9 := Tryd.isAgg9
  z9 := Tryd.sizeOf9
  v9 := Tryd.zeroValue9
  t80 := Tryd.underlying65
  a80 := Tryd.isAgg65
  z80 := Tryd.sizeOf65
  v80 := Tryd.zeroValue65
  i0 := by kernel_rfl
  i3 := by kernel_rfl
  i4 := by kernel_rfl
  i5 := by kernel_rfl
  i9 := by kernel_rfl
  i20 := by kernel_rfl
  i37 := by kernel_rfl
  i75 := by kernel_rfl
  i80 := by kernel_rfl
  i91 := by kernel_rfl
  i93 := by kernel_rfl
  i130 := by kernel_rfl
  i131 := by kernel_rfl
  m14 := by kernel_rfl }
open Go.RowKit in
theorem Tryd.Buffer_WriteByte (B b : Nat) (bs : List Value) (c : Int) (w : World) (h : Lib.IsBuffer 71 5 B b bs w) (hBw : B ≤ w.heap.size) (h1 : ∀ v ∈ bs, v.oneCell' = true) (hlim : bs.length + 1 ≤ 140737488355328) :
    Calls Tryd.prog 37 #[.pointer (some ⟨b, 0, none⟩), .int .u8 c] w fun e w' => e = .returned .nilIface ∧ Lib.IsBuffer 71 5 B b (bs ++ [.int .u8 c]) w' ∧ Below B w w' := Any.Buffer_WriteByte Tryd.laysM179 B b bs c w h hBw h1 hlim
def Tryd.laysM183_ren : Go.Shelf.Ren := ⟨fun | 183 => 38 | n => n, fun | 130 => 89 | 37 => 22 | 0 => 0 | 93 => 71 | 3 => 3 | 5 => 5 | 91 => 69 | n => n, fun | n => n⟩
theorem Tryd.laysM183 : Go.Proofs.LaysM.n183 Tryd.prog Tryd.laysM183_ren := {
  mixed := by kernel_rfl
  f183 := Tryd.func38.trans (congrArg some zz3)
  t0 := Tryd.underlying0
  a0 := Tryd.isAgg0
  z0 := Tryd.sizeOf0
  v0 := Tryd.zeroValue0
  t3 := Tryd.underlying3
  a3 := Tryd.isAgg3
  z3 := Tryd.sizeOf3
  v3 := Tryd.zeroValue3
  t37 := Tryd.underlying22
  a37 := Tryd.isAgg22
  z37 := Tryd.sizeOf22
  v37 := Tryd.zeroValue22
  t93 := Tryd.underlying71
  a93 := Tryd.isAgg71
  z93 := Tryd.sizeOf71
  v93 := Tryd.zeroValue71
  t130 := Tryd.underlying89
  a130 := Tryd.isAgg89
  z130 := Tryd.sizeOf89
  v130 := Tryd.zeroValue89
  t5 := Tryd.underlying5
  a5 := Tryd.isAgg5
  z5 := Tryd.sizeOf5
  v5 := Tryd.zeroValue5
  t91 := Tryd.underlying69
  a91 := Tryd.isAgg69
  z91 := Tryd.sizeOf69
  v91 := Tryd.zeroValue69
  i0 := by kernel_rfl
  i3 := by kernel_rfl
  i5 := by kernel_rfl
  i37 := by kernel_rfl
  i91 := by kernel_rfl
  i93 := by kernel_rfl
  i130 := by kernel_rfl }
open Go.RowKit in
theorem Tryd.Buffer_Bytes (B b : Nat) (bs : List Value) (w : World) (h : Lib.IsBuffer 71 5 B b bs w) :
    Calls Tryd.prog 38 #[.pointer (some ⟨b, 0, none⟩)] w fun e w' => ∃ v, e = .returned v ∧ w'.ownsRow B 5 1 v bs.length bs ∧ ∃ n, w' = w.drewN n := Any.Buffer_Bytes Tryd.laysM183 B b bs w h
end Go.Proofs.YtlapmdiabhlbmaaDoor
namespace Go.Proofs.YtlapmdiabhlbmaaDoor
open Go Go.PL Go.RowKit
def plB (l : List UInt8) (c : UInt8) : Int := if c ∈ l then ((l.idxOf c : Nat) : Int) else -1
theorem indexByte_plB (l : List UInt8) (c : UInt8) : Go.Lib.indexByte l c = plB l c := by
  induction l with
  | nil => rfl
  | cons b l ih =>
    unfold Go.Lib.indexByte
    rw [ih]
    by_cases hb : b = c
    · subst hb
      simp [plB]
    · have hb2 : (b == c) = false := by simpa using hb
      have hc : c ∈ b :: l ↔ c ∈ l := by simp [List.mem_cons, Ne.symm hb]
      unfold plB
      rw [hb2, List.idxOf_cons, hb2]
      by_cases hm : c ∈ l
      · rw [if_pos hm, if_pos (hc.2 hm)]
        simp
      · rw [if_neg hm, if_neg (fun h => hm (hc.1 h))]; rfl
theorem plB_in {l : List UInt8} {c : UInt8} (h : c ∈ l) : plB l c = ((l.idxOf c : Nat) : Int) := if_pos h
theorem plB_neg {l : List UInt8} {c : UInt8} : plB l c < 0 ↔ c ∉ l := by
  unfold plB; split
  · rename_i h; simp [h]
  · rename_i h; simp [h]
theorem getD_idx {l : List UInt8} {c : UInt8} (h : c ∈ l) : l.idxOf c < l.length ∧ l.getD (l.idxOf c) 0 = c := by
  have h1 := List.idxOf_lt_length_iff.2 h
  refine ⟨h1, ?_⟩
  rw [List.getD_eq_getElem?_getD, List.getElem?_eq_getElem h1]
  exact List.getElem_idxOf h1
def hexV (a b : UInt8) : UInt8 := UInt8.ofNat (16 * hexD.idxOf a + hexD.idxOf b)
def hxOk (xs : List UInt8) : Prop := xs.length % 2 = 0 ∧ ∀ c ∈ xs, c ∈ hexD
instance (xs : List UInt8) : Decidable (hxOk xs) := by unfold hxOk; exact inferInstance
def hxO (xs : List UInt8) : Nat → List UInt8
  | 0 => []
  | k + 1 => hxO xs k ++ [hexV (xs.getD (2 * k) 0) (xs.getD (2 * k + 1) 0)]
theorem hxO_len (xs : List UInt8) : ∀ k, (hxO xs k).length = k
  | 0 => rfl
  | k + 1 => by rw [hxO, List.length_append, hxO_len xs k]; rfl
def fhV (xs : List UInt8) : List UInt8 := if hxOk xs then hxO xs (xs.length / 2) else []
def fhE (xs : List UInt8) : Int := if hxOk xs then 0 else 12
theorem mem_hexD {c : UInt8} (h : c ∈ hexD) : hexD.idxOf c < 16 ∧ hexD.getD (hexD.idxOf c) 0 = c := getD_idx h
theorem hexV_nat {a b : UInt8} (ha : a ∈ hexD) (hb : b ∈ hexD) : (hexV a b).toNat = 16 * hexD.idxOf a + hexD.idxOf b := by
  have h1 := (mem_hexD ha).1
  have h2 := (mem_hexD hb).1
  unfold hexV
  rw [UInt8.toNat_ofNat']; omega
def wd (b : List UInt8) (g : Nat) : Nat := (b.getD (3 * g) 0).toNat * 65536 + (b.getD (3 * g + 1) 0).toNat * 256 + (b.getD (3 * g + 2) 0).toNat
theorem b64A_mem {c : UInt8} (h : c ∈ b64A) : b64A.idxOf c < 64 ∧ b64A.getD (b64A.idxOf c) 0 = c := getD_idx h
def sx (b : List UInt8) (i : Nat) : Nat := wd b (i / 4) / 2 ^ (18 - 6 * (i % 4)) % 64
def xv (p : List UInt8) : Nat → Nat
  | 0 => 0
  | i + 1 => (xv p i * 64) % 16777216 + b64A.idxOf (p.getD i 0)
def outB (p : List UInt8) : Nat → List UInt8
  | 0 => []
  | i + 1 => if 0 < i % 4 then outB p i ++ [UInt8.ofNat (xv p (i + 1) / 2 ^ (6 * (i % 4 + 1) % 8))] else outB p i
def plainS (s : List UInt8) : List UInt8 := Go.Lib.trimRightB s 61
def fbOk (s : List UInt8) : Prop := s.length % 4 = 0 ∧ (∀ c ∈ plainS s, c ∈ b64A) ∧ base64F (outB (plainS s) (plainS s).length) = s
instance (s : List UInt8) : Decidable (fbOk s) := by unfold fbOk; exact inferInstance
def fbV (s : List UInt8) : List UInt8 := if fbOk s then outB (plainS s) (plainS s).length else []
def fbE (s : List UInt8) : Int := if fbOk s then 0 else 12
section
variable {b p : List UInt8} {L : Nat} (hL : L ≤ p.length) (hc : ∀ i, i < L → b64A.idxOf (p.getD i 0) = sx b i)
include hc
end
end Go.Proofs.YtlapmdiabhlbmaaDoor
namespace Go.Proofs.YtlapmdiabhlbmaaDoor
open Go Go.PL Go.RowKit
section
variable {P : Program} {n : Cx} {L : Slots} {Q : Exit → Act → World → Prop} {w0 : World} {Ln : List Nat} {M : List Ent} {S : List Fact}
theorem t_callB {k : FuncId} {args : Array Operand} {at_ : Array TypeId} {vs : List Value} {ι : Type} {p : ι → Prop} {V : ι → Value} {Z : ι → List Ent} {T : ι → List Fact} (hb : HasBody P k) (hv : evs L args.toList = some vs)
    (hc : ∀ w, Mem w0 Ln M S w → Calls P k vs.toArray w (fun e w' => ∃ x, p x ∧ e = .returned (V x) ∧ Mem w0 Ln (Z x) (T x) w')) :
    TOpP P Q n (Mem w0 Ln M S) L (.call { callee := .value (.func k), args := args, argTypes := at_ }) ι p V (fun x => Mem w0 Ln (Z x) (T x)) := by
  have h : TOp P Q n (Mem w0 Ln M S) L (.call { callee := .value (.func k), args := args, argTypes := at_ }) { x : ι // p x } (fun x => V x.1) (fun x => Mem w0 Ln (Z x.1) (T x.1)) := by
    intro d ty pos af g a w K hs hm0 hk
    have hargs : args.map a.eval = vs.toArray := by
      have e : (args.map a.eval).toList = vs := by rw [Array.toList_map]; exact evs_eval hs hv
      rw [← e]
    have hrun : (execOp a.eval ⟨d, .call { callee := .value (.func k), args := args, argTypes := at_ }, ty, pos, af, g⟩).run P w = .ok (.enter k vs.toArray) w := by
      have hf : ev L (.func k) = some (.func (.func k) #[] #[]) := rfl
      simp only [execOp, resolve, hs.eval hf, hargs]
      simp [Deferred.ofValue, invoke, run_callFunc hb]
    unfold Oper.wp
    rw [hrun]
    refine (hc w hm0).mono ?_
    rintro e w' ⟨x, hp, rfl, h⟩
    exact hk ⟨x, hp⟩ w' h
  exact h.rep fun x w h => ⟨x.1, x.2, rfl, h⟩
end
theorem sv_own {w : World} {v : Value} {n : Nat} {e : TypeId} {xs : List Value} (h : w.ownsRow 0 e 1 v n xs) : SV v n := by
  rcases h.2 with ⟨rfl, rfl⟩ | ⟨g, cap, cur, rfl, _, _, h1, h2, _⟩
  · exact SV.nil
  · exact ⟨_, _, rfl, h1, h2, fun h => by cases h⟩
theorem indexB (l : List UInt8) (c : UInt8) (w : World) : Calls Tryd.prog 34 [str l, .int .u8 c.toNat].toArray w (Pur w (.int .i64 (plB l c))) := by
  refine (Tryd.strings_IndexByte ⟨l.toArray⟩ (c.toNat : Int) w).mono ?_
  rintro e w' ⟨h1, h2⟩
  subst h2
  refine ⟨?_, Below.refl _ _⟩
  rw [h1, indexByte_plB]
  have : ((c.toNat : Int)).toNat.toUInt8 = c := by rw [Int.toNat_natCast]; exact UInt8.ofNat_toNat
  rw [this]
theorem trimR (l : List UInt8) (w : World) (h : l.length ≤ maxLen) : Calls Tryd.prog 36 [str l, str [61]].toArray w (Pur w (str (plainS l))) := by
  refine (Tryd.strings_TrimRight_one ⟨l.toArray⟩ 61 zz15 w (by unfold maxLen at h; show l.toArray.size ≤ _; simpa using h)).mono ?_
  rintro e w' ⟨h1, h2⟩
  subst h2
  exact ⟨h1, Below.refl _ _⟩
abbrev bufE (b : Nat) (v : Value) (lr : Int) (xs : List UInt8) (n : Nat) : List Ent := [.blk b 71 [v, .int .i64 0, .int .i8 lr], .row v n 5 1 (v8s xs)]
theorem buf_is {w0 w : World} {b n : Nat} {v : Value} {lr : Int} {xs : List UInt8} (hn : xs.length = n) (h : Mem w0 [] (bufE b v lr xs n) [] w) : Lib.IsBuffer 71 5 w0.heap.size b (v8s xs) w := by
  subst hn
  have h1 := h.new (.blk b 71 [v, .int .i64 0, .int .i8 lr]) (List.mem_cons_self ..) b rfl
  have h2 := h.own (.row v xs.length 5 1 (v8s xs)) (List.mem_cons_of_mem _ (List.mem_cons_self ..))
  have h3 := h.new (.row v xs.length 5 1 (v8s xs)) (List.mem_cons_of_mem _ (List.mem_cons_self ..))
  have h4 := (List.pairwise_cons.1 h.apart).1 (.row v xs.length 5 1 (v8s xs)) (List.mem_cons_self ..) b rfl
  refine ⟨h1.elim id (fun h => by cases h), v, lr, h.own (.blk b 71 [v, .int .i64 0, .int .i8 lr]) (List.mem_cons_self ..), ?_, h4⟩
  rw [v8s_length]
  obtain ⟨g1, g2⟩ := h2
  refine ⟨g1, ?_⟩
  rcases g2 with g2 | ⟨g, cap, cur, rfl, _, r⟩
  · exact .inl g2
  · exact .inr ⟨g, cap, cur, rfl, (h3 g rfl).elim id (fun h => by cases h), r⟩
theorem buf_mem {w0 w w' : World} {M : List Ent} {b : Nat} {xs : List UInt8} (hm : Mem w0 [] M [] w) (hb : Below w0.heap.size w w') (h : Lib.IsBuffer 71 5 w0.heap.size b (v8s xs) w') : ∃ x : Value × Int, SV x.1 xs.length ∧ Mem w0 [] (bufE b x.1 x.2 xs xs.length) [] w' := by
  obtain ⟨h1, v, lr, h2, h3, h4⟩ := h
  rw [v8s_length] at h3
  have h0 : w'.ownsRow 0 5 1 v xs.length (v8s xs) := by
    obtain ⟨g1, g2⟩ := h3
    refine ⟨g1, ?_⟩
    rcases g2 with g2 | ⟨g, cap, cur, rfl, _, r⟩
    · exact .inl g2
    · exact .inr ⟨g, cap, cur, rfl, Nat.zero_le _, r⟩
  refine ⟨(v, lr), ?_, ⟨hb.os.trans hm.os, hb.tape.trans hm.tape, hb.output.trans hm.output, Nat.le_trans hm.size hb.size, fun k hk _ => (hb.block k hk).trans (hm.old k hk (by simp)), ?_, ?_, ?_, fun s hs => by cases hs⟩⟩
  · exact sv_own h0
  · intro e he
    rcases List.mem_cons.1 he with rfl | he
    · exact h2
    · rw [List.mem_singleton] at he; subst he; exact h0
  · intro e he k hk
    rcases List.mem_cons.1 he with rfl | he
    · injection hk with hk; subst hk; exact .inl h1
    · rw [List.mem_singleton] at he; subst he
      exact .inl (World.ownsRow.lt h3 k hk).1
  · refine List.pairwise_cons.2 ⟨fun f hf k hk => ?_, List.pairwise_singleton _ _⟩
    rw [List.mem_singleton] at hf; subst hf
    injection hk with hk; subst hk
    exact h4
theorem bufWrite {w0 : World} (b n : Nat) (v : Value) (lr : Int) (xs : List UInt8) (c : UInt8) (w : World) (hn : xs.length = n) (h : Mem w0 [] (bufE b v lr xs n) [] w) (hl : n ≤ 1000000) : Calls Tryd.prog 37 [.pointer (some ⟨b, 0, none⟩), .int .u8 c.toNat].toArray w (fun e w' => ∃ x : Value × Int, SV x.1 (n + 1) ∧ e = .returned .nilIface ∧ Mem w0 [] (bufE b x.1 x.2 (xs ++ [c]) (n + 1)) [] w') := by
  refine (Tryd.Buffer_WriteByte w0.heap.size b (v8s xs) (c.toNat : Int) w (buf_is hn h) h.size (v8s_one _) (by rw [v8s_length]; omega)).mono ?_
  rintro e w' ⟨h1, h2, h3⟩
  have e1 : v8s xs ++ [.int .u8 (c.toNat : Int)] = v8s (xs ++ [c]) := by rw [v8s_append]; rfl
  rw [e1] at h2
  obtain ⟨x, hx, hm⟩ := buf_mem h h3 h2
  have hl2 : (xs ++ [c]).length = n + 1 := by rw [List.length_append, hn]; rfl
  rw [hl2] at hx hm
  exact ⟨x, hx, h1, hm⟩
theorem bufBytes {w0 : World} (b n : Nat) (v : Value) (lr : Int) (xs : List UInt8) (w : World) (hn : xs.length = n) (h : Mem w0 [] (bufE b v lr xs n) [] w) : Calls Tryd.prog 38 [.pointer (some ⟨b, 0, none⟩)].toArray w (fun e w' => ∃ x : Value, SV x n ∧ e = .returned x ∧ Mem w0 [] [.row x n 5 1 (v8s xs)] [] w') := by
  refine (Tryd.Buffer_Bytes w0.heap.size b (v8s xs) w (buf_is hn h)).mono ?_
  rintro e w' ⟨x, h1, h2, m, h3⟩
  subst hn h3
  rw [v8s_length] at h2
  have h0 : (w.drewN m).ownsRow 0 5 1 x xs.length (v8s xs) := by
    obtain ⟨g1, g2⟩ := h2
    refine ⟨g1, ?_⟩
    rcases g2 with g2 | ⟨g, cap, cur, rfl, _, r⟩
    · exact .inl g2
    · exact .inr ⟨g, cap, cur, rfl, Nat.zero_le _, r⟩
  refine ⟨x, sv_own h0, h1, ⟨h.os, h.tape, h.output, h.size, h.old, ?_, ?_, List.pairwise_singleton _ _, fun s hs => by cases hs⟩⟩
  · intro e he; rw [List.mem_singleton] at he; subst he; exact h0
  · intro e he k hk; rw [List.mem_singleton] at he; subst he
    exact .inl (World.ownsRow.lt h2 k hk).1
end Go.Proofs.YtlapmdiabhlbmaaDoor
