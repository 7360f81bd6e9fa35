/- What the statement reaches, in order. -/
import Derived.Test.YtgnablliekgbgaaMXPLL
import Derived.Test.YtgnablliekgbgaaMXTI
import Derived.Lib.BufferRead
import Derived.Lib.ConvBytes
import Derived.Laws.IdiomStrings
import Derived.Test.YtgnablliekgbgaaMXPLH
import Derived.Recover
import Derived.Test.YtgnablliekgbgaaMXPLZ
import Derived.WalkKit
import Derived.ProofKit
import Derived.OpenShut
import Derived.ShutString
import Derived.ChangeOld
import Derived.Below
import Derived.SizedLaws
import Derived.Lib.SmallJoins
import Derived.Carry
import Derived.Test.YtgnablliekgbgaaMX4
set_option linter.unusedSimpArgs false
set_option linter.unusedVariables false
set_option maxRecDepth 100000
namespace Go.Proofs.Ytgnablliekgbgaa
open Go Go.PL Go.RowKit
theorem cutA {r : Rd} {v : Value} {ys : List UInt8} (h : Seen r v ys.length 1 (v8s ys)) {a : Nat} (ha : a ≤ ys.length) : Seen r (slv v a ys.length 1) (ys.drop a).length 1 (v8s (ys.drop a)) := by
  have q := (h.slv8 a ys.length ha (Nat.le_refl _)).re8
  rw [List.take_of_length_le zz45] at q
  exact q
theorem cutB {r : Rd} {v : Value} {ys : List UInt8} (h : Seen r v ys.length 1 (v8s ys)) {a : Nat} (ha : a ≤ ys.length) : Seen r (slv v 0 a 1) (ys.take a).length 1 (v8s (ys.take a)) := by
  have q := (h.slv8 0 a (Nat.zero_le _) ha).re8
  rw [List.drop_zero, Nat.sub_zero] at q
  exact q
section
variable {P : Program} {n : Cx} {R : World → Prop} {L : Slots} {Q : Exit → Act → World → Prop} {w0 : World} {Ln : List Nat} {M : List Ent} {S : List Fact} {bad bad1 c : Prop}
def isIface : TypeDesc → Bool
  | .interface _ => true
  | _ => false
theorem q_mkI {t : TypeId} {x : Operand} {v : Value} {dd : TypeDesc} (hu : P.underlying t = some dd) (hd : isIface dd = false) (hx : ev L x = some v) : QOp P n R L (.makeInterface t x) (.iface t v) := by
  intro d ty pos af g a w hs _
  have e : (Instr.makeInterface t v).run P w = .ok (.iface t v) w := by
    cases dd <;> first | (cases hd; done) | (simp [Instr.makeInterface, run_underlying hu, Sem.run_bind, Result.andThen, pure])
  simp only [execOp, hs.eval hx]
  simp [e]
theorem Sel.self {α : Type} : ∀ l : List α, Sel l l
  | [] => .nil
  | _ :: l => .cons .here (Sel.self l)
theorem t_callX0 {k : FuncId} {args : Array Operand} {at_ : Array TypeId} {vs : List Value} (hb : HasBody P k) (hv : evs L args.toList = some vs)
    (hc : ∀ w, Calls P k vs.toArray w (GivesX w [] (fun _ : Unit => c) (fun _ => .tuple #[]) (fun _ => []) bad1)) [hO : OutX Q n.ds w0 Ln bad] (hbad : bad1 → bad) :
    TOpP P Q n (Mem w0 Ln M S) L (.call { callee := .value (.func k), args := args, argTypes := at_ }) Unit (fun _ => c) (fun _ => .tuple #[]) (fun _ => Mem w0 Ln M S) := by
  have : SelC M M := ⟨Sel.self M⟩
  exact t_callX [] M M (fun _ => M) rfl (fun _ _ => .refl _) hb hv (fun w _ _ => hc w) hbad
end
theorem lenP_1 {ys : List UInt8} (h : 1 ≤ ys.length) : (ys.take 1).getD 0 0 = ys.getD 0 0 := by
  cases ys with
  | nil => cases h
  | cons a l => rfl
theorem or_byte (a b : Nat) (h : b < 256) : a * 2 ^ 8 ||| b = 256 * a + b := by
  have := Nat.two_pow_add_eq_or_of_lt (i := 8) (b := b) zz11 a
  rw [Nat.mul_comm a, ← this]
theorem must (b : Bool) (w : World)   :
    Calls Try.prog 84 [.bool b].toArray w (GivesX w [] (fun _ : Unit => b = true) (fun _ => .tuple #[]) (fun _ => []) (b = false)) := by
  refine enter (m := 6) (R := Mem w (nums []) [] []) Try.func84 rfl rfl (Nat.le_of_ble_eq_true rfl) (Mem.start w) ?_
  refine wpc_seq <| wpc_region <| wpl_q (q_pure rfl) rfl <| wpl_q (q_pure rfl) rfl <| wpl_nil <| ex_then ?_
  refine wpc_cond rfl (fun hc3 => ?_) (fun hc3 => ?_)
  ·
   refine wpc_region ?_
   refine wpl_q (q_build (cs := []) rfl rfl) rfl ?_
   refine wpl_q (q_mkI Try.underlying114 rfl rfl) rfl ?_
   exact wpl_panicX rfl (by simpa using hc3)
  ·
   have hbt : b = true := by simpa using hc3
   refine wpc_skip ?_
   refine ret0 (.inr rfl) rfl ?_
   exact fun w1 h => Or.inl ⟨(), hbt, rfl, h⟩
theorem cut (b : Nat) (v : Value) (m : Nat) (n : Nat) (w : World) (hB : Mem w (nums [.blk b 118 [v]]) [.blk b 118 [v]] [] w) (sv : SV v m)  :
    Calls Try.prog 105 [.pointer (some ⟨b, 0, none⟩), .int .i64 ((n : Nat) : Int)].toArray w (GivesX w [.blk b 118 [v]] (fun _ : Unit => n ≤ m) (fun _ => slv v 0 n 1) (fun _ => [.blk b 118 [slv v n m 1]]) (m < n)) := by
  have lm := sv.le
  simp only [maxLen] at lm
  refine enter (m := 30) (R := Mem w (nums [.blk b 118 [v]]) [.blk b 118 [v]] []) Try.func105 rfl rfl (Nat.le_of_ble_eq_true rfl) hB ?_
  refine wpc_seq <| wpc_region <| wpl_q (q_pure rfl) rfl <| wpl_nil <| ex_then <| wpc_seq <| wpc_region <| wpl_q (q_pure rfl) rfl <| wpl_q (q_pure rfl) rfl <| wpl_q (q_pure rfl) rfl <| wpl_q (q_field Try.underlying118 rfl Try.ti43 rfl rfl _ rfl) rfl <| wpl_q (q_ld Try.underlying43 rfl rfl rfl) rfl ?_
  refine wpl_q (q_lenW Try.underlying43 rfl zz2) rfl ?_
  refine wpl_q (q_pure rfl) rfl ?_
  refine wpl_tp (t_callX0 Try.hb84 rfl (fun w => must _ w) (fun hb => by simp only [decide_eq_false_iff_not] at hb; omega)) rfl (fun b13 p13 => ?_)
  have hnm : n ≤ m := by simp only [decide_eq_true_eq] at p13; omega
  refine wpl_nil <| ex_then <| wpc_seq <| wpc_region <| wpl_q (q_pure rfl) rfl <| wpl_q (q_pure rfl) rfl <| wpl_q (q_field Try.underlying118 rfl Try.ti43 rfl rfl _ rfl) rfl <| wpl_q (q_ld Try.underlying43 rfl rfl rfl) rfl <| wpl_q (q_pure rfl) rfl ?_
  refine wpl_q (q_slWh Try.underlying43 Try.ti5 rfl rfl zz2 zz11) rfl ?_
  refine wpl_q (q_pure rfl) rfl <| wpl_nil <| ex_then <| wpc_seq <| wpc_region <| wpl_q (q_pure rfl) rfl <| wpl_q (q_pure rfl) rfl <| wpl_q (q_pure rfl) rfl <| wpl_q (q_field Try.underlying118 rfl Try.ti43 rfl rfl _ rfl) rfl <| wpl_q (q_ld Try.underlying43 rfl rfl rfl) rfl <| wpl_q (q_pure rfl) rfl ?_
  refine wpl_q (q_slWl Try.underlying43 Try.ti5 rfl rfl zz2 zz11) rfl ?_
  refine wpl_q (q_pure rfl) rfl <| wpl_q (q_field Try.underlying118 rfl Try.ti43 rfl rfl _ rfl) rfl ?_
  refine wpl_t0 (t_st1 Try.ti43 rfl rfl (SV.one zz2) zz3 _ rfl) (fun _ => ?_)
  refine wpl_nil <| ex_then <| wpc_seq <| wpc_region <| wpl_q (q_pure rfl) rfl <| wpl_q (q_pure rfl) rfl <| wpl_nil <| ex_then <| wpc_ret ?_
  refine ret1 (.inl rfl) rfl rfl ?_
  exact fun w1 h => Or.inl ⟨(), hnm, rfl, h⟩
theorem length (b : Nat) (v : Value) (ys : List UInt8) (w : World) (hB : Mem w (nums [.blk b 118 [v]]) [.blk b 118 [v]] [] w) (hs : Seen (rdO (nums [.blk b 118 [v]]) w) v ys.length 1 (v8s ys))  :
    Calls Try.prog 106 [.pointer (some ⟨b, 0, none⟩)].toArray w (GivesX w [.blk b 118 [v]] (fun x : Value × Nat × Nat => lenP ys = some x.2 ∧ ∀ r, Seen r v ys.length 1 (v8s ys) → Seen r x.1 (ys.drop x.2.2).length 1 (v8s (ys.drop x.2.2))) (fun x => .int .i64 ((x.2.1 : Nat) : Int)) (fun x => [.blk b 118 [x.1]]) (lenP ys = none)) := by
  have sv := hs.sv
  have lm := sv.le
  simp only [maxLen] at lm
  refine enter (m := 44) (R := Mem w (nums [.blk b 118 [v]]) [.blk b 118 [v]] []) Try.func106 rfl rfl (Nat.le_of_ble_eq_true rfl) hB ?_
  refine wpc_seq <| wpc_region <| wpl_q (q_pure rfl) rfl <| wpl_nil <| ex_then <| wpc_seq <| wpc_region <| wpl_q (q_pure rfl) rfl ?_
  refine wpl_tp (t_callX [.blk b 118 [v]] [] [.blk b 118 [v]] (fun _ => [.blk b 118 [(slv v 1 ys.length 1)]]) rfl (fun _ _ => .refl _) Try.hb105 rfl (fun w h h2 => cut b v ys.length 1 w h2 sv) (fun hb => by rw [lenP, if_pos hb])) rfl (fun b8 p8 => ?_)
  have hk1 := lenP_1 p8
  have sv1 : SV (slv v 1 ys.length 1) (ys.drop 1).length := (cutA hs p8).sv
  have sv0 : SV (slv v 0 1 1) 1 := sv.slv zz11 p8
  refine wpl_q (q_idxW1 (j := 0) Try.underlying43 Try.ti5 rfl rfl zz2 zz0) rfl ?_
  refine wpl_q (q_ldW Try.underlying5 rfl rfl (fun w h => cutB (hs.mono (rdo_old h)) p8) (v8s_get (xs := ys.take 1) (i := 0) (by rw [List.length_take]; omega))) rfl ?_
  refine wpl_re 10 rfl (congrArg (fun n : Nat => Value.int .u8 (n : Int)) (show ((ys.take 1).getD 0 0).toNat = (ys.getD 0 0).toNat by rw [hk1])) ?_
  refine wpl_q (q8_int Try.underlying5 Try.underlying3 rfl) rfl <| wpl_q (q_pure rfl) rfl <| wpl_nil <| ex_then <| wpc_seq <| wpc_seq <| wpc_region <| wpl_q (q_pure rfl) rfl <| wpl_q (q_pure rfl) rfl <| wpl_nil <| ex_then ?_
  refine wpc_cond rfl (fun hc13 => ?_) (fun hc13 => ?_)
  ·
   simp only [decide_eq_true_eq] at hc13
   have hR : lenP ys = some ((ys.getD 0 0).toNat, 1) := by rw [lenP, if_neg zz11, if_pos zz11]
   refine wpc_seq <| wpc_region <| wpl_q (q_pure rfl) rfl <| wpl_q (q_pure rfl) rfl <| wpl_nil <| ex_then <| wpc_ret ?_
   refine ex_then_ret ?_
   refine ret1 (.inl rfl) rfl rfl ?_
   exact fun w1 h => Or.inl ⟨((slv v 1 ys.length 1), (ys.getD 0 0).toNat, 1), ⟨hR, fun r q => cutA q p8⟩, rfl, h⟩
  ·
   simp only [decide_eq_false_iff_not] at hc13
   have hk := (ys.getD 0 0).toNat_lt
   refine wpc_skip <| ex_then <| wpc_seq <| wpc_region <| wpl_q (q_pure rfl) rfl <| wpl_q (q_pure rfl) rfl <| wpl_q (q_pure rfl) rfl ?_
   refine wpl_bool2 17 16 rfl rfl (fun hb17 => ?_) (fun hb17 => ?_)
   ·
    try simp only [decide_eq_true_eq] at hb17
    refine wpl_on rfl rfl <| wpl_q (q_pure rfl) rfl <| wpl_on rfl rfl <| wpl_q (q_pure rfl) rfl <| wpl_q (q_pure rfl) rfl ?_
    refine wpl_tp (t_callX0 Try.hb84 rfl (fun w => must _ w) (fun hb => by rw [lenP, if_neg zz11, if_neg zz11, if_pos (by first | (simp only [decide_eq_false_iff_not] at hb; omega) | omega)])) rfl (fun b21 p21 => ?_)
    simp only [decide_eq_true_eq] at p21
    refine wpl_nil <| ex_then <| wpc_seq <| wpc_region <| wpl_q (q_pure rfl) rfl <| wpl_nil <| ex_then <| wpc_seq <| wpc_seq <| wpc_region <| wpl_q (q_pure rfl) rfl <| wpl_q (q_pure rfl) rfl ?_
    refine wpl_q (q_subN (b := 128) rfl rfl zz11 zz0) rfl ?_
    refine wpl_tp (t_callX [.blk b 118 [(slv v 1 ys.length 1)]] [] [.blk b 118 [(slv v 1 ys.length 1)]] (fun _ => [.blk b 118 [slv (slv v 1 ys.length 1) ((ys.getD 0 0).toNat - 128) (ys.drop 1).length 1]]) rfl (fun _ _ => .refl _) Try.hb105 rfl (fun w h h2 => cut b (slv v 1 ys.length 1) (ys.drop 1).length ((ys.getD 0 0).toNat - 128) w h2 sv1) (fun hb => by rw [List.length_drop] at hb; rw [lenP, if_neg zz11, if_neg zz11, if_pos zz11])) rfl (fun b25 p25 => ?_)
    have hs2 := fun (r : Rd) (q : Seen r v ys.length 1 (v8s ys)) => cutB (cutA q p8) p25
    have hl2 : ((ys.drop 1).take ((ys.getD 0 0).toNat - 128)).length = (ys.getD 0 0).toNat - 128 := by rw [List.length_take]; omega
    have sv2 : SV (slv (slv v 1 ys.length 1) 0 ((ys.getD 0 0).toNat - 128) 1) ((ys.getD 0 0).toNat - 128) := sv1.slv zz11 p25
    have hp25 := p25
    rw [List.length_drop] at hp25
    refine wpl_q (q_lenW Try.underlying43 rfl zz2) rfl ?_
    refine wpl_q (q_pure rfl) rfl <| wpl_nil <| ex_then <| wpc_block ?_
    refine wpc_loopc (ι := { x : Nat // (x ≤ (ys.getD 0 0).toNat - 128) }) [(3, _), (25, _), (26, _)] (fun x Lc => (27, .int .i64 ((x.1 : Nat) : Int)) :: (4, .int .i64 ((numOf (((ys.drop 1).take ((ys.getD 0 0).toNat - 128)).take x.1) : Nat) : Int)) :: Lc) (fun x => Mem w (nums [.blk b 118 [v]]) [.blk b 118 [slv (slv v 1 ys.length 1) ((ys.getD 0 0).toNat - 128) (ys.drop 1).length 1]] []) (fun x => (ys.getD 0 0).toNat - 128 - x.1) ⟨0, (Nat.zero_le _)⟩ zz7 ?_ ?_
    ·
     exact fun w h => h
    ·
     rintro ⟨i, hi0⟩; try dsimp only
     have hi0 : i ≤ (ys.getD 0 0).toNat - 128 := hi0
     refine wpc_seq <| wpc_region <| wpl_q (q_pure rfl) rfl <| wpl_nil <| ex_then <| wpc_seq ?_
     refine wpc_cond rfl (fun hc28 => ?_) (fun hc28 => ?_)
     ·
      simp only [decide_eq_true_eq] at hc28
      have hil : i < ((ys.drop 1).take ((ys.getD 0 0).toNat - 128)).length := by omega
      have hn24 := numOf_24 (xs := ((ys.drop 1).take ((ys.getD 0 0).toNat - 128))) (i := i) zz11 zz11
      have hcb := (((ys.drop 1).take ((ys.getD 0 0).toNat - 128)).getD i 0).toNat_lt
      refine wpc_skip <| ex_then <| wpc_seq <| wpc_block <| wpc_seq <| wpc_region ?_
      refine wpl_q (q_idxW1 Try.underlying43 Try.ti5 rfl rfl zz2 zz0) rfl ?_
      refine wpl_q (q_ldW Try.underlying5 rfl rfl (fun w h => hs2 _ (hs.mono (rdo_old h))) (v8s_get hil)) rfl ?_
      refine wpl_q (q_pure rfl) rfl <| wpl_nil <| ex_then <| wpc_region <| wpl_q (q_pure rfl) rfl ?_
      refine wpl_q (q_shlN (b := 8) rfl rfl zz29 zz0) rfl ?_
      refine wpl_q (q_pure rfl) rfl <| wpl_q (q8_int Try.underlying5 Try.underlying3 rfl) rfl ?_
      refine wpl_q (q_orN rfl rfl zz0 zz0) rfl ?_
      refine wpl_re 35 rfl (congrArg (fun n : Nat => Value.int .i64 (n : Int)) (show numOf (((ys.drop 1).take ((ys.getD 0 0).toNat - 128)).take i) * 2 ^ 8 ||| (((ys.drop 1).take ((ys.getD 0 0).toNat - 128)).getD i 0).toNat = numOf (((ys.drop 1).take ((ys.getD 0 0).toNat - 128)).take (i + 1)) by rw [numOf_take hil]; exact or_byte _ _ (((ys.drop 1).take ((ys.getD 0 0).toNat - 128)).getD i 0).toNat_lt)) ?_
      refine wpl_q (q_pure rfl) rfl <| wpl_nil <| ex_block <| ex_then <| wpc_region ?_
      refine wpl_q (q_addN (b := 1) rfl rfl zz0) rfl ?_
      refine wpl_q (q_pure rfl) rfl <| wpl_nil ?_
      refine ex_again ⟨i + 1, zz11⟩ ?_ ?_ ?_
      ·
       exact zz7
      ·
       exact fun w h => h
      ·
       (show (ys.getD 0 0).toNat - 128 - (i + 1) < (ys.getD 0 0).toNat - 128 - i); omega
     ·
      simp only [decide_eq_false_iff_not] at hc28
      obtain rfl : i = (ys.getD 0 0).toNat - 128 := by omega
      have ht : ((ys.drop 1).take ((ys.getD 0 0).toNat - 128)).take ((ys.getD 0 0).toNat - 128) = ((ys.drop 1).take ((ys.getD 0 0).toNat - 128)) := List.take_of_length_le zz11
      rw [ht]
      have hn24 := numOf_24 (xs := ys.drop 1) (i := (ys.getD 0 0).toNat - 128) zz45 zz11
      refine wpc_exit ?_
      refine ex_then_exit ?_
      refine ex_then_exit ?_
      refine ex_block_hit ?_
      refine ex_then <| wpc_seq <| wpc_region <| wpl_q (q_pure rfl) rfl ?_
      refine wpl_t (t_pur (v := .int .i64 ((wideF (numOf ((ys.drop 1).take ((ys.getD 0 0).toNat - 128))) : Nat) : Int)) Try.hb99 rfl fun w h => wide (numOf ((ys.drop 1).take ((ys.getD 0 0).toNat - 128))) w zz11) rfl (fun b38 => ?_)
      refine wpl_q (q_pure rfl) rfl ?_
      refine wpl_q (q_subN (b := 127) rfl rfl zz11 zz0) rfl ?_
      refine wpl_q (q_pure rfl) rfl ?_
      refine wpl_tp (t_callX0 Try.hb84 rfl (fun w => must _ w) (fun hb => by rw [lenP, if_neg zz11, if_neg zz11, if_neg zz11, if_pos (by simp only [beq_eq_false_iff_ne, ne_eq] at hb; intro e; exact hb (by rw [e]))])) rfl (fun b42 p42 => ?_)
      have hw : wideF (numOf ((ys.drop 1).take ((ys.getD 0 0).toNat - 128))) = (ys.getD 0 0).toNat - 127 := by simp only [beq_iff_eq] at p42; omega
      have hR : lenP ys = some (numOf ((ys.drop 1).take ((ys.getD 0 0).toNat - 128)), 1 + ((ys.getD 0 0).toNat - 128)) := by rw [lenP, if_neg zz11, if_neg zz11, if_neg zz11, if_neg (fun hh => hh hw)]
      refine wpl_nil <| ex_then <| wpc_seq <| wpc_region <| wpl_q (q_pure rfl) rfl <| wpl_q (q_pure rfl) rfl <| wpl_nil <| ex_then <| wpc_ret ?_
      refine ret1 (.inl rfl) rfl rfl ?_
      exact fun w1 h => Or.inl ⟨(slv (slv v 1 ys.length 1) ((ys.getD 0 0).toNat - 128) (ys.drop 1).length 1, numOf ((ys.drop 1).take ((ys.getD 0 0).toNat - 128)), 1 + ((ys.getD 0 0).toNat - 128)), ⟨hR, fun r q => by have z := cutA (cutA q p8) p25; rw [List.drop_drop] at z; exact z⟩, rfl, h⟩
   ·
    try simp only [decide_eq_false_iff_not] at hb17
    refine wpl_off rfl rfl rfl rfl <| wpl_off rfl rfl rfl rfl <| wpl_q (q_pure rfl) rfl ?_
    refine wpl_tp (t_callX0 Try.hb84 rfl (fun w => must _ w) (fun hb => by rw [lenP, if_neg zz11, if_neg zz11, if_pos (by first | (simp only [decide_eq_false_iff_not] at hb; omega) | omega)])) rfl (fun b21 p21 => ?_)
    cases p21
end Go.Proofs.Ytgnablliekgbgaa
namespace Go.Proofs.Ytgnablliekgbgaa
open Go Go.PL Go.RowKit
section
variable {f : Nat} {ys : List UInt8} {r : Nat × Nat}
theorem tp_1 (h : ys.length < 1) : takeP f ys = none := by
  cases f with
  | zero => rfl
  | succ f => rw [takeP, if_pos h]
theorem tp_2 (h : lenP (ys.drop 1) = none) : takeP f ys = none := by
  cases f with
  | zero => rfl
  | succ f => rw [takeP, h]; split <;> rfl
theorem tp_3 (h : lenP (ys.drop 1) = some r) (h2 : ys.length < 1 + r.2 + r.1) : takeP f ys = none := by
  cases f with
  | zero => rfl
  | succ f =>
    rw [takeP, h]
    split
    · rfl
    · exact if_pos h2
theorem tp_4 (h0 : 1 ≤ ys.length) (h : lenP (ys.drop 1) = some r) (h2 : ¬ ys.length < 1 + r.2 + r.1) (h3 : (ys.getD 0 0).toNat < 128) : takeP (f + 1) ys = some (.nd (ys.getD 0 0) ((ys.drop (1 + r.2)).take r.1) [], 1 + r.2 + r.1) := by
  rw [takeP, if_neg zz11, h]
  exact (if_neg h2).trans (if_pos h3)
theorem tp_5 (h0 : 1 ≤ ys.length) (h : lenP (ys.drop 1) = some r) (h2 : ¬ ys.length < 1 + r.2 + r.1) (h3 : ¬ (ys.getD 0 0).toNat < 128) : takeP (f + 1) ys = (kidsW (takeP f) r.1 ((ys.drop (1 + r.2)).take r.1)).map fun l => (.nd (ys.getD 0 0) [] l, 1 + r.2 + r.1) := by
  rw [takeP, if_neg zz11, h]
  exact (if_neg h2).trans (if_neg h3)
end
instance (priority := 500) selC_refl {α : Type} {l : List α} : SelC l l := ⟨Sel.self l⟩
theorem Sel.skip {α : Type} {l m : List α} {y : α} (h : Sel l m) : Sel l (y :: m) := by
  induction h with
  | nil => exact .nil
  | cons hr _ ih => exact .cons (.there hr) ih
theorem Sel.sub {α : Type} {l m : List α} (h : Sub l m) : Sel l m := by
  induction h with
  | nil => exact .nil
  | keep _ ih => exact .cons .here ih
  | drop _ ih => exact Sel.skip ih
instance (priority := 300) selC_sub {α : Type} {l m : List α} [s : SubC l m] : SelC l m := ⟨Sel.sub s.h⟩
theorem built_rd {v : Value} {n : Nat} (hv : SV v n) : Try.prog.built 118 [(0, v)] = some [v].toArray := by
  obtain ⟨a, cap, rfl, _⟩ := hv
  kernel_rfl
theorem value_step (b : Nat) (v : Value) (ys : List UInt8) (d : Nat) (w : World) (hB : Mem w (nums [.blk b 118 [v]]) [.blk b 118 [v]] [] w) (hs : Seen (rdO (nums [.blk b 118 [v]]) w) v ys.length 1 (v8s ys)) (f : Nat) (hd : d + f = 13) (hyl : ys.length ≤ 70000) (ih : ∀ f2, f = f2 + 1 → ∀ (b : Nat) (v : Value) (ys : List UInt8) (w : World), Mem w (nums [.blk b 118 [v]]) [.blk b 118 [v]] [] w → Seen (rdO (nums [.blk b 118 [v]]) w) v ys.length 1 (v8s ys) → ys.length ≤ 70000 → Calls Try.prog 83 [.pointer (some ⟨b, 0, none⟩), .int .i64 ((d + 1 : Nat) : Int)].toArray w (GivesX w [.blk b 118 [v]] (fun x : HT × Value × Nat => takeP f2 ys = some (x.1.tr, x.2.2) ∧ x.1.sv ∧ ∀ r, Seen r v ys.length 1 (v8s ys) → Seen r x.2.1 (ys.drop x.2.2).length 1 (v8s (ys.drop x.2.2))) (fun x => .agg x.1.c.toArray) (fun x => .blk b 118 [x.2.1] :: x.1.ents) (takeP f2 ys = none))) :
    Calls Try.prog 83 [.pointer (some ⟨b, 0, none⟩), .int .i64 ((d : Nat) : Int)].toArray w (GivesX w [.blk b 118 [v]] (fun x : HT × Value × Nat => takeP f ys = some (x.1.tr, x.2.2) ∧ x.1.sv ∧ ∀ r, Seen r v ys.length 1 (v8s ys) → Seen r x.2.1 (ys.drop x.2.2).length 1 (v8s (ys.drop x.2.2))) (fun x => .agg x.1.c.toArray) (fun x => .blk b 118 [x.2.1] :: x.1.ents) (takeP f ys = none)) := by
  have sv := hs.sv
  have lm := sv.le
  simp only [maxLen] at lm
  refine enter (m := 46) (R := Mem w (nums [.blk b 118 [v]]) [.blk b 118 [v]] []) Try.func83 rfl rfl (Nat.le_of_ble_eq_true rfl) hB ?_
  refine wpc_seq <| wpc_region ?_
  refine wpl_t (t_alloc Try.ti72 HT.z.c rfl) rfl (fun b4 => ?_)
  refine wpl_nil <| ex_then <| wpc_seq <| wpc_region <| wpl_q (q_pure rfl) rfl <| wpl_q (q_pure rfl) rfl ?_
  refine wpl_tp (t_callX0 Try.hb84 rfl (fun w => must _ w) (fun hb => by simp only [decide_eq_false_iff_not] at hb; obtain rfl : f = 0 := zz11; rfl)) rfl (fun b10 p10 => ?_)
  obtain ⟨f2, rfl⟩ : ∃ f2, f = f2 + 1 := ⟨f - 1, by simp only [decide_eq_true_eq] at p10; omega⟩
  refine wpl_nil <| ex_then <| wpc_seq <| wpc_region <| wpl_q (q_pure rfl) rfl ?_
  refine wpl_tp (t_callX [.blk b 118 [v]] [.blk b4 72 HT.z.c] [.blk b 118 [v], .blk b4 72 HT.z.c] (fun _ => [.blk b 118 [(slv v 1 ys.length 1)], .blk b4 72 HT.z.c]) rfl (fun _ _ => .refl _) Try.hb105 rfl (fun w h h2 => cut b v ys.length 1 w h2 sv) (fun hb => tp_1 hb)) rfl (fun b12 p12 => ?_)
  have hk1 := lenP_1 p12
  have sv1 : SV (slv v 1 ys.length 1) (ys.drop 1).length := (cutA hs p12).sv
  have sv0 : SV (slv v 0 1 1) 1 := sv.slv zz11 p12
  refine wpl_q (q_idxW1 (j := 0) Try.underlying43 Try.ti5 rfl rfl zz2 zz0) rfl ?_
  refine wpl_q (q_ldW Try.underlying5 rfl rfl (fun w h => cutB (hs.mono (rdo_old h)) p12) (v8s_get (xs := ys.take 1) (i := 0) (by rw [List.length_take]; omega))) rfl ?_
  refine wpl_re 14 rfl (congrArg (fun n : Nat => Value.int .u8 (n : Int)) (show ((ys.take 1).getD 0 0).toNat = (ys.getD 0 0).toNat by rw [hk1])) ?_
  refine wpl_q (q_build (cs := [.int .u8 ((ys.getD 0 0).toNat : Int), nl, nl]) rfl (built_o0 (ys.getD 0 0))) rfl ?_
  refine wpl_t (t_alloc Try.ti72 HT.z.c rfl) rfl (fun b5 => ?_)
  refine wpl_t0 (t_stA Try.ti72 rfl rfl LenC.h OneC.h LenC.h) (fun _ => ?_)
  refine wpl_nil <| ex_then <| wpc_seq <| wpc_region <| wpl_q (q_pure rfl) rfl <| wpl_q (q_pure rfl) rfl ?_
  refine wpl_tp (t_callX [.blk b 118 [(slv v 1 ys.length 1)]] [.blk b5 72 [.int .u8 ((ys.getD 0 0).toNat : Int), nl, nl], .blk b4 72 HT.z.c] [.blk b 118 [(slv v 1 ys.length 1)], .blk b5 72 [.int .u8 ((ys.getD 0 0).toNat : Int), nl, nl], .blk b4 72 HT.z.c] (fun x => [.blk b 118 [x.1], .blk b5 72 [.int .u8 ((ys.getD 0 0).toNat : Int), nl, nl], .blk b4 72 HT.z.c]) rfl (fun _ _ => .refl _) Try.hb106 rfl (fun w h h2 => length b (slv v 1 ys.length 1) (ys.drop 1) w h2 ((cutA hs p12).mono (rdo_nums h zz4))) (fun hb => tp_2 hb)) rfl (fun b18 p18 => ?_)
  obtain ⟨u, n, m⟩ := b18
  dsimp only at p18 ⊢
  have hp := p18.1
  have hle := lenP_le hp
  dsimp only at hle
  have hU := fun (r : Rd) (q : Seen r v ys.length 1 (v8s ys)) => p18.2 r (cutA q p12)
  have svu := (hU _ hs).sv
  have hdl : (ys.drop 1).length = ys.length - 1 := List.length_drop
  have hzl : ((ys.drop 1).drop m).length = ys.length - 1 - m := by rw [List.length_drop, hdl]
  refine wpl_tp (t_callX [.blk b 118 [u]] [.blk b5 72 [.int .u8 ((ys.getD 0 0).toNat : Int), nl, nl], .blk b4 72 HT.z.c] [.blk b 118 [u], .blk b5 72 [.int .u8 ((ys.getD 0 0).toNat : Int), nl, nl], .blk b4 72 HT.z.c] (fun _ => [.blk b 118 [(slv u n ((ys.drop 1).drop m).length 1)], .blk b5 72 [.int .u8 ((ys.getD 0 0).toNat : Int), nl, nl], .blk b4 72 HT.z.c]) rfl (fun _ _ => .refl _) Try.hb105 rfl (fun w h h2 => cut b u ((ys.drop 1).drop m).length n w h2 svu) (fun hb => tp_3 hp (by rw [hzl] at hb; dsimp only; omega))) rfl (fun b19 p19 => ?_)
  have hdd : ((ys.drop 1).drop m).drop n = ys.drop (1 + m + n) := by rw [List.drop_drop, List.drop_drop, Nat.add_assoc]
  have hzs : ((ys.drop 1).drop m).take n = ((ys.drop (1 + m)).take n) := by rw [List.drop_drop]
  have hsl : ((ys.drop (1 + m)).take n).length = n := by rw [← hzs, List.length_take]; omega
  have hn3 : ¬ ys.length < 1 + (n, m).2 + (n, m).1 := by rw [hzl] at p19; dsimp only; omega
  have hC := fun (r : Rd) (q : Seen r v ys.length 1 (v8s ys)) => cutB (hU r q) p19
  rw [hzs] at hC
  have svc := (hC _ hs).sv
  have hD : ∀ r, Seen r v ys.length 1 (v8s ys) → Seen r (slv u n ((ys.drop 1).drop m).length 1) (ys.drop (1 + m + n)).length 1 (v8s (ys.drop (1 + m + n))) := fun r q => by have z := cutA (hU r q) p19; rw [hdd] at z; exact z
  have h5 : ¬ (ys.getD 0 0).toNat < 128 → takeP (f2 + 1) ys = (kidsW (takeP f2) n ((ys.drop (1 + m)).take n)).map fun l => (.nd (ys.getD 0 0) [] l, 1 + m + n) := fun ht => tp_5 p12 hp hn3 ht
  refine wpl_q (q_pure rfl) rfl <| wpl_nil <| ex_then <| wpc_seq <| wpc_seq <| wpc_region <| wpl_q (q_field Try.underlying72 rfl Try.ti5 rfl rfl _ rfl) rfl ?_
  refine wpl_q (q_ld Try.underlying5 rfl rfl zz19) rfl ?_
  refine wpl_q (q_pure rfl) rfl <| wpl_nil <| ex_then ?_
  refine wpc_cond rfl (fun hc22 => ?_) (fun hc22 => ?_)
  ·
   simp only [decide_eq_true_eq] at hc22
   have ht : (ys.getD 0 0).toNat < 128 := by omega
   refine wpc_seq <| wpc_region <| wpl_q (q_pure rfl) rfl ?_
   refine wpl_tp (t_callP1 Try.hb95 rfl fun w h => cloneB (slv u 0 n 1) ((ys.drop (1 + m)).take n) w (hC _ (hs.mono (rdo_old h))) zz11) rfl (fun b24 p24 => ?_)
   haveI := oneH (t := (ys.getD 0 0)) p24 SV.nil
   refine wpl_q (q_field Try.underlying72 rfl Try.ti43 rfl rfl _ rfl) rfl ?_
   refine wpl_t0 (t_st1 Try.ti43 rfl rfl (SV.one zz2) zz3 [.int .u8 ((ys.getD 0 0).toNat : Int), b24, nl] rfl) (fun _ => ?_)
   refine wpl_nil <| ex_then <| wpc_seq <| wpc_region <| wpl_q (q_ldN Try.underlying72 rfl Try.ti72 rfl LenC.h) rfl ?_
   refine wpl_t0 (t_stA Try.ti72 rfl rfl LenC.h OneC.h LenC.h) (fun _ => ?_)
   refine wpl_nil <| ex_then <| wpc_ret ?_
   refine ex_then_ret ?_
   refine retv1 (.inl rfl) rfl (rv_agg Try.underlying72 rfl Try.ti72 rfl (fun w h => h.atB) rfl) ?_
   exact fun w1 h => Or.inl ⟨(.nd (ys.getD 0 0) b24 ((ys.drop (1 + m)).take n) nl [], (slv u n ((ys.drop 1).drop m).length 1), 1 + m + n), ⟨tp_4 p12 hp hn3 ht, ⟨p24, SV.nil⟩, hD⟩, rfl, (show Mem w (nums [.blk b 118 [v]]) [.blk b 118 [(slv u n ((ys.drop 1).drop m).length 1)], .row b24 ((ys.drop (1 + m)).take n).length 5 1 (v8s ((ys.drop (1 + m)).take n)), .row nl 0 72 3 []] [] w1 from (h.nilRow 72 3).sel)⟩
  ·
   simp only [decide_eq_false_iff_not] at hc22
   have ht : ¬ (ys.getD 0 0).toNat < 128 := by omega
   refine wpc_skip <| ex_then <| wpc_seq <| wpc_seq <| wpc_region <| wpl_q (q_pure rfl) rfl ?_
   refine wpl_q (q_build (cs := [(slv u 0 n 1)]) rfl (built_rd svc)) rfl ?_
   refine wpl_t (t_box rfl [(slv u 0 n 1)] rfl) rfl (fun b29 => ?_)
   refine wpl_q (q_pure rfl) rfl <| wpl_nil <| ex_then <| wpc_block ?_
   refine wpc_loopc (ι := { x : Nat × List HT × Value × Value // (x.1 ≤ n) ∧ (x.2.1.length ≤ x.1) ∧ (KG (takeP f2) n ((ys.drop (1 + m)).take n) x.2.1 x.1) ∧ (SV x.2.2.1 x.2.1.length) ∧ (∀ r, Seen r v ys.length 1 (v8s ys) → Seen r x.2.2.2 (((ys.drop (1 + m)).take n).drop x.1).length 1 (v8s (((ys.drop (1 + m)).take n).drop x.1))) }) [(1, _), (4, _), (5, _), (7, _)] (fun x Lc => Lc) (fun x => Mem w (nums [.blk b 118 [v]]) (.blk b29 118 [x.1.2.2.2] :: .blk b5 72 [.int .u8 ((ys.getD 0 0).toNat : Int), nl, x.1.2.2.1] :: .blk b4 72 HT.z.c :: .blk b 118 [(slv u n ((ys.drop 1).drop m).length 1)] :: .row x.1.2.2.1 x.1.2.1.length 72 3 (hcs x.1.2.1) :: entsL x.1.2.1) []) (fun x => n - x.1.1) ⟨(0, [], nl, (slv u 0 n 1)), ⟨Nat.zero_le _, Nat.le_refl _, by have q := KG_start (tk := takeP f2) (seg := ((ys.drop (1 + m)).take n)); rw [hsl] at q; exact q, SV.nil, hC⟩⟩ zz7 ?_ ?_
   ·
    exact fun w1 h => by
      have h2 : Mem w (nums [.blk b 118 [v]]) [.blk b29 118 [(slv u 0 n 1)], .blk b5 72 [.int .u8 ((ys.getD 0 0).toNat : Int), nl, nl], .blk b4 72 HT.z.c, .blk b 118 [(slv u n ((ys.drop 1).drop m).length 1)], .row nl 0 72 3 []] [] w1 := (h.nilRow 72 3).sel
      exact h2
   ·
    rintro ⟨⟨c, ns, nv, cv⟩, ⟨hi0, hi1, hi2, hi3, hi4⟩⟩; try dsimp only
    have hi0 : c ≤ n := hi0; have hi1 : ns.length ≤ c := hi1; have hi2 : KG (takeP f2) n ((ys.drop (1 + m)).take n) ns c := hi2; have hi3 : SV nv ns.length := hi3; have hi4 : ∀ r, Seen r v ys.length 1 (v8s ys) → Seen r cv (((ys.drop (1 + m)).take n).drop c).length 1 (v8s (((ys.drop (1 + m)).take n).drop c)) := hi4
    haveI := oneH (t := (ys.getD 0 0)) SV.nil hi3
    have svk := (hi4 _ hs).sv
    have hdk : (((ys.drop (1 + m)).take n).drop c).length = ((ys.drop (1 + m)).take n).length - c := List.length_drop
    refine wpc_seq <| wpc_seq <| wpc_region <| wpl_q (q_pure rfl) rfl <| wpl_q (q_pure rfl) rfl <| wpl_q (q_field Try.underlying118 rfl Try.ti43 rfl rfl _ rfl) rfl <| wpl_q (q_ld Try.underlying43 rfl rfl rfl) rfl ?_
    refine wpl_q (q_lenW Try.underlying43 rfl zz2) rfl ?_
    refine wpl_q (q_pure rfl) rfl <| wpl_nil <| ex_then ?_
    refine wpc_cond rfl (fun hc35 => ?_) (fun hc35 => ?_)
    ·
     simp only [decide_eq_true_eq] at hc35
     have hcn : c < n := by omega
     refine wpc_skip <| ex_then <| wpc_block ?_
     refine wpc_drawM [.blk b5 72 [.int .u8 ((ys.getD 0 0).toNat : Int), nl, nv]] 7 zz6 zz5 ?_
     refine wpd_p 0 rfl zz6 trivial (q_field Try.underlying72 rfl Try.ti70 rfl rfl _ rfl) rfl (fun w h => .inr (h.sub SubC.h SubC.h)) ?_
     refine wpd_q 1 rfl zz6 trivial (q_ld Try.underlying70 rfl rfl rfl) rfl (fun w h => h.sub SubC.h SubC.h) ?_
     refine wpd_p 2 rfl zz6 trivial (q_pure rfl) rfl (fun w h => .inr (h.sub SubC.h SubC.h)) ?_
     refine wpd_p 3 rfl zz6 trivial (q_pure rfl) rfl (fun w h => .inr (h.sub SubC.h SubC.h)) ?_
     refine wpd_p 4 rfl zz6 trivial (q_addN (b := 1) rfl rfl zz0) rfl (fun w h => .inr (h.sub SubC.h SubC.h)) ?_
     refine wpd_tp 5 rfl zz6 trivial (t_callX [.blk b29 118 [cv]] (.blk b5 72 [.int .u8 ((ys.getD 0 0).toNat : Int), nl, nv] :: .blk b4 72 HT.z.c :: .blk b 118 [(slv u n ((ys.drop 1).drop m).length 1)] :: .row nv ns.length 72 3 (hcs ns) :: entsL ns) (.blk b29 118 [cv] :: .blk b5 72 [.int .u8 ((ys.getD 0 0).toNat : Int), nl, nv] :: .blk b4 72 HT.z.c :: .blk b 118 [(slv u n ((ys.drop 1).drop m).length 1)] :: .row nv ns.length 72 3 (hcs ns) :: entsL ns) (fun x => .blk b29 118 [x.2.1] :: .blk b5 72 [.int .u8 ((ys.getD 0 0).toNat : Int), nl, nv] :: .blk b4 72 HT.z.c :: .blk b 118 [(slv u n ((ys.drop 1).drop m).length 1)] :: .row nv ns.length 72 3 (hcs ns) :: (x.1.ents ++ entsL ns)) rfl (fun x _ => List.Perm.cons _ (List.perm_append_comm_assoc x.1.ents [.blk b5 72 [.int .u8 ((ys.getD 0 0).toNat : Int), nl, nv], .blk b4 72 HT.z.c, .blk b 118 [(slv u n ((ys.drop 1).drop m).length 1)], .row nv ns.length 72 3 (hcs ns)] (entsL ns))) Try.hb83 rfl (fun w h h2 => ih f2 rfl b29 cv (((ys.drop (1 + m)).take n).drop c) w h2 ((hi4 _ hs).mono (rdo_nums h zz4)) zz11) (fun hb => by rw [h5 ht, KG_none hi2 zz11 hb]; rfl)) rfl (fun _ => (fun w h => .inr (h.sub SubC.h SubC.h))) (fun b41 p41 => ?_)
     haveI := p41.2.1.one
     have hmm := takeP_le p41.1
     have hKG := KG_some (y := b41.1) hi2 zz11 p41.1 zz11
     refine wpd_tp 6 rfl zz6 trivial (t_bsG [.agg b41.1.c.toArray] b41.1.c Try.underlying70 Try.ti72 rfl zz18 rfl zz18 zz18 rfl zz30 (List.append_nil _)) rfl (fun _ => (fun w h => .inr (h.sub SubC.h SubC.h))) (fun b42 p42 => ?_)
     refine wpd_tp 7 rfl zz6 trivial (t_apW Try.underlying70 Try.ti72 rfl zz18 rfl rfl (fun w h => zz1) OneC.h zz0 zz0 (hcs (ns ++ [b41.1])) (cat_snoc HT.c ns b41.1)) rfl (fun _ => skk rfl) (fun b43 p43 => ?_)
     haveI := oneH (t := (ys.getD 0 0)) SV.nil p43
     refine wpd_p 8 rfl zz6 trivial (q_field Try.underlying72 rfl Try.ti70 rfl rfl _ rfl) rfl (skk rfl) ?_
     refine wpd_t0 9 rfl zz6 trivial (t_st1 Try.ti70 rfl rfl (SV.one zz2) zz3 [.int .u8 ((ys.getD 0 0).toNat : Int), nl, b43] rfl) (fun _ => skk rfl) (fun _ => ?_)
     refine wpd_done zz6 ?_
     refine ex_block ?_
     refine ex_again ⟨(c + b41.2.2, ns ++ [b41.1], b43, b41.2.1), ⟨by dsimp only; omega, by rw [snoc_len]; dsimp only; omega, hKG, by rw [snoc_len]; exact p43, fun r q => by have z := p41.2.2 r (hi4 r q); rw [List.drop_drop] at z; exact z⟩⟩ ?_ ?_ ?_
     ·
      exact zz7
     ·
      exact fun w h => by
        dsimp only
        rw [snoc_len]
        exact (h.sub (M' := .blk b29 118 [b41.2.1] :: .blk b5 72 [.int .u8 ((ys.getD 0 0).toNat : Int), nl, b43] :: .blk b4 72 HT.z.c :: .blk b 118 [(slv u n ((ys.drop 1).drop m).length 1)] :: .row b43 (ns.length + 1) 72 3 (hcs (ns ++ [b41.1])) :: (b41.1.ents ++ entsL ns)) (S' := []) SubC.h .nil).perm ((((((entsL_snoc ns b41.1).cons _).cons _).cons _).cons _).cons _)
     ·
      (show n - (c + b41.2.2) < n - c); omega
    ·
     simp only [decide_eq_false_iff_not] at hc35
     have hR : takeP (f2 + 1) ys = some (.nd (ys.getD 0 0) [] (trs ns), 1 + m + n) := by rw [h5 ht, KG_end hi2 zz11]; rfl
     refine wpc_exit ?_
     refine ex_then_exit ?_
     refine ex_then_exit ?_
     refine ex_block_hit ?_
     refine ex_then <| wpc_seq <| wpc_region <| wpl_q (q_ldN Try.underlying72 rfl Try.ti72 rfl LenC.h) rfl ?_
     refine wpl_t0 (t_stA Try.ti72 rfl rfl LenC.h OneC.h LenC.h) (fun _ => ?_)
     refine wpl_nil <| ex_then <| wpc_ret ?_
     refine retv1 (.inl rfl) rfl (rv_agg Try.underlying72 rfl Try.ti72 rfl (fun w h => h.atB) rfl) ?_
     exact fun w1 h => Or.inl ⟨(.nd (ys.getD 0 0) nl [] nv ns, (slv u n ((ys.drop 1).drop m).length 1), 1 + m + n), ⟨hR, ⟨SV.nil, hi3⟩, hD⟩, rfl, (show Mem w (nums [.blk b 118 [v]]) (.blk b 118 [(slv u n ((ys.drop 1).drop m).length 1)] :: .row nl 0 5 1 [] :: .row nv ns.length 72 3 (hcs ns) :: entsL ns) [] w1 from (h.nilRow 5 1).sel)⟩
theorem value : ∀ (f d b : Nat) (v : Value) (ys : List UInt8) (w : World), Mem w (nums [.blk b 118 [v]]) [.blk b 118 [v]] [] w → Seen (rdO (nums [.blk b 118 [v]]) w) v ys.length 1 (v8s ys) → d + f = 13 → ys.length ≤ 70000 → Calls Try.prog 83 [.pointer (some ⟨b, 0, none⟩), .int .i64 ((d : Nat) : Int)].toArray w (GivesX w [.blk b 118 [v]] (fun x : HT × Value × Nat => takeP f ys = some (x.1.tr, x.2.2) ∧ x.1.sv ∧ ∀ r, Seen r v ys.length 1 (v8s ys) → Seen r x.2.1 (ys.drop x.2.2).length 1 (v8s (ys.drop x.2.2))) (fun x => .agg x.1.c.toArray) (fun x => .blk b 118 [x.2.1] :: x.1.ents) (takeP f ys = none))
  | 0, d, b, v, ys, w, hB, hs, hd, hl => value_step b v ys d w hB hs 0 hd hl (fun f2 e => zz11)
  | f + 1, d, b, v, ys, w, hB, hs, hd, hl => value_step b v ys d w hB hs (f + 1) hd hl (fun f2 e b v ys w hB hs hl => by
    obtain rfl : f = f2 := by omega
    exact value f (d + 1) b v ys w hB hs zz11 hl)
end Go.Proofs.Ytgnablliekgbgaa
namespace Go.Proofs.Ytgnablliekgbgaa
open Go Go.PL Go.RowKit
section
variable {P : Program} {n : Cx} {R : World → Prop} {L : Slots} {Q : Exit → Act → World → Prop} {w0 : World} {Ln : List Nat} {M : List Ent} {S : List Fact} {bad1 : Prop} {ops : Array Oper} {rest : List Oper}
theorem t_callXQ {k : FuncId} {args : Array Operand} {at_ : Array TypeId} {vs : List Value} {ι : Type} {p : ι → Prop} {V : ι → Value} {N : ι → List Ent} (M1 X A : List Ent) (Z : ι → List Ent) (hA : M1 ++ X = A) [hM : SelC A M] (hZ : ∀ x, p x → (N x ++ X).Perm (Z x)) (hb : HasBody P k) (hv : evs L args.toList = some vs)
    (hc : ∀ w, Mem w0 Ln M S w → Mem w (nums M1) M1 [] w → Calls P k vs.toArray w (GivesX w M1 p V N bad1)) (hQ : ∀ a w', Sl n a L → bad1 → Mem w0 Ln X S w' → Q (.panic chainX) a w') :
    TOpP P Q n (Mem w0 Ln M S) L (.call { callee := .value (.func k), args := args, argTypes := at_ }) ι p V (fun x => Mem w0 Ln (Z x) S) := by
  have h : TOp P Q n (Mem w0 Ln M S) L (.call { callee := .value (.func k), args := args, argTypes := at_ }) { x : ι // p x } (fun x => V x.1) (fun x => Mem w0 Ln (Z x.1) S) := by
    intro d ty pos af g a w K hs hm0 hk
    subst hA
    have hm := hm0.selP hM.h
    have hargs : args.map a.eval = vs.toArray := by
      have e : (args.map a.eval).toList = vs := by rw [Array.toList_map]; exact evs_eval hs hv
      rw [← e]
    have hrun : (execOp a.eval ⟨d, .call { callee := .value (.func k), args := args, argTypes := at_ }, ty, pos, af, g⟩).run P w = .ok (.enter k vs.toArray) w := by
      have hf : ev L (.func k) = some (.func (.func k) #[] #[]) := rfl
      simp only [execOp, resolve, hs.eval hf, hargs]
      simp [Deferred.ofValue, invoke, run_callFunc hb]
    unfold Oper.wp
    rw [hrun]
    refine (hc w hm0 (Mem.startL w (fun e he => hm.own e (List.mem_append_left _ he)) (List.pairwise_append.1 hm.apart).1)).mono ?_
    rintro e w' (⟨x, hp, rfl, h⟩ | ⟨hb1, rfl, h⟩)
    · exact hk ⟨x, hp⟩ w' ((((hm.perm List.perm_append_comm).framedS h).perm List.perm_append_comm).perm (hZ x hp))
    · exact hQ a w' hs hb1 (((hm.perm List.perm_append_comm).framedS h).perm (by rw [List.append_nil]))
  exact h.rep fun x w h => ⟨x.1, x.2, rfl, h⟩
theorem wpl_defer {x : Operand} {k : FuncId} {us cap : Array Value} {d : Deferred} {ty : TypeId} {pos : String} {af : Array Edge} (hx : ev L x = some (.func (.func k) us cap)) (hd : ({ target := .fn (.func k) cap, args := us } : Deferred) = d) (next : WPL P ops Q ⟨n.n, d :: n.ds⟩ R L rest) :
    WPL P ops Q n R L (⟨none, .defer { callee := .value x, args := #[], argTypes := #[] }, ty, pos, af, none⟩ :: rest) := by
  intro a w hs hr
  refine wpList_plain rfl fun K hK => ?_
  have hrun : (execOp a.eval ⟨none, .defer { callee := .value x, args := #[], argTypes := #[] }, ty, pos, af, none⟩).run P w = .ok (.defer d) w := by
    simp only [execOp, resolve, hs.eval hx]
    simp [Deferred.ofValue, ← hd]
  unfold Oper.wp
  rw [hrun]
  exact hK _ _ (next { a with defers := d :: a.defers } w ⟨hs.size, by show d :: a.defers = d :: n.ds; rw [hs.defers], hs.tmp⟩ hr)
theorem sl_start {fn : Func} {m : Nat} (hn : fn.ntmps = m) (args : List Value) (hna : args.length ≤ m) : Sl ⟨m, []⟩ { tmps := args.toArray ++ Array.replicate (fn.ntmps - args.toArray.size) undef, defers := [] } (argSlots 0 args) := by
  refine ⟨?_, rfl, fun t v hv => ?_⟩
  · simp [hn]; omega
  · have := (get_argSlots t v args 0 hv).2
    simp only [Nat.sub_zero] at this
    have hlt : t < args.length := by
      rcases Nat.lt_or_ge t args.length with h | h
      · exact h
      · rw [List.getElem?_eq_none h] at this; cases this
    rw [List.getElem?_eq_getElem hlt] at this
    simpa [Array.getElem?_append, hlt] using this
theorem enterD {f : FuncId} {fn : Func} {c : Code} {args : List Value} {w0 : World} {post : Ending → World → Prop} (hf : P.funcs[f]? = some fn) (hb : fn.body = some c) {m : Nat} (hn : fn.ntmps = m) (hna : args.length ≤ m) (h0 : R w0)
    (h : WPC P (bodyPostD P fn post) ⟨m, []⟩ R (argSlots 0 args) c) : Calls P f args.toArray w0 post := calls_of_wp_defers hf hb (h _ w0 (sl_start hn args hna) h0)
theorem res2 {fn : Func} {r s : ResultVar} {v u : Value} {a : Act} {w : World} (hs : Sl n a L) (hw : R w) (hr : fn.results = #[r, s]) (h1 : RVal P R L r v) (h2 : RVal P R L s u) : (results fn a.tmps).run P w = .ok (.tuple #[v, u]) w := by
  simp only [results, hr]
  cases r <;> cases s
  · simp only [RVal] at h1; simp only [RVal] at h2; simp [hs.tmp _ _ h1, hs.tmp _ _ h2, asAddr]
  · simp only [RVal] at h1; simp only [RVal] at h2; obtain ⟨ad1, hx1, hl1⟩ := h2; simp [hs.tmp _ _ h1, hs.tmp _ _ hx1, hl1 w hw, asAddr]
  · simp only [RVal] at h1; simp only [RVal] at h2; obtain ⟨ad0, hx0, hl0⟩ := h1; simp [hs.tmp _ _ hx0, hl0 w hw, hs.tmp _ _ h2, asAddr]
  · simp only [RVal] at h1; simp only [RVal] at h2; obtain ⟨ad0, hx0, hl0⟩ := h1; obtain ⟨ad1, hx1, hl1⟩ := h2; simp [hs.tmp _ _ hx0, hl0 w hw, hs.tmp _ _ hx1, hl1 w hw, asAddr]
theorem retD0 {m : Nat} {fn : Func} {post : Ending → World → Prop} {r s : ResultVar} {v u : Value} {e : Exit} (he : e = .ret ∨ e = .normal) (hr : fn.results = #[r, s]) (h1 : RVal P R L r v) (h2 : RVal P R L s u)
    (h : ∀ w, R w → post (.returned (.tuple #[v, u])) w) : EX (bodyPostD P fn post) e ⟨m, []⟩ R L := by
  intro a w hs hw
  have hx := res2 hs hw hr h1 h2
  have key : Leaves P fn a.tmps post a.defers .returning w := by
    rw [hs.defers]; exact ⟨_, hx, h w hw⟩
  rcases he with rfl | rfl <;> exact key
theorem wpOpsS_recN {i : Nat} {is : List Nat} {QS : Exit → Act → List Frame → World → Prop} {a : Act} {cs : List Frame} {w : World} {d : Option Tmp} {ty : TypeId} {pos : String} {af : Array Edge} (ho : ops[i]? = some ⟨d, .call { callee := .builtin .recover, args := #[], argTypes := #[] }, ty, pos, af, none⟩) (hr : recoverD cs = none)
    (h : wpOpsS P ops QS is (a.put d .nilIface) cs w) : wpOpsS P ops QS (i :: is) a cs w := by
  have hrun : (execOp a.eval ⟨d, .call { callee := .builtin .recover, args := #[], argTypes := #[] }, ty, pos, af, none⟩).run P w = .ok .recover w := by
    simp [execOp, resolve, invoke, builtin]
  simp only [wpOpsS, ho, Region.wanted, if_true, hrun, hr]
  exact h
theorem wpOpsS_recS {i : Nat} {is : List Nat} {QS : Exit → Act → List Frame → World → Prop} {a : Act} {cs cs' : List Frame} {v : Value} {w : World} {d : Option Tmp} {ty : TypeId} {pos : String} {af : Array Edge} (ho : ops[i]? = some ⟨d, .call { callee := .builtin .recover, args := #[], argTypes := #[] }, ty, pos, af, none⟩) (hr : recoverD cs = some (v, cs'))
    (h : wpOpsS P ops QS is (a.put d v) cs' w) : wpOpsS P ops QS (i :: is) a cs w := by
  have hrun : (execOp a.eval ⟨d, .call { callee := .builtin .recover, args := #[], argTypes := #[] }, ty, pos, af, none⟩).run P w = .ok .recover w := by
    simp [execOp, resolve, invoke, builtin]
  simp only [wpOpsS, ho, Region.wanted, if_true, hrun, hr]
  exact h
theorem wpOpsS_q {i : Nat} {is : List Nat} {QS : Exit → Act → List Frame → World → Prop} {a : Act} {cs : List Frame} {v : Value} {w : World} {d : Option Tmp} {op : Op} {ty : TypeId} {pos : String} {af : Array Edge} (ho : ops[i]? = some ⟨d, op, ty, pos, af, none⟩) (hop : QOp P n (fun _ => True) L op v) (hs : Sl n a L)
    (h : wpOpsS P ops QS is (a.put d v) cs w) : wpOpsS P ops QS (i :: is) a cs w := by
  have hrun := hop d ty pos af none a w hs trivial
  simp only [wpOpsS, ho, Region.wanted, if_true, hrun, Oper.upon]
  exact h
theorem wpS_cod {QS : Exit → Act → List Frame → World → Prop} {c : Code} {a : Act} {cs : List Frame} {w : World} (hs : Sl n a L) (hr : R w) (h : WPC P (fun e a' w' => QS e a' cs w') n R L c) : c.wpS P QS a cs w := wpS_of_wp (h a w hs hr)
end
abbrev dcl (b2 b3 : Nat) : Deferred := { target := .fn (.func 82) #[.pointer (some ⟨b2, 0, none⟩), .pointer (some ⟨b3, 0, none⟩)], args := #[] }
theorem dcl_run (b2 b3 : Nat) (w : World) : (invoke (dcl b2 b3).target (dcl b2 b3).args).run Try.prog w = .ok (.enter 82 #[.pointer (some ⟨b2, 0, none⟩), .pointer (some ⟨b3, 0, none⟩)]) w := by
  simp [invoke, run_callFunc Try.hb82]
theorem q_neNilT {n : Cx} {R : World → Prop} {L : Slots} {x : Operand} (hx : ev L x = some (Value.iface 114 (.agg #[]))) : QOp Try.prog n R L (.binOp .neq 20 x (.const .nilIface) 20) (.bool true) := by
  intro d ty pos af g a w hs _
  simp only [execOp, hs.eval hx, hs.eval (show ev L (.const .nilIface) = some .nilIface from rfl)]
  kernel_rfl
theorem q_neNilF {n : Cx} {R : World → Prop} {L : Slots} (hx : ev L (.tmp 6) = some .nilIface) : QOp Try.prog n R L (.binOp .neq 20 (.tmp 6) (.const .nilIface) 20) (.bool false) := by
  intro d ty pos af g a w hs _
  simp only [execOp, hs.eval hx, hs.eval (show ev L (.const .nilIface) = some .nilIface from rfl)]
  kernel_rfl
theorem q_taErr {n : Cx} {R : World → Prop} {L : Slots} {x : Operand} (hx : ev L x = some (Value.iface 114 (.agg #[]))) : QOp Try.prog n R L (.typeAssert x 20 114 true) (.tuple #[.agg #[], .bool true]) := by
  intro d ty pos af g a w hs _
  simp only [execOp, hs.eval hx]
  kernel_rfl
theorem cl_ret (b2 b3 : Nat) (w : World) : CallsD Try.prog 82 #[.pointer (some ⟨b2, 0, none⟩), .pointer (some ⟨b3, 0, none⟩)] .returning w (fun e u' w' => e = .returned (.tuple #[]) ∧ u' = .returning ∧ w' = w) := by
  refine callsD_of_wpS Try.func82 rfl fun c0 cs hu => ?_
  have hs0 := sl_start (fn := Try.f82) (m := 17) rfl [.pointer (some ⟨b2, 0, none⟩), .pointer (some ⟨b3, 0, none⟩)] (Nat.le_of_ble_eq_true rfl)
  refine wpS_seq (wpS_region ?_)
  show wpOpsS _ _ _ [0, 1] _ _ _
  refine wpOpsS_recN rfl (by simp [recoverD, hu]) ?_
  have hs1 := hs0.put (d := 5) rfl .nilIface
  refine wpOpsS_q rfl (q_pure rfl) hs1 ?_
  have hs2 := hs1.put (d := 2) rfl .nilIface
  refine wpS_cod (R := fun w' => w' = w) hs2 rfl ?_
  refine wpc_seq <| wpc_region <| wpl_q (q_pure rfl) rfl <| wpl_q (q_neNilF rfl) rfl <| wpl_nil <| ex_then ?_
  refine wpc_cond_f rfl ?_
  refine wpc_skip ?_
  exact fun a w1 hs h => ⟨hs.defers, .returning, congrArg (· :: cs) (by rw [← hu]), .tuple #[], results_none rfl _ _ _, rfl, rfl, h⟩
theorem cl_pan (b2 b3 : Nat) (t : HT) (w : World) (hB : Mem w (nums [.blk b2 72 t.c, .blk b3 33 [.int .i64 0]]) [.blk b2 72 t.c, .blk b3 33 [.int .i64 0]] [] w) : CallsD Try.prog 82 #[.pointer (some ⟨b2, 0, none⟩), .pointer (some ⟨b3, 0, none⟩)] (.panicking chainX) w (fun e u' w' => e = .returned (.tuple #[]) ∧ u' = .panicking [{ v := (Value.iface 114 (.agg #[])), recovered := true }] ∧ Mem w (nums [.blk b2 72 t.c, .blk b3 33 [.int .i64 0]]) [.blk b2 72 HT.z.c, .blk b3 33 [.int .i64 12]] [] w') := by
  refine callsD_of_wpS Try.func82 rfl fun c0 cs hu => ?_
  have hs0 := sl_start (fn := Try.f82) (m := 17) rfl [.pointer (some ⟨b2, 0, none⟩), .pointer (some ⟨b3, 0, none⟩)] (Nat.le_of_ble_eq_true rfl)
  refine wpS_seq (wpS_region ?_)
  show wpOpsS _ _ _ [0, 1] _ _ _
  refine wpOpsS_recS (v := (Value.iface 114 (.agg #[]))) (cs' := { c0 with mode := .panicking [{ v := (Value.iface 114 (.agg #[])), recovered := true }] } :: cs) rfl (by simp [recoverD, hu, chainX]) ?_
  have hs1 := hs0.put (d := 5) rfl (Value.iface 114 (.agg #[]))
  refine wpOpsS_q rfl (q_pure rfl) hs1 ?_
  have hs2 := hs1.put (d := 2) rfl (Value.iface 114 (.agg #[]))
  refine wpS_cod (R := Mem w (nums [.blk b2 72 t.c, .blk b3 33 [.int .i64 0]]) [.blk b2 72 t.c, .blk b3 33 [.int .i64 0]] []) hs2 hB ?_
  refine wpc_seq <| wpc_region <| wpl_q (q_pure rfl) rfl <| wpl_q (q_neNilT rfl) rfl <| wpl_nil <| ex_then ?_
  refine wpc_cond_t rfl ?_
  refine wpc_seq <| wpc_seq <| wpc_region <| wpl_q (q_pure rfl) rfl <| wpl_q (q_taErr rfl) rfl <| wpl_q (q_pure rfl) rfl <| wpl_q (q_pure rfl) rfl <| wpl_q (q_pure rfl) rfl ?_
  refine wpl_t (t_alloc Try.ti114 [] rfl) rfl (fun b3 => ?_)
  refine wpl_t0 (t_stA Try.ti114 rfl rfl rfl (fun u hu => by cases hu) rfl) (fun _ => ?_)
  refine wpl_q (q_pure rfl) rfl <| wpl_nil <| ex_then <| wpc_seq <| wpc_region <| wpl_q (q_pure rfl) rfl <| wpl_q (q_pure rfl) rfl <| wpl_nil <| ex_then ?_
  refine wpc_cond_f rfl ?_
  refine wpc_skip <| ex_then <| wpc_region ?_
  refine wpl_q (q_build (cs := HT.z.c) rfl built_oz) rfl ?_
  refine wpl_t0 (t_stA Try.ti72 rfl rfl LenC.h OneC.h LenC.h) (fun _ => ?_)
  refine wpl_t0 (t_st1 Try.ti33 rfl rfl rfl zz3 [.int .i64 12] rfl) (fun _ => ?_)
  refine wpl_nil ?_
  exact fun a w1 hs h => ⟨hs.defers, .panicking [{ v := (Value.iface 114 (.agg #[])), recovered := true }], rfl, .tuple #[], results_none rfl _ _ _, rfl, rfl, h.sub SubC.h .nil⟩
section
variable {n : Cx} {R : World → Prop} {L : Slots}
theorem retD1 {m b2 b3 : Nat} {fn : Func} {post : Ending → World → Prop} {r s : ResultVar} {v u : Value} {e : Exit} (he : e = .ret ∨ e = .normal) (hr : fn.results = #[r, s]) (h1 : RVal Try.prog R L r v) (h2 : RVal Try.prog R L s u)
    (h : ∀ w, R w → post (.returned (.tuple #[v, u])) w) : EX (bodyPostD Try.prog fn post) e ⟨m, [dcl b2 b3]⟩ R L := by
  intro a w hs hw
  have hx := res2 hs hw hr h1 h2
  have key : Leaves Try.prog fn a.tmps post a.defers .returning w := by
    rw [hs.defers]
    refine leaves_cons zz44 (dcl_run b2 b3 w) ((cl_ret b2 b3 w).mono ?_)
    rintro e u' w' ⟨rfl, rfl, rfl⟩
    exact ⟨_, hx, h _ hw⟩
  rcases he with rfl | rfl <;> exact key
theorem panD {m b2 b3 : Nat} {fn : Func} {post : Ending → World → Prop} {w0 w : World} {t : HT} {X : List Ent} {S : List Fact} {a : Act} (hs : Sl ⟨m, [dcl b2 b3]⟩ a L) (hr : fn.results = #[.cell 2 72, .cell 3 33]) (h2 : get L 2 = some (.pointer (some ⟨b2, 0, none⟩))) (h3 : get L 3 = some (.pointer (some ⟨b3, 0, none⟩)))
    (hm : Mem w0 [] X S w) [hX : SelC [.blk b2 72 t.c, .blk b3 33 [.int .i64 0]] X] (h : ∀ w1, Mem w0 [] [.blk b2 72 HT.z.c, .blk b3 33 [.int .i64 12]] [] w1 → post (.returned (.tuple #[.agg HT.z.c.toArray, .int .i64 12])) w1) : Leaves Try.prog fn a.tmps post a.defers (.panicking chainX) w := by
  rw [hs.defers]
  have hm1 : Mem w0 [] [.blk b2 72 t.c, .blk b3 33 [.int .i64 0]] S w := hm.sel
  have hB := Mem.startL w hm1.own hm1.apart
  refine leaves_cons zz44 (dcl_run b2 b3 w) ((cl_pan b2 b3 t w hB).mono ?_)
  rintro e u' w' ⟨rfl, rfl, h4⟩
  have h5 : Mem w0 [] [.blk b2 72 HT.z.c, .blk b3 33 [.int .i64 12]] [] w' := (Mem.framed (X := []) hm1 h4)
  refine ⟨_, res2 (R := Mem w0 [] [.blk b2 72 HT.z.c, .blk b3 33 [.int .i64 12]] []) hs h5 hr (rv_agg Try.underlying72 rfl Try.ti72 h2 (fun w h => h.atB) rfl) (rv_one Try.underlying33 rfl h3 (fun w h => h.cell_blk (by first | exact List.mem_cons_self .. | exact List.mem_cons_of_mem _ (List.mem_cons_self ..)) rfl)), h w' h5⟩
end
end Go.Proofs.Ytgnablliekgbgaa
namespace Go.Proofs.Ytgnablliekgbgaa
open Go Go.PL Go.RowKit
theorem decode0 (av : Value) (xs : List UInt8) (w : World) (hav : Seen w.cell? av xs.length 1 (v8s xs))  :
    Calls Try.prog 48 [av].toArray w (GivesP w (fun y : HT => y.tr = (decP xs).1 ∧ y.sv) (fun y => .tuple #[.agg y.c.toArray, .int .i64 (decP xs).2]) (fun y => y.ents) (fun _ => [])) := by
  have sav := hav.sv
  have lav := sav.le
  simp only [maxLen] at lav
  have sav := hav.sv
  refine enterD (m := 28) (R := Mem w [] [] []) Try.func48 rfl rfl (Nat.le_of_ble_eq_true rfl) (Mem.start w) ?_
  refine wpc_seq <| wpc_region ?_
  refine wpl_t (t_alloc Try.ti72 HT.z.c rfl) rfl (fun b2 => ?_)
  refine wpl_t (t_alloc Try.ti33 [.int .i64 0] rfl) rfl (fun b3 => ?_)
  refine wpl_nil <| ex_then <| wpc_seq <| wpc_seq <| wpc_region <| wpl_q (q_pure rfl) rfl ?_
  refine wpl_q (q_lenW Try.underlying43 rfl zz2) rfl ?_
  refine wpl_q (q_pure rfl) rfl <| wpl_nil <| ex_then ?_
  refine wpc_cond rfl (fun hc7 => ?_) (fun hc7 => ?_)
  ·
   simp only [decide_eq_true_eq] at hc7
   have hR : decP xs = (Tr.z, 4) := by rw [decP, if_pos zz11]
   refine wpc_seq <| wpc_region <| wpl_q (q_ldN Try.underlying72 rfl Try.ti72 rfl LenC.h) rfl ?_
   refine wpl_t0 (t_stA Try.ti72 rfl rfl LenC.h OneC.h LenC.h) (fun _ => ?_)
   refine wpl_t0 (t_st1 Try.ti33 rfl rfl rfl zz3 [.int .i64 4] rfl) (fun _ => ?_)
   refine wpl_nil <| ex_then <| wpc_ret ?_
   refine ex_then_ret ?_
   refine retD0 (.inl rfl) rfl (rv_agg Try.underlying72 rfl Try.ti72 rfl (fun w h => h.atB) LenC.h) (rv_one Try.underlying33 rfl rfl (fun w h => h.cell_blk zz4 rfl)) ?_
   exact fun w1 h => ⟨HT.z, ⟨zz47, SV.nil, SV.nil⟩, by rw [hR], h.below, madeT (tg := 0) (bv := nl) (lv := nl) (bs := []) (l := []) (show Mem w [] [.row nl 0 5 1 [], .row nl 0 72 3 []] [] w1 from ((h.nilRow 72 3).nilRow 5 1).sel)⟩
  ·
   simp only [decide_eq_false_iff_not] at hc7
   have hlx : ¬ 65536 < xs.length := by omega
   refine wpc_skip <| ex_then <| wpc_seq <| wpc_region ?_
   refine wpl_q (q_fn (us := []) (vs := [.pointer (some ⟨b2, 0, none⟩), .pointer (some ⟨b3, 0, none⟩)]) rfl rfl) rfl ?_
   refine wpl_defer rfl (d := dcl b2 b3) rfl ?_
   refine wpl_nil <| ex_then <| wpc_seq <| wpc_region <| wpl_q (q_pure rfl) rfl ?_
   refine wpl_q (q_build (cs := [av]) rfl (built_rd sav)) rfl ?_
   refine wpl_t (t_box rfl [av] rfl) rfl (fun b12 => ?_)
   refine wpl_q (q_pure rfl) rfl <| wpl_nil <| ex_then <| wpc_seq <| wpc_region <| wpl_q (q_pure rfl) rfl ?_
   refine wpl_tp (t_callXQ [.blk b12 118 [av]] [.blk b2 72 HT.z.c, .blk b3 33 [.int .i64 0]] [.blk b12 118 [av], .blk b2 72 HT.z.c, .blk b3 33 [.int .i64 0]] (fun x => .blk b12 118 [x.2.1] :: .blk b2 72 HT.z.c :: .blk b3 33 [.int .i64 0] :: x.1.ents) rfl (fun x _ => List.Perm.cons _ (List.perm_append_comm (l₁ := x.1.ents) (l₂ := [.blk b2 72 HT.z.c, .blk b3 33 [.int .i64 0]]))) Try.hb83 rfl (fun w1 h h2 => value 12 1 b12 av xs w1 h2 (hav.mono (rdo_nil h zz4)) rfl zz11) (fun a w1 hs hb hm => panD (t := HT.z) hs rfl rfl rfl hm (by
     have hR : decP xs = (Tr.z, 12) := by rw [decP, if_neg hlx, hb]
     exact fun w1 h => ⟨HT.z, ⟨zz47, SV.nil, SV.nil⟩, by rw [hR], h.below, madeT (tg := 0) (bv := nl) (lv := nl) (bs := []) (l := []) (show Mem w [] [.row nl 0 5 1 [], .row nl 0 72 3 []] [] w1 from ((h.nilRow 72 3).nilRow 5 1).sel)⟩))) rfl (fun b14 p14 => ?_)
   haveI := p14.2.1.one
   have hts := takeP_size _ _ _ _ p14.1
   have htl := takeP_le p14.1
   have svr := (p14.2.2 _ hav).sv
   have hdl : (xs.drop b14.2.2).length = xs.length - b14.2.2 := List.length_drop
   have hsm : Sm b14.1.tr := by unfold Sm; omega
   have hdp : b14.1.tr.dep ≤ 1000000 := by omega
   refine wpl_t0 (t_stA Try.ti72 rfl rfl LenC.h OneC.h LenC.h) (fun _ => ?_)
   refine wpl_nil <| ex_then <| wpc_seq <| wpc_region <| wpl_q (q_pure rfl) rfl <| wpl_q (q_pure rfl) rfl <| wpl_q (q_field Try.underlying118 rfl Try.ti43 rfl rfl _ rfl) rfl <| wpl_q (q_ld Try.underlying43 rfl rfl rfl) rfl ?_
   refine wpl_q (q_lenW Try.underlying43 rfl zz2) rfl ?_
   refine wpl_q (q_pure rfl) rfl <| wpl_q (q_pure rfl) rfl ?_
   refine wpl_bool2 21 20 rfl rfl (fun hb21 => ?_) (fun hb21 => ?_)
   ·
    have heq : b14.2.2 = xs.length := by first | (simp only [beq_iff_eq] at hb21; omega) | (simp only [decide_eq_true_eq] at hb21; omega)
    refine wpl_on rfl rfl <| wpl_q (q_ldN Try.underlying72 rfl Try.ti72 rfl LenC.h) rfl <| wpl_on rfl rfl ?_
    refine wpl_t (t_pur Try.hb72 rfl fun w h => check b14.1 w (Mem.hseen h) hsm zz11) rfl (fun b23 => ?_)
    refine wpl_on rfl rfl <| wpl_q (q_pure rfl) rfl <| wpl_q (q_pure rfl) rfl ?_
    refine wpl_tp (t_callXQ [] (.blk b2 72 b14.1.c :: .blk b3 33 [.int .i64 0] :: b14.1.ents) (.blk b2 72 b14.1.c :: .blk b3 33 [.int .i64 0] :: b14.1.ents) (fun _ => .blk b2 72 b14.1.c :: .blk b3 33 [.int .i64 0] :: b14.1.ents) rfl (fun _ _ => .refl _) Try.hb84 rfl (fun w1 _ _ => must _ w1) (fun a w1 hs hb hm => panD (t := b14.1) hs rfl rfl rfl hm (by
      have hR : decP xs = (Tr.z, 12) := (by first | (rw [decP, if_neg hlx, p14.1]; exact if_neg (fun h => hne h.1)) | (rw [decP, if_neg hlx, p14.1]; exact if_neg (fun h => (show ¬ checkF b14.1.tr = 0 by simpa using hb) h.2)))
      exact fun w1 h => ⟨HT.z, ⟨zz47, SV.nil, SV.nil⟩, by rw [hR], h.below, madeT (tg := 0) (bv := nl) (lv := nl) (bs := []) (l := []) (show Mem w [] [.row nl 0 5 1 [], .row nl 0 72 3 []] [] w1 from ((h.nilRow 72 3).nilRow 5 1).sel)⟩))) rfl (fun b26 p26 => ?_)
    have hck : checkF b14.1.tr = 0 := by simpa using p26
    have hR : decP xs = (b14.1.tr, 0) := by rw [decP, if_neg hlx, p14.1]; exact if_pos ⟨heq, hck⟩
    refine wpl_nil <| ex_then <| wpc_seq <| wpc_region <| wpl_q (q_ldN Try.underlying72 rfl Try.ti72 rfl LenC.h) rfl ?_
    refine wpl_t0 (t_stA Try.ti72 rfl rfl LenC.h OneC.h LenC.h) (fun _ => ?_)
    refine wpl_t0 (t_st1 Try.ti33 rfl rfl rfl zz3 [.int .i64 0] rfl) (fun _ => ?_)
    refine wpl_nil <| ex_then <| wpc_ret ?_
    refine retD1 (.inl rfl) rfl (rv_agg Try.underlying72 rfl Try.ti72 rfl (fun w h => h.atB) LenC.h) (rv_one Try.underlying33 rfl rfl (fun w h => h.cell_blk zz4 rfl)) ?_
    exact fun w1 h => ⟨b14.1, ⟨by rw [hR], p14.2.1⟩, by rw [hR], h.below, h.made SubC.h .nil⟩
   ·
    have hne : b14.2.2 ≠ xs.length := by first | (simp only [beq_eq_false_iff_ne, ne_eq] at hb21; omega) | (simp only [decide_eq_false_iff_not] at hb21; omega)
    refine wpl_off rfl rfl rfl rfl <| wpl_off rfl rfl rfl rfl <| wpl_off rfl rfl rfl rfl <| wpl_q (q_pure rfl) rfl ?_
    refine wpl_tp (t_callXQ [] (.blk b2 72 b14.1.c :: .blk b3 33 [.int .i64 0] :: b14.1.ents) (.blk b2 72 b14.1.c :: .blk b3 33 [.int .i64 0] :: b14.1.ents) (fun _ => .blk b2 72 b14.1.c :: .blk b3 33 [.int .i64 0] :: b14.1.ents) rfl (fun _ _ => .refl _) Try.hb84 rfl (fun w1 _ _ => must _ w1) (fun a w1 hs hb hm => panD (t := b14.1) hs rfl rfl rfl hm (by
      have hR : decP xs = (Tr.z, 12) := (by first | (rw [decP, if_neg hlx, p14.1]; exact if_neg (fun h => hne h.1)) | (rw [decP, if_neg hlx, p14.1]; exact if_neg (fun h => (show ¬ checkF b14.1.tr = 0 by simpa using hb) h.2)))
      exact fun w1 h => ⟨HT.z, ⟨zz47, SV.nil, SV.nil⟩, by rw [hR], h.below, madeT (tg := 0) (bv := nl) (lv := nl) (bs := []) (l := []) (show Mem w [] [.row nl 0 5 1 [], .row nl 0 72 3 []] [] w1 from ((h.nilRow 72 3).nilRow 5 1).sel)⟩))) rfl (fun b26 p26 => ?_)
    cases p26
theorem decode (av : Value) (xs : List UInt8) (w : World) (hav : Seen w.cell? av xs.length 1 (v8s xs)) : Calls Try.prog 48 [av].toArray w (GivesP w (fun y : HT => y.tr = (decF xs).1 ∧ y.sv) (fun y => .tuple #[.agg y.c.toArray, .int .i64 (decF xs).2]) (fun y => y.ents) (fun _ => [])) := by
  have h := decode0 av xs w hav
  rw [decP_eq] at h
  exact h
end Go.Proofs.Ytgnablliekgbgaa
namespace Go.Proofs.Ytgnablliekgbgaa
open Go Go.PL Go.RowKit
theorem checkF_ok {t : Tr} (h : checkF t = 0) : t.cnt ≤ 4000 ∧ t.dep ≤ 12 ∧ t.shp = true ∧ t.siz ≤ 65536 := by
  unfold checkF at h
  split at h
  · cases h
  · split at h
    · cases h
    · split at h
      · cases h
      · rename_i h1 h2 h3
        exact ⟨zz11, zz11, by simpa using h2, zz11⟩
theorem dec_enc {t : Tr} (hs : Sm t) (h : checkF t = 0) : decF (enc t) = (t, 0) := by
  obtain ⟨_, h2, h3, h4⟩ := checkF_ok h
  have q := take_enc t hs h3 12 [] h2
  rw [List.append_nil] at q
  rw [decF, if_neg (by rw [enc_len t hs]; omega), q]
  exact if_pos ⟨rfl, h⟩
theorem decF_sm (xs : List UInt8) : Sm (decF xs).1 ∧ (decF xs).1.dep ≤ 12 := by
  unfold decF
  split
  · exact ⟨by unfold Sm; decide, zz18⟩
  · split
    · rename_i t m e
      have q := takeF_size _ _ _ _ e
      have q2 := takeF_le e
      split
      · exact ⟨by show t.byt + 5 * t.cnt ≤ _; omega, q.2⟩
      · exact ⟨by unfold Sm; decide, zz18⟩
    · exact ⟨by unfold Sm; decide, zz18⟩
theorem dec_inv {xs : List UInt8} (h : (decF xs).2 = 0) : checkF (decF xs).1 = 0 ∧ enc (decF xs).1 = xs := by
  unfold decF at h ⊢
  split at h
  · cases h
  · rename_i h1
    rw [if_neg h1]
    split at h
    · rename_i t m e
      split at h
      · rename_i h2
        rw [if_pos h2]
        refine ⟨h2.2, ?_⟩
        have q := (take_inv _ _ _ _ zz11 e).1
        rw [← q, h2.1, List.take_length]
      · cases h
    · cases h
end Go.Proofs.Ytgnablliekgbgaa
namespace Go.Proofs.Ytgnablliekgbgaa
open Go Go.PL Go.RowKit
section
variable {P : Program} {n : Cx} {L : Slots} {Q : Exit → Act → World → Prop} {w0 : World} {Ln : List Nat} {M : List Ent} {S : List Fact}
theorem t_callW {f : Operand} {k : FuncId} {first cap : Array Value} {args : Array Operand} {at_ : Array TypeId} {vs : List Value} {ι : Type} {p : ι → Prop} {V : ι → Value} {N : ι → List Ent} (M1 X A : List Ent) (Z : ι → List Ent) (T : ι → List Fact) (hA : M1 ++ X = A) [hM : SelC A M]
    (hZ : ∀ x w', p x → Mem w0 Ln (N x ++ X) S w' → Mem w0 Ln (Z x) (T x) w') (hf : ev L f = some (.func (.func k) first cap)) (hb : HasBody P k) (hv : evs L args.toList = some vs)
    (hc : ∀ w, Mem w0 Ln M S w → Mem w (nums M1) M1 [] w → Calls P k (first ++ vs.toArray ++ cap) w (GivesA w M1 p V N)) :
    TOpP P Q n (Mem w0 Ln M S) L (.call { callee := .value f, args := args, argTypes := at_ }) ι p V (fun x => Mem w0 Ln (Z x) (T x)) := by
  have h : TOp P Q n (Mem w0 Ln M S) L (.call { callee := .value f, args := args, argTypes := at_ }) { x : ι // p x } (fun x => V x.1) (fun x => Mem w0 Ln (Z x.1) (T x.1)) := by
    intro d ty pos af g a w K hs hm0 hk
    subst hA
    have hm := hm0.selP hM.h
    have hargs : args.map a.eval = vs.toArray := by
      have e : (args.map a.eval).toList = vs := by rw [Array.toList_map]; exact evs_eval hs hv
      rw [← e]
    have hrun : (execOp a.eval ⟨d, .call { callee := .value f, args := args, argTypes := at_ }, ty, pos, af, g⟩).run P w = .ok (.enter k (first ++ vs.toArray ++ cap)) w := by
      simp only [execOp, resolve, hs.eval hf, hargs]
      simp [Deferred.ofValue, invoke, run_callFunc hb]
    unfold Oper.wp
    rw [hrun]
    refine (hc w hm0 (Mem.startL w (fun e he => hm.own e (List.mem_append_left _ he)) (List.pairwise_append.1 hm.apart).1)).mono ?_
    rintro e w' ⟨x, hp, rfl, h⟩
    exact hk ⟨x, hp⟩ w' (hZ x w' hp (((hm.perm List.perm_append_comm).framedS h).perm List.perm_append_comm))
  exact h.rep fun x w h => ⟨x.1, x.2, rfl, h⟩
end
def orE (a b : Int) : Int := if a ≠ 0 then a else b
theorem orE_0 {a b : Int} : orE a b = 0 ↔ a = 0 ∧ b = 0 := by unfold orE; split <;> omega
theorem cmpOr (v : Value) (a b : Int) (w : World) (hv : Seen w.cell? v 2 1 [.int .i64 a, .int .i64 b])  :
    Calls Try.prog 50 [v].toArray w (Pur w (.int .i64 (orE a b))) := by
  have sv := hv.sv
  refine enter (m := 18) (R := Mem w [] [] []) Try.func50 rfl rfl (Nat.le_of_ble_eq_true rfl) (Mem.start w) ?_
  refine wpc_seq <| wpc_region <| wpl_q (q_pure rfl) rfl <| wpl_nil <| ex_then <| wpc_seq <| wpc_region <| wpl_q (q_pure rfl) rfl <| wpl_nil <| ex_then <| wpc_seq <| wpc_seq ?_
  refine wpc_region <| wpl_q (q_pure rfl) rfl ?_
  refine wpl_q (q_lenW Try.underlying121 rfl zz2) rfl ?_
  refine wpl_q (q_pure rfl) rfl <| wpl_nil <| ex_then <| wpc_block ?_
  refine wpc_loopc (ι := { x : Nat // (x ≤ 2) ∧ (1 ≤ x → a = 0) ∧ (2 ≤ x → b = 0) }) [(3, _), (6, _), (7, _)] (fun x Lc => (8, .int .i64 ((x.1 : Nat) : Int)) :: Lc) (fun x => Mem w [] [] []) (fun x => 2 - x.1) ⟨0, ⟨Nat.zero_le _, zz11, zz11⟩⟩ zz7 ?_ ?_
  ·
   exact fun w h => h
  ·
   rintro ⟨i, ⟨hi0, hi1, hi2⟩⟩; try dsimp only
   have hi0 : i ≤ 2 := hi0; have hi1 : 1 ≤ i → a = 0 := hi1; have hi2 : 2 ≤ i → b = 0 := hi2
   refine wpc_seq <| wpc_region <| wpl_q (q_pure rfl) rfl <| wpl_nil <| ex_then <| wpc_seq ?_
   refine wpc_cond rfl (fun hc9 => ?_) (fun hc9 => ?_)
   ·
    simp only [decide_eq_true_eq] at hc9
    have hil : i < 2 := by omega
    have hget : [Value.int .i64 a, Value.int .i64 b][i]? = some (.int .i64 (if i = 0 then a else b)) := by rcases (show i = 0 ∨ i = 1 from zz11) with rfl | rfl <;> rfl
    refine wpc_skip <| ex_then <| wpc_seq <| wpc_block <| wpc_seq <| wpc_region ?_
    refine wpl_q (q_idxW1 Try.underlying121 Try.ti33 rfl rfl zz2 zz0) rfl ?_
    refine wpl_q (q_ldW Try.underlying33 rfl rfl (fun w h => h.seen_old hv) hget) rfl ?_
    refine wpl_q (q_pure rfl) rfl <| wpl_nil <| ex_then <| wpc_seq <| wpc_region <| wpl_q (q_pure rfl) rfl <| wpl_q (q_pure rfl) rfl <| wpl_q (q_pure rfl) rfl <| wpl_nil <| ex_then ?_
    refine wpc_cond rfl (fun hc14 => ?_) (fun hc14 => ?_)
    ·
     have hgn : ¬ (if i = 0 then a else b) = 0 := by simpa using hc14
     refine wpc_seq <| wpc_region <| wpl_q (q_pure rfl) rfl <| wpl_q (q_pure rfl) rfl <| wpl_nil <| ex_then <| wpc_ret ?_
     refine ex_block_ret ?_
     refine ex_then_ret ?_
     refine ex_then_ret ?_
     refine ex_block_ret ?_
     refine ex_then_ret ?_
     refine ret1 (.inl rfl) rfl rfl ?_
     exact fun w h => ⟨by
       rcases (show i = 0 ∨ i = 1 from zz11) with rfl | rfl
       · have hgn : ¬ a = 0 := hgn
         rw [orE, if_pos hgn]; rfl
       · have := hi1 (Nat.le_refl _); rw [orE, if_neg (show ¬ a ≠ 0 from zz11)]; rfl, h.below⟩
    ·
     have hgi : (if i = 0 then a else b) = 0 := by simpa using hc14
     refine wpc_skip <| ex_block <| ex_then <| wpc_region ?_
     refine wpl_q (q_addN (b := 1) rfl rfl zz0) rfl ?_
     refine wpl_q (q_pure rfl) rfl <| wpl_nil ?_
     refine ex_again ⟨i + 1, ⟨(show i + 1 ≤ 2 from zz11), (fun _ => (by rcases (show i = 0 ∨ i = 1 from zz11) with h0 | h1; exact (by rw [h0] at hgi; exact hgi); exact hi1 zz11)), (fun (h2 : 2 ≤ i + 1) => (by rw [show i = 1 from zz11] at hgi; exact hgi))⟩⟩ ?_ ?_ ?_
     ·
      exact zz7
     ·
      exact fun w h => h
     ·
      (show 2 - (i + 1) < 2 - i); omega
   ·
    simp only [decide_eq_false_iff_not] at hc9
    obtain rfl : i = 2 := by omega
    refine wpc_exit ?_
    refine ex_then_exit ?_
    refine ex_then_exit ?_
    refine ex_block_hit ?_
    refine ex_then <| wpc_seq <| wpc_region <| wpl_q (q_pure rfl) rfl <| wpl_q (q_pure rfl) rfl <| wpl_nil <| ex_then <| wpc_ret ?_
    refine ret1 (.inl rfl) rfl rfl ?_
    exact fun w h => ⟨by rw [orE, if_neg (by have := hi1 zz11; omega), hi2 (Nat.le_refl _)], h.below⟩
theorem failC (x : Int) (b : Nat) (cur : Int) (w : World)  (hB : Mem w (nums [.blk b 33 [.int .i64 cur]]) [.blk b 33 [.int .i64 cur]] [] w) :
    Calls Try.prog 49 [.int .i64 x, .pointer (some ⟨b, 0, none⟩)].toArray w (GivesA w [.blk b 33 [.int .i64 cur]] (fun _ : Unit => True) (fun _ => .tuple #[]) (fun _ => [.blk b 33 [.int .i64 (orE cur x)]])) := by
  refine enter (m := 7) (R := Mem w (nums [.blk b 33 [.int .i64 cur]]) [.blk b 33 [.int .i64 cur]] []) Try.func49 rfl rfl (Nat.le_of_ble_eq_true rfl) hB ?_
  refine wpc_region ?_
  refine wpl_q (q_ld Try.underlying33 rfl rfl zz23) rfl ?_
  refine wpl_q (q_pure rfl) rfl ?_
  refine wpl_tp (t_bsV [.int .i64 cur, .int .i64 x] Try.underlying121 Try.ti33 rfl rfl zz18 zz18 rfl OneC.h) rfl (fun b5 p5 => ?_)
  refine wpl_t (t_pur Try.hb50 rfl fun w h => cmpOr b5 cur x w h.seenV) rfl (fun b6 => ?_)
  refine wpl_t0 (t_st1 Try.ti33 rfl rfl rfl zz3 [.int .i64 (orE cur x)] rfl) (fun _ => ?_)
  refine wpl_nil ?_
  refine ret0 (.inr rfl) rfl ?_
  exact fun w1 h => ⟨(), trivial, rfl, h.sub SubC.h .nil⟩
end Go.Proofs.Ytgnablliekgbgaa
namespace Go.Proofs.Ytgnablliekgbgaa
open Go Go.PL Go.RowKit
theorem rdrNum (eb : Nat) (t : HT) (g : UInt8) (mx : UInt64) (cur : Int) (w : World) (hB : Mem w (nums [.blk eb 33 [.int .i64 cur]]) [.blk eb 33 [.int .i64 cur]] [] w) (ht : HSeen (rdO (nums [.blk eb 33 [.int .i64 cur]]) w) t)  :
    Calls Try.prog 51 [.agg #[.func (.func 49) #[] #[.pointer (some ⟨eb, 0, none⟩)]], .agg t.c.toArray, .int .u8 g.toNat, .int .u64 mx.toNat].toArray w (GivesA w [.blk eb 33 [.int .i64 cur]] (fun _ : Unit => True) (fun _ => .int .u64 ((rdNum t.tr g mx).1.toNat : Int)) (fun _ => [.blk eb 33 [.int .i64 (orE cur (((rdNum t.tr g mx).2 : Nat) : Int))]])) := by
  haveI := ht.sv.one
  refine enter (m := 23) (R := Mem w (nums [.blk eb 33 [.int .i64 cur]]) [.blk eb 33 [.int .i64 cur]] []) Try.func51 rfl rfl (Nat.le_of_ble_eq_true rfl) hB ?_
  refine wpc_seq <| wpc_region ?_
  refine wpl_t (t_box rfl [(.func (.func 49) #[] #[.pointer (some ⟨eb, 0, none⟩)])] rfl) rfl (fun b4 => ?_)
  refine wpl_t (t_box rfl t.c rfl) rfl (fun b5 => ?_)
  refine wpl_q (q_pure rfl) rfl <| wpl_nil <| ex_then <| wpc_seq <| wpc_region <| wpl_q (q_ldN Try.underlying72 rfl Try.ti72 rfl LenC.h) rfl <| wpl_q (q_pure rfl) rfl <| wpl_q (q_pure rfl) rfl ?_
  refine wpl_t (t_pur Try.hb85 rfl fun w h => octReadNum t g mx w (ht.mono (rdo_old h))) rfl (fun b15 => ?_)
  refine wpl_q (q_pure rfl) rfl <| wpl_q (q_pure rfl) rfl <| wpl_q (q_pure rfl) rfl <| wpl_q (q_pure rfl) rfl <| wpl_q (q_pure rfl) rfl <| wpl_nil <| ex_then <| wpc_seq <| wpc_region <| wpl_q (q_field Try.underlying84 rfl Try.ti82 rfl rfl _ rfl) rfl <| wpl_q (q_ld Try.underlying82 rfl rfl rfl) rfl <| wpl_q (q_pure rfl) rfl ?_
  refine wpl_tp (t_callW (N := fun _ : Unit => [.blk eb 33 [.int .i64 (orE cur (((rdNum t.tr g mx).2 : Nat) : Int))]]) [.blk eb 33 [.int .i64 cur]] [.blk b5 72 t.c, .blk b4 84 [(.func (.func 49) #[] #[.pointer (some ⟨eb, 0, none⟩)])]] [.blk eb 33 [.int .i64 cur], .blk b5 72 t.c, .blk b4 84 [(.func (.func 49) #[] #[.pointer (some ⟨eb, 0, none⟩)])]] (fun _ => [.blk eb 33 [.int .i64 (orE cur (((rdNum t.tr g mx).2 : Nat) : Int))], .blk b5 72 t.c, .blk b4 84 [(.func (.func 49) #[] #[.pointer (some ⟨eb, 0, none⟩)])]]) (fun _ => []) rfl (fun _ _ _ h => h) rfl Try.hb49 rfl fun w h h2 => failC (((rdNum t.tr g mx).2 : Nat) : Int) eb cur w h2) rfl (fun b21 p21 => ?_)
  refine wpl_nil <| ex_then <| wpc_seq <| wpc_region <| wpl_q (q_pure rfl) rfl <| wpl_q (q_pure rfl) rfl <| wpl_nil <| ex_then <| wpc_ret ?_
  refine ret1 (.inl rfl) rfl rfl ?_
  exact fun w1 h => ⟨(), trivial, rfl, h.sub SubC.h .nil⟩
theorem rdrStr (eb : Nat) (t : HT) (g : UInt8) (mx : Int) (cur : Int) (w : World) (hB : Mem w (nums [.blk eb 33 [.int .i64 cur]]) [.blk eb 33 [.int .i64 cur]] [] w) (ht : HSeen (rdO (nums [.blk eb 33 [.int .i64 cur]]) w) t)  :
    Calls Try.prog 53 [.agg #[.func (.func 49) #[] #[.pointer (some ⟨eb, 0, none⟩)]], .agg t.c.toArray, .int .u8 g.toNat, .int .i64 mx].toArray w (GivesA w [.blk eb 33 [.int .i64 cur]] (fun _ : Unit => True) (fun _ => str (rdStr t.tr g mx).1) (fun _ => [.blk eb 33 [.int .i64 (orE cur (((rdStr t.tr g mx).2 : Nat) : Int))]])) := by
  haveI := ht.sv.one
  refine enter (m := 23) (R := Mem w (nums [.blk eb 33 [.int .i64 cur]]) [.blk eb 33 [.int .i64 cur]] []) Try.func53 rfl rfl (Nat.le_of_ble_eq_true rfl) hB ?_
  refine wpc_seq <| wpc_region ?_
  refine wpl_t (t_box rfl [(.func (.func 49) #[] #[.pointer (some ⟨eb, 0, none⟩)])] rfl) rfl (fun b4 => ?_)
  refine wpl_t (t_box rfl t.c rfl) rfl (fun b5 => ?_)
  refine wpl_q (q_pure rfl) rfl <| wpl_nil <| ex_then <| wpc_seq <| wpc_region <| wpl_q (q_ldN Try.underlying72 rfl Try.ti72 rfl LenC.h) rfl <| wpl_q (q_pure rfl) rfl <| wpl_q (q_pure rfl) rfl ?_
  refine wpl_t (t_pur Try.hb87 rfl fun w h => octReadStr t g mx w (ht.mono (rdo_old h))) rfl (fun b15 => ?_)
  refine wpl_q (q_pure rfl) rfl <| wpl_q (q_pure rfl) rfl <| wpl_q (q_pure rfl) rfl <| wpl_q (q_pure rfl) rfl <| wpl_q (q_pure rfl) rfl <| wpl_nil <| ex_then <| wpc_seq <| wpc_region <| wpl_q (q_field Try.underlying84 rfl Try.ti82 rfl rfl _ rfl) rfl <| wpl_q (q_ld Try.underlying82 rfl rfl rfl) rfl <| wpl_q (q_pure rfl) rfl ?_
  refine wpl_tp (t_callW (N := fun _ : Unit => [.blk eb 33 [.int .i64 (orE cur (((rdStr t.tr g mx).2 : Nat) : Int))]]) [.blk eb 33 [.int .i64 cur]] [.blk b5 72 t.c, .blk b4 84 [(.func (.func 49) #[] #[.pointer (some ⟨eb, 0, none⟩)])]] [.blk eb 33 [.int .i64 cur], .blk b5 72 t.c, .blk b4 84 [(.func (.func 49) #[] #[.pointer (some ⟨eb, 0, none⟩)])]] (fun _ => [.blk eb 33 [.int .i64 (orE cur (((rdStr t.tr g mx).2 : Nat) : Int))], .blk b5 72 t.c, .blk b4 84 [(.func (.func 49) #[] #[.pointer (some ⟨eb, 0, none⟩)])]]) (fun _ => []) rfl (fun _ _ _ h => h) rfl Try.hb49 rfl fun w h h2 => failC (((rdStr t.tr g mx).2 : Nat) : Int) eb cur w h2) rfl (fun b21 p21 => ?_)
  refine wpl_nil <| ex_then <| wpc_seq <| wpc_region <| wpl_q (q_pure rfl) rfl <| wpl_q (q_pure rfl) rfl <| wpl_nil <| ex_then <| wpc_ret ?_
  refine ret1 (.inl rfl) rfl rfl ?_
  exact fun w1 h => ⟨(), trivial, rfl, h.sub SubC.h .nil⟩
end Go.Proofs.Ytgnablliekgbgaa
namespace Go.Proofs.Ytgnablliekgbgaa
open Go Go.PL Go.RowKit
def lsT (t : Tr) (g : UInt8) (lo hi : Nat) : List Tr := if badL g lo hi t then List.replicate lo Tr.z else t.kids
theorem lsT_bad {t : Tr} {g : UInt8} {lo hi : Nat} (h : (((rdSeq t g lo hi).2 : Nat) : Int) ≠ 0) : lsT t g lo hi = List.replicate lo Tr.z := by
  unfold rdSeq at h
  split at h
  · exact if_pos ‹_›
  · exact absurd rfl h
theorem lsT_ok {t : Tr} {g : UInt8} {lo hi : Nat} (h : (((rdSeq t g lo hi).2 : Nat) : Int) = 0) : (rdSeq t g lo hi).1 = lsT t g lo hi := by
  unfold rdSeq at h ⊢
  unfold lsT
  split at h
  · cases h
  · rw [if_neg ‹_›, if_neg ‹_›]
theorem trs_rep : ∀ n : Nat, trs (List.replicate n HT.z) = List.replicate n Tr.z
  | 0 => rfl
  | n + 1 => by rw [List.replicate_succ, List.replicate_succ, ← trs_rep n]; rfl
theorem hcs_rep : ∀ n : Nat, (List.replicate n [Value.int .u8 0, nl, nl]).flatten = hcs (List.replicate n HT.z)
  | 0 => rfl
  | n + 1 => by rw [List.replicate_succ, List.replicate_succ, List.flatten_cons, hcs_rep n]; rfl
theorem mem_reps {w0 w : World} {Ln : List Nat} {S : List Fact} : ∀ (n : Nat) {M : List Ent}, Mem w0 Ln M S w → Mem w0 Ln (entsL (List.replicate n HT.z) ++ M) S w
  | 0, M, h => h
  | n + 1, M, h => by
    have h2 := mem_reps n h
    have h3 := (h2.nilRow 72 3).nilRow 5 1
    exact h3
theorem mem_mk {w0 w : World} {Ln : List Nat} {S : List Fact} {e : Ent} {v : Value} {n : Nat} (h : Mem w0 Ln [.row v n 72 3 (hcs (List.replicate n HT.z)), e] S w) : Mem w0 Ln (e :: rowsL v (List.replicate n HT.z)) S w := by
  have h2 := (mem_reps n h).perm (List.perm_append_comm (l₁ := entsL (List.replicate n HT.z)) (l₂ := [.row v n 72 3 (hcs (List.replicate n HT.z)), e]))
  have h3 := h2.perm (List.Perm.swap _ _ _)
  rw [rowsL, List.length_replicate]
  exact h3
theorem sv_rep {x : HT} {n : Nat} (h : x ∈ List.replicate n HT.z) : x.sv := by rw [(List.mem_replicate.1 h).2]; exact ⟨SV.nil, SV.nil⟩
theorem rdrList (eb : Nat) (t : HT) (g : UInt8) (lo : Nat) (hi : Nat) (cur : Int) (w : World) (hB : Mem w (nums [.blk eb 33 [.int .i64 cur]]) [.blk eb 33 [.int .i64 cur]] [] w) (ht : HSeen (rdO (nums [.blk eb 33 [.int .i64 cur]]) w) t) (hsm : Sm t.tr) (hlo : lo ≤ 10) :
    Calls Try.prog 52 [.agg #[.func (.func 49) #[] #[.pointer (some ⟨eb, 0, none⟩)]], .agg t.c.toArray, .int .u8 g.toNat, .int .i64 ((lo : Nat) : Int), .int .i64 ((hi : Nat) : Int)].toArray w (GivesA w [.blk eb 33 [.int .i64 cur]] (fun y : Value × List HT => trs y.2 = lsT t.tr g lo hi ∧ SV y.1 y.2.length ∧ ∀ x ∈ y.2, x.sv) (fun y => y.1) (fun y => .blk eb 33 [.int .i64 (orE cur (((rdSeq t.tr g lo hi).2 : Nat) : Int))] :: rowsL y.1 y.2)) := by
  haveI := ht.sv.one
  refine enter (m := 30) (R := Mem w (nums [.blk eb 33 [.int .i64 cur]]) [.blk eb 33 [.int .i64 cur]] []) Try.func52 rfl rfl (Nat.le_of_ble_eq_true rfl) hB ?_
  refine wpc_seq <| wpc_region ?_
  refine wpl_t (t_box rfl [(.func (.func 49) #[] #[.pointer (some ⟨eb, 0, none⟩)])] rfl) rfl (fun b5 => ?_)
  refine wpl_t (t_box rfl t.c rfl) rfl (fun b6 => ?_)
  refine wpl_q (q_pure rfl) rfl <| wpl_nil <| ex_then <| wpc_seq <| wpc_region <| wpl_q (q_ldN Try.underlying72 rfl Try.ti72 rfl LenC.h) rfl <| wpl_q (q_pure rfl) rfl <| wpl_q (q_pure rfl) rfl <| wpl_q (q_pure rfl) rfl ?_
  refine wpl_tp (t_callE (fun y : Value × List HT => .blk b6 72 t.c :: .blk b5 84 [(.func (.func 49) #[] #[.pointer (some ⟨eb, 0, none⟩)])] :: .blk eb 33 [.int .i64 cur] :: .row y.1 y.2.length 72 3 (hcs y.2) :: entsL y.2) (fun y => List.perm_append_comm (l₁ := .row y.1 y.2.length 72 3 (hcs y.2) :: entsL y.2) (l₂ := [.blk b6 72 t.c, .blk b5 84 [(.func (.func 49) #[] #[.pointer (some ⟨eb, 0, none⟩)])], .blk eb 33 [.int .i64 cur]])) Try.hb86 rfl fun w h => octReadSeq t g lo hi w (ht.mono (rdo_old h)) hsm) rfl (fun b18 p18 => ?_)
  refine wpl_q (q_pure rfl) rfl <| wpl_q (q_pure rfl) rfl <| wpl_q (q_pure rfl) rfl <| wpl_q (q_pure rfl) rfl <| wpl_q (q_pure rfl) rfl <| wpl_nil <| ex_then <| wpc_seq <| wpc_seq <| wpc_region <| wpl_q (q_field Try.underlying84 rfl Try.ti82 rfl rfl _ rfl) rfl <| wpl_q (q_ld Try.underlying82 rfl rfl rfl) rfl ?_
  refine wpl_q (q_pure rfl) rfl ?_
  refine wpl_tp (t_callW (N := fun _ : Unit => [.blk eb 33 [.int .i64 (orE cur (((rdSeq t.tr g lo hi).2 : Nat) : Int))]]) [.blk eb 33 [.int .i64 cur]] (.blk b6 72 t.c :: .blk b5 84 [(.func (.func 49) #[] #[.pointer (some ⟨eb, 0, none⟩)])] :: .row b18.1 b18.2.length 72 3 (hcs b18.2) :: entsL b18.2) (.blk eb 33 [.int .i64 cur] :: .blk b6 72 t.c :: .blk b5 84 [(.func (.func 49) #[] #[.pointer (some ⟨eb, 0, none⟩)])] :: .row b18.1 b18.2.length 72 3 (hcs b18.2) :: entsL b18.2) (fun _ => .blk eb 33 [.int .i64 (orE cur (((rdSeq t.tr g lo hi).2 : Nat) : Int))] :: .blk b6 72 t.c :: .blk b5 84 [(.func (.func 49) #[] #[.pointer (some ⟨eb, 0, none⟩)])] :: .row b18.1 b18.2.length 72 3 (hcs b18.2) :: entsL b18.2) (fun _ => []) rfl (fun _ _ _ h => h) rfl Try.hb49 rfl fun w h h2 => failC (((rdSeq t.tr g lo hi).2 : Nat) : Int) eb cur w h2) rfl (fun b24 p24 => ?_)
  refine wpl_nil <| ex_then <| wpc_seq <| wpc_region <| wpl_q (q_pure rfl) rfl <| wpl_q (q_pure rfl) rfl <| wpl_nil <| ex_then ?_
  refine wpc_cond rfl (fun hc26 => ?_) (fun hc26 => ?_)
  ·
   have hN : (((rdSeq t.tr g lo hi).2 : Nat) : Int) ≠ 0 := by simpa using hc26
   refine wpc_seq <| wpc_region <| wpl_q (q_pure rfl) rfl ?_
   refine wpl_tp (t_mkW Try.underlying70 Try.ti72 rfl rfl zz0 zz0 zz0 (hcs (List.replicate lo HT.z)) rfl (hcs_rep lo)) rfl (fun b28 p28 => ?_)
   refine wpl_q (q_pure rfl) rfl <| wpl_nil <| ex_then <| wpc_ret ?_
   refine ex_then_ret ?_
   refine ret1 (.inl rfl) rfl rfl ?_
   exact fun w1 h => ⟨(b28, List.replicate lo HT.z), ⟨by rw [lsT_bad hN]; exact trs_rep lo, by show SV b28 (List.replicate lo HT.z).length; rw [List.length_replicate]; exact p28, fun x hx => sv_rep hx⟩, rfl, mem_mk ((show Mem w (nums [.blk eb 33 [.int .i64 cur]]) [.row b28 lo 72 3 (hcs (List.replicate lo HT.z)), .blk eb 33 [.int .i64 (orE cur (((rdSeq t.tr g lo hi).2 : Nat) : Int))]] [] w1 from h.sub SubC.h .nil))⟩
  ·
   have hZ : (((rdSeq t.tr g lo hi).2 : Nat) : Int) = 0 := by simpa using hc26
   refine wpc_skip <| ex_then <| wpc_seq <| wpc_region <| wpl_q (q_pure rfl) rfl <| wpl_q (q_pure rfl) rfl <| wpl_nil <| ex_then <| wpc_ret ?_
   refine ret1 (.inl rfl) rfl rfl ?_
   exact fun w1 h => ⟨(b18.1, b18.2), ⟨p18.1.trans (lsT_ok hZ), p18.2.1, p18.2.2⟩, rfl, h.sub (M' := .blk eb 33 [.int .i64 (orE cur (((rdSeq t.tr g lo hi).2 : Nat) : Int))] :: .row b18.1 b18.2.length 72 3 (hcs b18.2) :: entsL b18.2) SubC.h .nil⟩
end Go.Proofs.Ytgnablliekgbgaa
namespace Go.Proofs.Ytgnablliekgbgaa
open Go Go.PL Go.RowKit
def slv3 (v : Value) (l k sz : Nat) : Value := match v with
  | .slice a _ _ => sliced a l k k sz
  | _ => undef
theorem q_slWlhm {P : Program} {n : Cx} {R : World → Prop} {L : Slots} {t e : TypeId} {x l h mo : Operand} {v : Value} {m l' k' : Nat} {kl kh km : IntKind} {z : Value} {sz by_ : Nat} (hu : P.underlying t = some (.slice e)) (he : TyI P e z sz by_)
    (hx : ev L x = some v) (hl : ev L l = some (.int kl ((l' : Nat) : Int))) (hh : ev L h = some (.int kh ((k' : Nat) : Int))) (hm : ev L mo = some (.int km ((k' : Nat) : Int))) (hv : SV v m) (h1 : l' ≤ k') (h2 : k' ≤ m) :
    QOp P n R L (.slice t x (some l) (some h) (some mo)) (slv3 v l' k' sz) := by
  obtain ⟨a, cap, rfl, h3, _⟩ := hv
  intro d ty pos af g ac w hs _
  have hu' : P.underlying t = some (.slice (P.elem t)) := by rw [elem_of hu]; exact hu
  simp only [execOp, hs.eval hx, Option.map_some, Option.map_none, hs.eval hl, hs.eval hh, hs.eval hm]
  simp [run_sliceAt_slice w t _ _ _ _ hu', run_slice_lhm w t a m cap hu' kl kh km (l' : Int) (k' : Int) (k' : Int) zz11 zz11 zz11 zz11, elem_of hu, run_sz he, slv3]
theorem Seen.slv3 {r : Rd} {v : Value} {m : Nat} {bs : List UInt8} (h : Seen r v m 1 (v8s bs)) (l k : Nat) (h1 : l < k) (h2 : k ≤ m) : Seen r (Go.Proofs.Ytgnablliekgbgaa.slv3 v l k 1) (k - l) 1 (v8s ((bs.drop l).take (k - l))) := by
  have q := h.slv8 l k zz11 h2
  obtain ⟨_, a, cap, rfl, h3, h4, _⟩ := h
  obtain ⟨g1, a', cap', g2, g3, g4, g5⟩ := q
  refine ⟨g1, a', k - l, ?_, Nat.le_refl _, zz11, ?_⟩
  · have g2 : Value.slice (if cap = l then a else a.map (·.add (l * 1))) (k - l) (cap - l) = .slice a' (k - l) cap' := g2
    rw [if_neg zz11] at g2
    injection g2 with e1 e2 e3
    show Value.slice (if k = l then a else a.map (·.add (l * 1))) (k - l) (k - l) = _
    rw [if_neg zz11, e1]
  · rcases g5 with ⟨e1, e2⟩ | g5
    · omega
    · exact .inr g5
section
variable {P : Program} {n : Cx} {R : World → Prop} {L : Slots}
theorem q_minN {x y : Operand} {at_ : Array TypeId} {a b : Nat} (hx : ev L x = some (.int .i64 ((a : Nat) : Int))) (hy : ev L y = some (.int .i64 ((b : Nat) : Int))) :
    QOp P n R L (.call { callee := .builtin .min, args := #[x, y], argTypes := at_ }) (.int .i64 ((min a b : Nat) : Int)) := by
  intro d ty pos af g ac w hs _
  have e : (if ((b : Nat) : Int) < ((a : Nat) : Int) then ((b : Nat) : Int) else ((a : Nat) : Int)) = ((min a b : Nat) : Int) := by split <;> omega
  simp only [execOp, resolve, invoke, builtin, List.map_toArray, List.map_cons, List.map_nil, hs.eval hx, hs.eval hy]
  simp [run_min_int2]
  split <;> omega
end
def encC (v : Value) (n : Nat) (j : Nat) (_ : Unit) : Array Value := #[Go.Proofs.Ytgnablliekgbgaa.slv3 v (16 * j) (16 * j + min 16 (n - 16 * j)) 1]
def AtC (_ : List Nat) (_ : Nat) (_ : Unit) (_ : World) : Prop := True
def InvC (pp qq : Nat) (v : Value) (bs : List UInt8) (w : World) : Prop := CellsAt w.cell? ⟨pp, 0, none⟩ [v] ∧ CellsAt w.cell? ⟨qq, 0, none⟩ [.int .i64 ((16 : Nat) : Int)] ∧ Seen w.cell? v bs.length 1 (v8s bs)
def kC (n : Nat) : Nat := (n + 15) / 16
theorem rg_S {j k : Nat} (h : j < k) : (List.range j ++ [j]) <+: List.range k := by
  rw [← List.range_succ]
  refine ⟨(List.range (k - (j + 1))).map (j + 1 + ·), ?_⟩
  rw [← List.range_add]; congr 1; omega
theorem chunk (v : Value) (n : Nat) (w : World) (hsv : SV v n)  :
    Calls Try.prog 88 [v, .int .i64 ((16 : Nat) : Int)].toArray w (GivesP w (fun _ : Nat × Nat => True) (fun pp => .func (.func 107) #[] #[.pointer (some ⟨pp.1, 0, none⟩), .pointer (some ⟨pp.2, 0, none⟩)]) (fun pp => [.blk pp.2 3 [.int .i64 ((16 : Nat) : Int)], .blk pp.1 43 [v]]) (fun _ => [])) := by
  obtain ⟨a, cap, rfl, hz⟩ := hsv
  refine enter (m := 9) (R := Mem w [] [] []) Try.func88 rfl rfl (Nat.le_of_ble_eq_true rfl) (Mem.start w) ?_
  refine wpc_seq <| wpc_region ?_
  refine wpl_t (t_box rfl [.slice a n cap] rfl) rfl (fun b2 => ?_)
  refine wpl_t (t_box rfl [.int .i64 ((16 : Nat) : Int)] rfl) rfl (fun b3 => ?_)
  refine wpl_q (q_pure rfl) rfl <| wpl_nil <| ex_then <| wpc_seq <| wpc_seq <| wpc_region ?_
  refine wpl_q (q_ld Try.underlying3 rfl rfl zz23) rfl ?_
  refine wpl_q (q_pure rfl) rfl <| wpl_nil <| ex_then ?_
  refine wpc_cond rfl (fun hc6 => ?_) (fun hc6 => ?_)
  ·
   exact absurd hc6 zz18
  ·
   refine wpc_skip <| ex_then <| wpc_seq <| wpc_region ?_
   refine wpl_q (q_fn (us := []) (vs := [.pointer (some ⟨b2, 0, none⟩), .pointer (some ⟨b3, 0, none⟩)]) rfl rfl) rfl ?_
   refine wpl_q (q_pure rfl) rfl <| wpl_nil <| ex_then <| wpc_ret ?_
   refine ret1 (.inl rfl) rfl rfl ?_
   exact fun w h => ⟨(b2, b3), trivial, rfl, h.below, h.made SubC.h .nil⟩
theorem chunk1 (yl : Nat) (pp : Nat) (qq : Nat) (v : Value) (bs : List UInt8) (J : List Nat → List Nat → World → Prop) (K : World → Prop) (w : World)  (hst : StabJ J) (hinv : ∀ T pre w1, J T pre w1 → InvC pp qq v bs w1) (hsk : StabK K) (hy : YieldS Try.prog yl (encC v bs.length) AtC (List.range (kC bs.length)) J K) (hJ0 : J [] [] w) (hbl : bs.length ≤ 1000000) :
    Calls Try.prog 107 [.func (.yield yl) #[] #[], .pointer (some ⟨pp, 0, none⟩), .pointer (some ⟨qq, 0, none⟩)].toArray w (IterPost J K (List.range (kC bs.length))) := by
  have ssv := (hinv _ _ _ hJ0).2.2.sv
  have lss := ssv.le
  simp only [maxLen] at lss
  refine enter (m := 31) (R := Mem w [] [] []) Try.func107 rfl rfl (Nat.le_of_ble_eq_true rfl) (Mem.start w) ?_
  refine wpc_seq <| wpc_region <| wpl_q (q_pure rfl) rfl <| wpl_nil <| ex_then <| wpc_block ?_
  refine wpc_loopc (ι := { x : Nat × World × List Nat // (x.1 ≤ kC bs.length) ∧ (J x.2.2 (List.range x.1) x.2.1) }) [(0, _), (1, _), (2, _)] (fun x Lc => (4, .int .i64 (((16 * x.1.1 : Nat) : Nat) : Int)) :: Lc) (fun x => Mem x.1.2.1 x.1.2.2 [] []) (fun x => kC bs.length - x.1.1) ⟨(0, w, []), ⟨Nat.zero_le _, hJ0⟩⟩ zz7 ?_ ?_
  ·
   exact fun w h => h
  ·
   rintro ⟨⟨j, wb, T⟩, ⟨hi0, hi1⟩⟩; try dsimp only
   have hi0 : j ≤ kC bs.length := hi0; have hi1 : J T (List.range j) wb := hi1
   have hsee : ∀ {M : List Ent} {S : List Fact} {w : World}, Mem wb T M S w → InvC pp qq v bs w := fun h => hinv _ _ _ (hst _ _ _ _ _ hi1 (h.sub .nil .nil) (nums_lt h))
   unfold kC at hi0 ⊢
   refine wpc_seq <| wpc_seq <| wpc_region <| wpl_q (q_pure rfl) rfl ?_
   refine wpl_q (q_load1 Try.underlying43 rfl rfl (fun w h => ((hsee h).1 0 v rfl : w.cell? (Addr.add ⟨pp, 0, none⟩ 0) = some (v)))) rfl ?_
   refine wpl_q (q_lenW Try.underlying43 rfl zz2) rfl ?_
   refine wpl_q (q_pure rfl) rfl <| wpl_nil <| ex_then ?_
   refine wpc_cond rfl (fun hc9 => ?_) (fun hc9 => ?_)
   ·
    simp only [decide_eq_true_eq] at hc9
    have hil : 16 * j < bs.length := by omega
    have hjk : j < kC bs.length := by unfold kC; omega
    refine wpc_skip <| ex_then <| wpc_seq <| wpc_block <| wpc_seq ?_
    refine wpc_draw 7 zz6 (fun _ h => h.drew) ?_
    refine wpd_q 0 rfl zz6 trivial (q_load1 Try.underlying3 rfl rfl (fun w h => ((hsee h).2.1 0 (.int .i64 ((16 : Nat) : Int)) rfl : w.cell? (Addr.add ⟨qq, 0, none⟩ 0) = some (.int .i64 ((16 : Nat) : Int))))) rfl (fun _ h => h) ?_
    refine wpd_q 1 rfl zz6 trivial (q_load1 Try.underlying43 rfl rfl (fun w h => ((hsee h).1 0 v rfl : w.cell? (Addr.add ⟨pp, 0, none⟩ 0) = some (v)))) rfl (fun _ h => h) ?_
    refine wpd_p 2 rfl zz6 trivial (q_pure rfl) rfl sk0 ?_
    refine wpd_p 3 rfl zz6 trivial (q_slWl Try.underlying43 Try.ti5 rfl rfl zz2 zz11) rfl sk0 ?_
    refine wpd_p 4 rfl zz6 trivial (q_lenW Try.underlying43 rfl zz2) rfl sk0 ?_
    refine wpd_p 5 rfl zz6 trivial (q_minN rfl rfl) rfl sk0 ?_
    refine wpd_p 6 rfl zz6 trivial (q_pure rfl) rfl sk0 ?_
    refine wpd_done zz6 ?_
    refine ex_then <| wpc_seq ?_
    refine wpc_region_y ?_
    refine wil_q (q_pure rfl) rfl ?_
    refine wil_q (q_load1 Try.underlying43 rfl rfl (fun w h => ((hsee h).1 0 v rfl : w.cell? (Addr.add ⟨pp, 0, none⟩ 0) = some (v)))) rfl ?_
    refine wil_q (q_pure rfl) rfl ?_
    refine wil_q (q_pure rfl) rfl ?_
    refine wil_q (q_pure rfl) rfl ?_
    refine wil_q (q_addN rfl rfl zz0) rfl ?_
    refine wil_q (q_pure rfl) rfl ?_
    refine wil_q (q_pure rfl) rfl ?_
    refine wil_q (q_addN rfl rfl zz0) rfl ?_
    refine wil_q (q_slWlhm Try.underlying43 Try.ti5 rfl rfl rfl rfl ssv zz11 zz11) rfl ?_
    refine wil_yieldS (j) (()) rfl rfl hst hy hi1 (rg_S hjk) rfl (fun _ _ => trivial) rfl ?_ ?_
    ·
     intro u29 hu29
     refine wil_q (q_pure rfl) rfl ?_
     refine wil_nil ?_
     refine ex_then ?_
     refine wpc_cond_f rfl ?_
     refine wpc_skip <| ex_block <| ex_then <| wpc_region <| wpl_q (q_pure rfl) rfl ?_
     refine wpl_q (q_load1 Try.underlying3 rfl rfl (fun w h => ((hinv _ _ _ (hst _ _ _ _ _ hu29 (h.sub .nil .nil) (nums_lt h))).2.1 0 (.int .i64 ((16 : Nat) : Int)) rfl : w.cell? (Addr.add ⟨qq, 0, none⟩ 0) = some (.int .i64 ((16 : Nat) : Int))))) rfl ?_
     refine wpl_q (q_addN rfl rfl zz0) rfl ?_
     refine wpl_q (q_pure rfl) rfl <| wpl_nil ?_
     refine ex_again ⟨(j + 1, u29, []), ⟨by show j + 1 ≤ kC bs.length; unfold kC; omega, by show J [] (List.range (j + 1)) u29; rw [List.range_succ]; exact hu29⟩⟩ ?_ ?_ ?_
     ·
      exact zz7
     ·
      exact fun w h => h
     ·
      (show kC bs.length - (j + 1) < kC bs.length - j); omega
    ·
     intro u29 hu29
     refine wil_q (q_pure rfl) rfl ?_
     refine wil_nil ?_
     refine ex_then ?_
     refine wpc_cond_t rfl ?_
     refine wpc_ret ?_
     refine ex_block_ret ?_
     refine ex_then_ret ?_
     refine ex_then_ret ?_
     refine ex_block_ret ?_
     refine ret0 (.inl rfl) rfl ?_
     exact fun w h => iter_stop hsk hu29 h
   ·
    simp only [decide_eq_false_iff_not] at hc9
    obtain rfl : j = kC bs.length := by unfold kC; omega
    refine wpc_exit ?_
    refine ex_then_exit ?_
    refine ex_then_exit ?_
    refine ex_block_hit ?_
    refine ret0 (.inr rfl) rfl ?_
    exact fun w h => iter_done hst hi1 h
end Go.Proofs.Ytgnablliekgbgaa
namespace Go.Proofs.Ytgnablliekgbgaa
open Go Go.PL Go.RowKit
def pad16 (ys : List UInt8) : List UInt8 := ys.take 16 ++ (List.replicate 16 (0 : UInt8)).drop (min ys.length 16)
theorem pad16_length (ys : List UInt8) : (pad16 ys).length = 16 := by
  unfold pad16; rw [List.length_append, List.length_take, List.length_drop, List.length_replicate]; omega
theorem pad16_copy (ys : List UInt8) : (v8s (List.replicate 16 0)).take 0 ++ (v8s ys).take (min ys.length 16) ++ (v8s (List.replicate 16 0)).drop (0 + min ys.length 16) = v8s (pad16 ys) := by
  unfold pad16
  rw [v8s_append, List.take_zero, List.nil_append, Nat.zero_add, v8s_take, v8s_drop]
  congr 2
  by_cases h : ys.length ≤ 16
  · rw [Nat.min_eq_left h, List.take_of_length_le (Nat.le_refl _), List.take_of_length_le h]
  · rw [Nat.min_eq_right zz11]
theorem pad16_id {ys : List UInt8} (h : ys.length = 16) : pad16 ys = ys := by
  unfold pad16; rw [List.take_of_length_le zz11, h]; simp
def shK (bs : List UInt8) (k : Nat) : List (List UInt8) := (List.range k).map fun j => pad16 ((bs.drop (16 * j)).take (min 16 (bs.length - 16 * j)))
def shF (bs : List UInt8) : List (List UInt8) := shK bs (kC bs.length)
def shE (bs : List UInt8) : Int := if bs.length % 16 ≠ 0 then 12 else 0
theorem shK_len (bs : List UInt8) (k : Nat) : (shK bs k).length = k := by simp [shK]
theorem shK_S (bs : List UInt8) (k : Nat) : shK bs (k + 1) = shK bs k ++ [pad16 ((bs.drop (16 * k)).take (min 16 (bs.length - 16 * k)))] := by simp [shK, List.range_succ]
theorem shK_all {bs : List UInt8} {k : Nat} : ∀ x ∈ shK bs k, x.length = 16 := by
  intro x hx
  obtain ⟨j, _, rfl⟩ := List.mem_map.1 hx
  exact pad16_length _
theorem shK_flat {bs : List UInt8} : ∀ {k : Nat}, 16 * k ≤ bs.length → (shK bs k).flatten = bs.take (16 * k)
  | 0, _ => rfl
  | k + 1, h => by
    rw [shK_S, List.flatten_append, shK_flat zz11, show min 16 (bs.length - 16 * k) = 16 from zz11, pad16_id (by rw [List.length_take, List.length_drop]; omega)]
    simp only [List.flatten_cons, List.flatten_nil, List.append_nil]
    rw [show 16 * (k + 1) = 16 * k + 16 from zz11, List.take_add]
theorem shF_flat {bs : List UInt8} (h : shE bs = 0) : (shF bs).flatten = bs := by
  have h2 : bs.length % 16 = 0 := by unfold shE at h; split at h <;> omega
  have h3 : kC bs.length = bs.length / 16 := by unfold kC; omega
  unfold shF
  rw [h3, shK_flat zz11, show 16 * (bs.length / 16) = bs.length from zz11, List.take_length]
theorem orE_zero (a : Int) : orE a 0 = a := by unfold orE; split <;> omega
theorem rdStr_le (t : Tr) (g : UInt8) (mx : Int) : (rdStr t g mx).1.length ≤ t.bs.length := by
  unfold rdStr; split
  · exact Nat.zero_le _
  · exact Nat.le_refl _
theorem wpc_rebase {P : Program} {Q : Exit → Act → World → Prop} {n : Cx} {L : Slots} {c : Code} {w0 : World} {Ln : List Nat} {M : List Ent} {S : List Fact} (h : ∀ w, Mem w0 Ln M S w → WPC P Q n (Mem w (nums M) M []) L c) : WPC P Q n (Mem w0 Ln M S) L c := fun a w hs hm => h w hm a w hs hm.base
theorem seen_rdo {w0 w : World} {Ln : List Nat} {M : List Ent} {S : List Fact} {v : Value} {m sz : Nat} {vs : List Value} (h : Mem w0 Ln M S w) (hs : Go.PL.seen v m sz vs ∈ S) : Seen (rdO (nums M) w) v m sz vs := (h.facts _ hs : Seen (rdF w0.heap.size M w) v m sz vs).mono fun a u hu => by
  unfold rdF at hu
  split at hu
  · rename_i h1
    unfold rdO
    rw [if_neg]
    · exact hu
    · intro hm
      obtain ⟨e, he, hn⟩ := mem_nums.1 hm
      exact inM_not h1.2 e he hn
  · cases hu
theorem seen_out {w0 w : World} {Ln : List Nat} {M : List Ent} {S : List Fact} {v : Value} {m sz : Nat} {vs : List Value} (hs : Seen (rdO Ln w0) v m sz vs) (h : Mem w0 Ln M S w) : Seen (rdO (nums M) w) v m sz vs := hs.mono fun a u hu => by
  obtain ⟨h1, h2⟩ := rdO_some hu
  have h3 := h.cell_oldL h2 h1
  have hlt := World.block_lt_of_cell? w0 a h2
  unfold rdO
  rw [if_neg]
  · exact h3
  · intro hm
    obtain ⟨e, he, hn⟩ := mem_nums.1 hm
    rcases h.new e he _ hn with h4 | h4
    · omega
    · exact h1 h4
theorem pre_rg {pre : List Nat} {x k : Nat} (h : (pre ++ [x]) <+: List.range k) : pre.length = x ∧ x < k := by
  obtain ⟨t, ht⟩ := h
  have e : (List.range k)[pre.length]? = some x := by rw [← ht]; simp
  have hl : pre.length < k := by
    have := congrArg List.length ht
    simp at this; omega
  rw [List.getElem?_range hl] at e
  injection e with e
  exact ⟨e, zz11⟩
theorem rdrShorts (eb : Nat) (t : HT) (g : UInt8) (cur : Int) (w : World) (hB : Mem w (nums [.blk eb 33 [.int .i64 cur]]) [.blk eb 33 [.int .i64 cur]] [] w) (ht : HSeen (rdO (nums [.blk eb 33 [.int .i64 cur]]) w) t) (hbl : t.tr.bs.length ≤ 1000000) :
    Calls Try.prog 54 [.agg #[.func (.func 49) #[] #[.pointer (some ⟨eb, 0, none⟩)]], .agg t.c.toArray, .int .u8 g.toNat].toArray w (GivesA w [.blk eb 33 [.int .i64 cur]] (fun y : Value => SV y (shF (rdStr t.tr g 65536).1).length) (fun y => y) (fun y => [.blk eb 33 [.int .i64 (orE (orE cur (((rdStr t.tr g 65536).2 : Nat) : Int)) (shE (rdStr t.tr g 65536).1))], .row y (shF (rdStr t.tr g 65536).1).length 62 16 (v8s (shF (rdStr t.tr g 65536).1).flatten)])) := by
  haveI := ht.sv.one
  have hsb := rdStr_le t.tr g 65536
  have hs6 : (rdStr t.tr g 65536).1.length ≤ 1000000 := by omega
  have hsl : (rdStr t.tr g 65536).1.length ≤ maxLen := by unfold maxLen; omega
  refine enterN (m := 34) (R := Mem w (nums [.blk eb 33 [.int .i64 cur]]) [.blk eb 33 [.int .i64 cur]] []) Try.func54 rfl rfl (Nat.le_of_ble_eq_true rfl) hB ?_
  refine wpc_seq <| wpc_region ?_
  refine wpl_t (t_box rfl [(.func (.func 49) #[] #[.pointer (some ⟨eb, 0, none⟩)])] rfl) rfl (fun b3 => ?_)
  refine wpl_t (t_box rfl t.c rfl) rfl (fun b4 => ?_)
  refine wpl_q (q_pure rfl) rfl <| wpl_nil <| ex_then <| wpc_seq <| wpc_region <| wpl_q (q_ldN Try.underlying84 rfl Try.ti84 rfl LenC.h) rfl <| wpl_q (q_ldN Try.underlying72 rfl Try.ti72 rfl LenC.h) rfl <| wpl_q (q_pure rfl) rfl ?_
  refine wpl_tp (t_callW (N := fun _ : Unit => [.blk eb 33 [.int .i64 (orE cur (((rdStr t.tr g 65536).2 : Nat) : Int))]]) [.blk eb 33 [.int .i64 cur]] [.blk b4 72 t.c, .blk b3 84 [(.func (.func 49) #[] #[.pointer (some ⟨eb, 0, none⟩)])]] [.blk eb 33 [.int .i64 cur], .blk b4 72 t.c, .blk b3 84 [(.func (.func 49) #[] #[.pointer (some ⟨eb, 0, none⟩)])]] (fun _ => [.blk eb 33 [.int .i64 (orE cur (((rdStr t.tr g 65536).2 : Nat) : Int))], .blk b4 72 t.c, .blk b3 84 [(.func (.func 49) #[] #[.pointer (some ⟨eb, 0, none⟩)])]]) (fun _ => []) rfl (fun _ _ _ h => h) rfl Try.hb53 rfl fun w h h2 => rdrStr eb t g 65536 cur w h2 (ht.mono (rdo_nums h zz4))) rfl (fun b14 p14 => ?_)
  refine wpl_q (q_pure rfl) rfl <| wpl_nil <| ex_then ?_
  refine wpc_cutc ({ x : Int // (x = (orE (orE cur (((rdStr t.tr g 65536).2 : Nat) : Int)) (shE (rdStr t.tr g 65536).1))) }) [(7, str (rdStr t.tr g 65536).1)] (fun x Lc => Lc) (fun x => Mem w (nums [.blk eb 33 [.int .i64 cur]]) [.blk eb 33 [.int .i64 x.1], .blk b4 72 t.c, .blk b3 84 [(.func (.func 49) #[] #[.pointer (some ⟨eb, 0, none⟩)])]] []) ?_ ?_
  ·
   refine wpc_seq <| wpc_region <| wpl_q (q_pure rfl) rfl <| wpl_q (q_lenS Try.underlying9 rfl) rfl ?_
   refine wpl_q (q_remN (b := 16) rfl rfl zz29) rfl ?_
   refine wpl_q (q_pure rfl) rfl <| wpl_nil <| ex_then ?_
   refine wpc_cond rfl (fun hc18 => ?_) (fun hc18 => ?_)
   ·
    have hE : shE (rdStr t.tr g 65536).1 = 12 := if_pos (by have q := hc18; simp only [bne_iff_ne, ne_eq] at q; omega)
    refine wpc_region <| wpl_q (q_field Try.underlying84 rfl Try.ti82 rfl rfl _ rfl) rfl <| wpl_q (q_ld Try.underlying82 rfl rfl rfl) rfl ?_
    refine wpl_tp (t_callW (N := fun _ : Unit => [.blk eb 33 [.int .i64 (orE (orE cur (((rdStr t.tr g 65536).2 : Nat) : Int)) 12)]]) [.blk eb 33 [.int .i64 (orE cur (((rdStr t.tr g 65536).2 : Nat) : Int))]] [.blk b4 72 t.c, .blk b3 84 [(.func (.func 49) #[] #[.pointer (some ⟨eb, 0, none⟩)])]] [.blk eb 33 [.int .i64 (orE cur (((rdStr t.tr g 65536).2 : Nat) : Int))], .blk b4 72 t.c, .blk b3 84 [(.func (.func 49) #[] #[.pointer (some ⟨eb, 0, none⟩)])]] (fun _ => [.blk eb 33 [.int .i64 (orE (orE cur (((rdStr t.tr g 65536).2 : Nat) : Int)) 12)], .blk b4 72 t.c, .blk b3 84 [(.func (.func 49) #[] #[.pointer (some ⟨eb, 0, none⟩)])]]) (fun _ => []) rfl (fun _ _ _ h => h) rfl Try.hb49 rfl fun w h h2 => failC 12 eb (orE cur (((rdStr t.tr g 65536).2 : Nat) : Int)) w h2) rfl (fun b21 p21 => ?_)
    refine wpl_nil ?_
    refine ex_mid ⟨(orE (orE cur (((rdStr t.tr g 65536).2 : Nat) : Int)) 12), (by first | exact hE2 | rw [hE])⟩ ?_ ?_
    ·
     exact zz7
    ·
     exact fun w h => by first | exact h | exact h.sub SubC.h SubC.h | exact h.sub zz5 zz5
   ·
    have hE : shE (rdStr t.tr g 65536).1 = 0 := if_neg (by have q := hc18; simp only [bne_eq_false_iff_eq] at q; omega)
    have hE2 : orE cur (((rdStr t.tr g 65536).2 : Nat) : Int) = (orE (orE cur (((rdStr t.tr g 65536).2 : Nat) : Int)) (shE (rdStr t.tr g 65536).1)) := by rw [hE, orE_zero]
    refine wpc_skip ?_
    refine ex_mid ⟨(orE cur (((rdStr t.tr g 65536).2 : Nat) : Int)), (by first | exact hE2 | rw [hE])⟩ ?_ ?_
    ·
     exact zz7
    ·
     exact fun w h => by first | exact h | exact h.sub SubC.h SubC.h | exact h.sub zz5 zz5
  ·
   rintro ⟨e, hi0⟩; try dsimp only
   have hi0 : e = (orE (orE cur (((rdStr t.tr g 65536).2 : Nat) : Int)) (shE (rdStr t.tr g 65536).1)) := hi0
   refine wpc_seq <| wpc_region ?_
   refine wpl_t (t_alloc Try.ti26 [.slice none 0 0] rfl) rfl (fun b8 => ?_)
   refine wpl_nil <| ex_then <| wpc_seq <| wpc_seq <| wpc_region <| wpl_q (q_pure rfl) rfl ?_
   subst hi0
   refine wpl_tp (t_cvSB Try.underlying9 Try.underlying43 Try.underlying5 rfl hsl) rfl (fun b23 p23 => ?_)
   refine wpl_tp (t_callP2 Try.hb88 rfl fun w h => chunk b23 (rdStr t.tr g 65536).1.length w p23) rfl (fun b24 p24 => ?_)
   refine wpl_nil <| ex_then <| wpc_block ?_
   refine wpc_mono (R' := Mem w (nums [.blk eb 33 [.int .i64 cur]]) [.blk b8 26 [nl], .blk b24.2 3 [.int .i64 ((16 : Nat) : Int)], .blk b24.1 43 [b23], .blk eb 33 [.int .i64 (orE (orE cur (((rdStr t.tr g 65536).2 : Nat) : Int)) (shE (rdStr t.tr g 65536).1))], .blk b4 72 t.c, .blk b3 84 [(.func (.func 49) #[] #[.pointer (some ⟨eb, 0, none⟩)])]] [Go.PL.seen b23 (rdStr t.tr g 65536).1.length 1 (v8s (rdStr t.tr g 65536).1)]) (fun w1 h => h.sel) ?_
   refine wpc_rebase fun w9 hm9 => ?_
   have hs9 := seen_rdo hm9 (List.mem_cons_self ..)
   refine wpc_mono (R' := Mem w9 (nums [.blk b8 26 [nl], .blk b24.2 3 [.int .i64 ((16 : Nat) : Int)], .blk b24.1 43 [b23], .blk eb 33 [.int .i64 (orE (orE cur (((rdStr t.tr g 65536).2 : Nat) : Int)) (shE (rdStr t.tr g 65536).1))], .blk b4 72 t.c, .blk b3 84 [(.func (.func 49) #[] #[.pointer (some ⟨eb, 0, none⟩)])]]) ([] ++ [.blk b8 26 [nl], .row nl ([] : List (List UInt8)).length 62 16 (v8s ([] : List (List UInt8)).flatten), .blk b24.2 3 [.int .i64 ((16 : Nat) : Int)], .blk b24.1 43 [b23], .blk eb 33 [.int .i64 (orE (orE cur (((rdStr t.tr g 65536).2 : Nat) : Int)) (shE (rdStr t.tr g 65536).1))], .blk b4 72 t.c, .blk b3 84 [(.func (.func 49) #[] #[.pointer (some ⟨eb, 0, none⟩)])]]) []) (fun w1 h => (show Mem w9 (nums [.blk b8 26 [nl], .blk b24.2 3 [.int .i64 ((16 : Nat) : Int)], .blk b24.1 43 [b23], .blk eb 33 [.int .i64 (orE (orE cur (((rdStr t.tr g 65536).2 : Nat) : Int)) (shE (rdStr t.tr g 65536).1))], .blk b4 72 t.c, .blk b3 84 [(.func (.func 49) #[] #[.pointer (some ⟨eb, 0, none⟩)])]]) [.blk b8 26 [nl], .row nl 0 62 16 [], .blk b24.2 3 [.int .i64 ((16 : Nat) : Int)], .blk b24.1 43 [b23], .blk eb 33 [.int .i64 (orE (orE cur (((rdStr t.tr g 65536).2 : Nat) : Int)) (shE (rdStr t.tr g 65536).1))], .blk b4 72 t.c, .blk b3 84 [(.func (.func 49) #[] #[.pointer (some ⟨eb, 0, none⟩)])]] [] w1 from (h.nilRow 62 16).sel)) ?_
   refine wpc_rangeG (encs := (encC b23 (rdStr t.tr g 65536).1.length)) (At := AtC) (Inv := (InvC b24.1 b24.2 b23 (rdStr t.tr g 65536).1)) (xs := (List.range (kC (rdStr t.tr g 65536).1.length))) (ρ := Unit) (β := Unit) [] (fun s : Value × List (List UInt8) => [.blk b8 26 [s.1], .row s.1 s.2.length 62 16 (v8s s.2.flatten), .blk b24.2 3 [.int .i64 ((16 : Nat) : Int)], .blk b24.1 43 [b23], .blk eb 33 [.int .i64 (orE (orE cur (((rdStr t.tr g 65536).2 : Nat) : Int)) (shE (rdStr t.tr g 65536).1))], .blk b4 72 t.c, .blk b3 84 [(.func (.func 49) #[] #[.pointer (some ⟨eb, 0, none⟩)])]]) (fun pre s => s.2 = shK (rdStr t.tr g 65536).1 pre.length ∧ SV s.1 s.2.length) (.slice none 0 0, []) (fun _ => False) (fun _ => .ret) (fun _ => []) (fun _ => []) (fun _ _ _ => []) (fun x i b => [(8, .pointer (some ⟨b8, 0, none⟩)), (9, Go.Proofs.Ytgnablliekgbgaa.slv3 b23 (16 * x) (16 * x + min 16 ((rdStr t.tr g 65536).1.length - 16 * x)) 1)]) rfl Try.hb107 ⟨rfl, SV.nil⟩ (fun w h k hk => by cases hk) (fun w2 h => fun yl J K hst hinv hsk hy hJ0 => chunk1 yl b24.1 b24.2 b23 (rdStr t.tr g 65536).1 J K w2 hst hinv hsk hy hJ0 hs6) (fun _ _ _ _ h => ⟨h.cells_blk (t := 43) (List.mem_cons_of_mem _ (List.mem_cons_of_mem _ (List.mem_cons_of_mem _ (List.mem_cons_self ..)))), h.cells_blk (t := 3) (List.mem_cons_of_mem _ (List.mem_cons_of_mem _ (List.mem_cons_self ..))), hs9.mono (rdo_old h)⟩) (fun _ _ _ _ _ _ _ => trivial) (fun _ _ => rfl) zz18 ?_ ?_ ?_ ?_
   ·
    intro l x i w1 K hK
    refine wic_region ?_
    refine wil_q (q_pure rfl) rfl ?_
    refine wil_nil ?_
    exact fun a w hs h => hK () a w (hs.weaken (subs_get zz7)) h
   ·
    intro l pre x i s b w1 T hgs hpre hm hat hT
    obtain ⟨v, l⟩ := s
    obtain ⟨hg1, hg2⟩ := hgs
    have hg1 : l = shK (rdStr t.tr g 65536).1 pre.length := hg1
    have hg2 : SV v l.length := hg2
    obtain ⟨hpl, hxk⟩ := pre_rg hpre
    have lls := hg2.le
    simp only [maxLen] at lls
    have hll : l.length = x := by rw [hg1, shK_len, hpl]
    have hxn : 16 * x < (rdStr t.tr g 65536).1.length := by unfold kC at hxk; omega
    have hcl : (((rdStr t.tr g 65536).1.drop (16 * x)).take (min 16 ((rdStr t.tr g 65536).1.length - 16 * x))).length = min 16 ((rdStr t.tr g 65536).1.length - 16 * x) := by rw [List.length_take, List.length_drop]; omega
    have hsb9 := (hs9.mono (rdo_old hm))
    have hsb9 : Seen (rdO (nums [.blk b8 26 [v], .row v l.length 62 16 (v8s l.flatten), .blk b24.2 3 [.int .i64 ((16 : Nat) : Int)], .blk b24.1 43 [b23], .blk eb 33 [.int .i64 (orE (orE cur (((rdStr t.tr g 65536).2 : Nat) : Int)) (shE (rdStr t.tr g 65536).1))], .blk b4 72 t.c, .blk b3 84 [(.func (.func 49) #[] #[.pointer (some ⟨eb, 0, none⟩)])]]) w1) b23 (rdStr t.tr g 65536).1.length 1 (v8s (rdStr t.tr g 65536).1) := seen_out hs9 hm
    show WPCI _ _ _ _ (Mem w1 (nums [.blk b8 26 [v], .row v l.length 62 16 (v8s l.flatten), .blk b24.2 3 [.int .i64 ((16 : Nat) : Int)], .blk b24.1 43 [b23], .blk eb 33 [.int .i64 (orE (orE cur (((rdStr t.tr g 65536).2 : Nat) : Int)) (shE (rdStr t.tr g 65536).1))], .blk b4 72 t.c, .blk b3 84 [(.func (.func 49) #[] #[.pointer (some ⟨eb, 0, none⟩)])]]) [.blk b8 26 [v], .row v l.length 62 16 (v8s l.flatten), .blk b24.2 3 [.int .i64 ((16 : Nat) : Int)], .blk b24.1 43 [b23], .blk eb 33 [.int .i64 (orE (orE cur (((rdStr t.tr g 65536).2 : Nat) : Int)) (shE (rdStr t.tr g 65536).1))], .blk b4 72 t.c, .blk b3 84 [(.func (.func 49) #[] #[.pointer (some ⟨eb, 0, none⟩)])]] []) _ _
    refine wic_block ?_
    refine wic_seq ?_
    refine wic_region ?_
    refine wil_t (t_alloc Try.ti62 (v8s (List.replicate 16 0)) rfl) rfl (fun b10 => ?_)
    refine wil_nil ?_
    refine eix_then ?_
    refine wic_seq ?_
    refine wic_region ?_
    refine wil_q (q_arAll Try.underlying62 Try.ti5 rfl rfl) rfl ?_
    refine wil_q (q_pure rfl) rfl ?_
    refine wil_t (t_copy Try.underlying43 Try.ti5 rfl rfl (fun w h => (show Seen w.cell? _ (((rdStr t.tr g 65536).1.drop (16 * x)).take (min 16 ((rdStr t.tr g 65536).1.length - 16 * x))).length 1 (v8s (((rdStr t.tr g 65536).1.drop (16 * x)).take (min 16 ((rdStr t.tr g 65536).1.length - 16 * x)))) from by
      have q := Seen.slv3 (hsb9.mono (rdo_old h)) (16 * x) (16 * x + min 16 ((rdStr t.tr g 65536).1.length - 16 * x)) zz11 zz11
      rw [Nat.add_sub_cancel_left] at q
      exact q.re8)) (v8s_one _) (by rw [v8s_length]; exact Nat.le_refl _) (min (((rdStr t.tr g 65536).1.drop (16 * x)).take (min 16 ((rdStr t.tr g 65536).1.length - 16 * x))).length 16) rfl (v8s (pad16 (((rdStr t.tr g 65536).1.drop (16 * x)).take (min 16 ((rdStr t.tr g 65536).1.length - 16 * x))))) (pad16_copy _)) rfl (fun b28 => ?_)
    refine wil_nil ?_
    refine eix_then ?_
    refine wic_region ?_
    refine wil_q (q_ld Try.underlying26 rfl rfl rfl) rfl ?_
    refine wil_q (q_ldN Try.underlying62 rfl Try.ti62 rfl (by rw [v8s_length]; exact pad16_length _)) rfl ?_
    refine wil_tp (t_bsS [_] Try.underlying26 Try.ti62 rfl zz18 rfl zz18 zz18 rfl (all_one (pad16_length _))) rfl (fun b31 p31 => ?_)
    refine wil_tp (t_apW Try.underlying26 Try.ti62 rfl zz18 rfl rfl (fun w h => zz12) (v8s_one _) zz0 zz0 (v8s (l ++ [pad16 (((rdStr t.tr g 65536).1.drop (16 * x)).take (min 16 ((rdStr t.tr g 65536).1.length - 16 * x)))]).flatten) (by rw [List.flatten_append]; simp [v8s_append])) rfl (fun b32 p32 => ?_)
    refine wil_t0 (t_st1 Try.ti26 rfl rfl (SV.one zz2) zz3 [b32] rfl) (fun _ => ?_)
    refine wil_nil ?_
    refine ex_block ?_
    refine ex_roundN ?_
    exact fun w h => ⟨(b32, l ++ [pad16 (((rdStr t.tr g 65536).1.drop (16 * x)).take (min 16 ((rdStr t.tr g 65536).1.length - 16 * x)))]), ⟨by show l ++ [_] = shK _ (pre ++ [x]).length; rw [List.length_append, List.length_singleton, shK_S, ← hg1, hpl], by show SV b32 (l ++ [_]).length; rw [List.length_append, List.length_singleton]; exact p32⟩, by
      show Mem _ _ [.blk b8 26 [b32], .row b32 (l ++ [pad16 (((rdStr t.tr g 65536).1.drop (16 * x)).take (min 16 ((rdStr t.tr g 65536).1.length - 16 * x)))]).length 62 16 (v8s (l ++ [pad16 (((rdStr t.tr g 65536).1.drop (16 * x)).take (min 16 ((rdStr t.tr g 65536).1.length - 16 * x)))]).flatten), .blk b24.2 3 [.int .i64 ((16 : Nat) : Int)], .blk b24.1 43 [b23], .blk eb 33 [.int .i64 (orE (orE cur (((rdStr t.tr g 65536).2 : Nat) : Int)) (shE (rdStr t.tr g 65536).1))], .blk b4 72 t.c, .blk b3 84 [(.func (.func 49) #[] #[.pointer (some ⟨eb, 0, none⟩)])]] [] w
      rw [List.length_append, List.length_singleton]
      exact h.sel⟩
   ·
    intro D s hgs
    obtain ⟨v, l⟩ := s
    obtain ⟨hg1, hg2⟩ := hgs
    have hg1 : l = shK (rdStr t.tr g 65536).1 (List.range (kC (rdStr t.tr g 65536).1.length)).length := hg1
    have hg2 : SV v l.length := hg2
    rw [List.length_range] at hg1
    have hg1 : l = shF (rdStr t.tr g 65536).1 := hg1
    subst hg1
    refine ex_weaken (R1 := Mem w9 (nums [.blk b8 26 [nl], .blk b24.2 3 [.int .i64 ((16 : Nat) : Int)], .blk b24.1 43 [b23], .blk eb 33 [.int .i64 (orE (orE cur (((rdStr t.tr g 65536).2 : Nat) : Int)) (shE (rdStr t.tr g 65536).1))], .blk b4 72 t.c, .blk b3 84 [(.func (.func 49) #[] #[.pointer (some ⟨eb, 0, none⟩)])]]) (.obj D (.deferred (some [])) :: [.blk b8 26 [v], .row v (shF (rdStr t.tr g 65536).1).length 62 16 (v8s (shF (rdStr t.tr g 65536).1).flatten), .blk b24.2 3 [.int .i64 ((16 : Nat) : Int)], .blk b24.1 43 [b23], .blk eb 33 [.int .i64 (orE (orE cur (((rdStr t.tr g 65536).2 : Nat) : Int)) (shE (rdStr t.tr g 65536).1))], .blk b4 72 t.c, .blk b3 84 [(.func (.func 49) #[] #[.pointer (some ⟨eb, 0, none⟩)])]]) []) (L1 := [(8, .pointer (some ⟨b8, 0, none⟩))]) zz7 (fun w h => h) ?_
    refine ex_block <| ex_then <| wpc_seq <| wpc_region <| wpl_q (q_ld Try.underlying26 rfl rfl rfl) rfl <| wpl_q (q_pure rfl) rfl <| wpl_nil <| ex_then <| wpc_ret ?_
    refine ex_markN (.inl rfl) .here ?_
    refine ret1 (.inl rfl) rfl rfl ?_
    exact fun w1 h => ⟨v, hg2, rfl, (show Mem w (nums [.blk eb 33 [.int .i64 cur]]) (.obj D (.deferred none) :: [.blk b8 26 [v], .row v (shF (rdStr t.tr g 65536).1).length 62 16 (v8s (shF (rdStr t.tr g 65536).1).flatten), .blk b24.2 3 [.int .i64 ((16 : Nat) : Int)], .blk b24.1 43 [b23], .blk eb 33 [.int .i64 (orE (orE cur (((rdStr t.tr g 65536).2 : Nat) : Int)) (shE (rdStr t.tr g 65536).1))], .blk b4 72 t.c, .blk b3 84 [(.func (.func 49) #[] #[.pointer (some ⟨eb, 0, none⟩)])]]) [] w1 from Mem.framed (X := []) (M := [.blk b8 26 [nl], .blk b24.2 3 [.int .i64 ((16 : Nat) : Int)], .blk b24.1 43 [b23], .blk eb 33 [.int .i64 (orE (orE cur (((rdStr t.tr g 65536).2 : Nat) : Int)) (shE (rdStr t.tr g 65536).1))], .blk b4 72 t.c, .blk b3 84 [(.func (.func 49) #[] #[.pointer (some ⟨eb, 0, none⟩)])]]) hm9 h).sel⟩
   ·
    intro D r hr; exact hr.elim
end Go.Proofs.Ytgnablliekgbgaa
namespace Go.Proofs.Ytgnablliekgbgaa
open Go Go.PL Go.RowKit
theorem numOf_snoc (xs : List UInt8) (b : UInt8) : numOf (xs ++ [b]) = 256 * numOf xs + b.toNat := by rw [numOf, List.foldl_append]; rfl
theorem numOf_numB (n : Nat) : numOf (numB n) = n := by
  induction n using Nat.strongRecOn with
  | _ n ih =>
    by_cases h : n = 0
    · subst h; rfl
    · rw [numB_step h, numOf_snoc, ih _ zz11, of8_lt zz11]; omega
theorem numB_first (n : Nat) : ¬ (0 < (numB n).length ∧ (numB n).getD 0 0 = 0) := by
  induction n using Nat.strongRecOn with
  | _ n ih =>
    by_cases h : n = 0
    · subst h; rintro ⟨h, _⟩; exact absurd h zz18
    · rintro ⟨_, h2⟩
      rw [numB_step h] at h2
      cases hl : numB (n / 256) with
      | nil =>
        rw [hl] at h2
        have h3 := numOf_numB (n / 256)
        rw [hl] at h3
        have h4 : of8 ((n % 256 : Nat) : Int) = 0 := h2
        have h5 := of8_lt (n := n % 256) zz11
        rw [h4] at h5
        have h5 : 0 = n % 256 := h5
        have h3 : 0 = n / 256 := h3
        omega
      | cons b l =>
        rw [hl] at h2
        exact ih (n / 256) zz11 (by rw [hl]; exact ⟨Nat.succ_pos _, h2⟩)
theorem rdNum_num (g o : UInt8) (z mx : UInt64) : rdNum (Tr.nd g (numB z.toNat) []) o mx = if g ≠ o ∨ mx.toNat < z.toNat then (0, 12) else (z, 0) := by
  have h1 := numB_len z.toNat_lt
  have h2 := numB_first z.toNat
  by_cases hg : g = o
  · subst hg
    have hb : ¬ badN g (Tr.nd g (numB z.toNat) []) := by
      rintro (h | h | h | h)
      · exact h rfl
      · exact absurd h (by show ¬ 0 < 0; omega)
      · have h : 8 < (numB z.toNat).length := h
        omega
      · exact h2 h
    have e : numOf (Tr.nd g (numB z.toNat) []).bs = z.toNat := numOf_numB _
    rw [rdNum, if_neg hb, e]
    by_cases hm : mx.toNat < z.toNat
    · rw [if_pos hm, if_pos (.inr hm)]
    · rw [if_neg hm, if_neg (by rintro (h | h); · exact h rfl
                                · exact hm h), UInt64.ofNat_toNat]
  · rw [if_pos (.inl hg), rdNum, if_pos (.inl hg)]
theorem rdStr_str (g o : UInt8) (bs : List UInt8) (mx : Int) : rdStr (Tr.nd g bs []) o mx = if g ≠ o ∨ mx < (bs.length : Int) then ([], 12) else (bs, 0) := by
  rw [rdStr]
  by_cases h : badS o mx (Tr.nd g bs [])
  · rw [if_pos h, if_pos]
    rcases h with h | h | h
    · exact .inl h
    · exact absurd h (by show ¬ 0 < 0; omega)
    · exact .inr h
  · rw [if_neg h, if_neg (by rintro (h2 | h2); · exact h (.inl h2)
                             · exact h (.inr (.inr h2)))]
    rfl
theorem of8_id (b : UInt8) : of8 ((b.toNat : Nat) : Int) = b := UInt8.toNat_inj.1 (of8_lt b.toNat_lt)
theorem numB_numOf : ∀ (n : Nat) (xs : List UInt8), xs.length = n → ¬ (0 < xs.length ∧ xs.getD 0 0 = 0) → numB (numOf xs) = xs
  | 0, xs, h, _ => by rw [List.eq_nil_of_length_eq_zero h]; rfl
  | n + 1, xs, h, h0 => by
    obtain ⟨ys, b, rfl⟩ : ∃ ys b, xs = ys ++ [b] := ⟨xs.dropLast, xs.getLast (by intro e; subst e; cases h), (List.dropLast_concat_getLast _).symm⟩
    rw [List.length_append, List.length_singleton] at h
    have hy : ¬ (0 < ys.length ∧ ys.getD 0 0 = 0) := by
      rintro ⟨g1, g2⟩
      refine h0 ⟨by rw [List.length_append]; omega, ?_⟩
      rw [List.getD_eq_getElem?_getD] at g2 ⊢
      rwa [List.getElem?_append_left g1]
    have ih := numB_numOf n ys zz11 hy
    have hb := b.toNat_lt
    have hne : numOf (ys ++ [b]) ≠ 0 := by
      rw [numOf_snoc]
      intro e
      have e1 : numOf ys = 0 := by omega
      have e2 : b.toNat = 0 := by omega
      rw [e1] at ih
      have e3 : ys = [] := ih.symm
      subst e3
      exact h0 ⟨Nat.succ_pos _, UInt8.toNat_inj.1 e2⟩
    rw [numB_step hne, numOf_snoc, show (256 * numOf ys + b.toNat) / 256 = numOf ys from zz11, show (256 * numOf ys + b.toNat) % 256 = b.toNat from zz11, ih, of8_id]
theorem numOf_le {xs : List UInt8} (h : xs.length ≤ 8) : numOf xs < 2 ^ 64 := by
  have q := numOf_lt (bs := xs) (Nat.le_refl _)
  rw [List.take_length] at q
  exact Nat.lt_of_lt_of_le q (Nat.pow_le_pow_right zz18 h)
theorem num_ok {t : Tr} {g : UInt8} {mx : UInt64} (h : (rdNum t g mx).2 = 0) : t = .nd g (numB (rdNum t g mx).1.toNat) [] ∧ (rdNum t g mx).1.toNat ≤ mx.toNat := by
  unfold rdNum at h ⊢
  split at h
  · cases h
  · rename_i h1
    rw [if_neg h1]
    split at h
    · cases h
    · rename_i h2
      rw [if_neg h2]
      obtain ⟨tg, bs, l⟩ := t
      have h3 : tg = g := Decidable.byContradiction fun e => h1 (.inl e)
      have h4 : ¬ 0 < l.length := fun e => h1 (.inr (.inl e))
      have h5 : ¬ 8 < bs.length := fun e => h1 (.inr (.inr (.inl e)))
      have h6 : ¬ (0 < bs.length ∧ bs.getD 0 0 = 0) := fun e => h1 (.inr (.inr (.inr e)))
      have h2 : ¬ mx.toNat < numOf bs := h2
      have h7 := numOf_le (xs := bs) zz11
      subst h3
      have h8 : l = [] := List.eq_nil_of_length_eq_zero zz11
      subst h8
      have e : (UInt64.ofNat (numOf bs)).toNat = numOf bs := by rw [UInt64.toNat_ofNat']; exact Nat.mod_eq_of_lt h7
      refine ⟨?_, ?_⟩
      · show Tr.nd tg bs [] = .nd tg (numB (UInt64.ofNat (numOf bs)).toNat) []
        rw [e, numB_numOf _ bs rfl h6]
      · show (UInt64.ofNat (numOf bs)).toNat ≤ _
        rw [e]; omega
theorem str_ok {t : Tr} {g : UInt8} {mx : Int} (h : (rdStr t g mx).2 = 0) : t = .nd g (rdStr t g mx).1 [] := by
  unfold rdStr at h ⊢
  split at h
  · cases h
  · rename_i h1
    rw [if_neg h1]
    obtain ⟨tg, bs, l⟩ := t
    have h3 : tg = g := Decidable.byContradiction fun e => h1 (.inl e)
    have h4 : ¬ 0 < l.length := fun e => h1 (.inr (.inl e))
    subst h3
    rw [List.eq_nil_of_length_eq_zero (show l.length = 0 from zz11)]; rfl
theorem seq_ok {t : Tr} {g : UInt8} {lo hi : Nat} (h : (rdSeq t g lo hi).2 = 0) : t = .nd g [] (lsT t g lo hi) ∧ lo ≤ (lsT t g lo hi).length ∧ (lsT t g lo hi).length ≤ hi := by
  unfold rdSeq at h
  unfold lsT
  split at h
  · cases h
  · rename_i h1
    rw [if_neg h1]
    obtain ⟨tg, bs, l⟩ := t
    have h3 : tg = g := Decidable.byContradiction fun e => h1 (.inl e)
    have h4 : ¬ 0 < bs.length := fun e => h1 (.inr (.inl e))
    have h5 : ¬ (l.length : Int) < lo := fun e => h1 (.inr (.inr (.inl e)))
    have h6 : ¬ (hi : Int) < l.length := fun e => h1 (.inr (.inr (.inr e)))
    subst h3
    rw [List.eq_nil_of_length_eq_zero (show bs.length = 0 from zz11)]
    refine ⟨rfl, ?_, ?_⟩
    · show lo ≤ l.length; omega
    · show l.length ≤ hi; omega
theorem lsT_len {t : Tr} {g : UInt8} {n : Nat} : (lsT t g n n).length = n := by
  by_cases h : (rdSeq t g n n).2 = 0
  · have := seq_ok h; omega
  · unfold rdSeq at h
    split at h
    · rename_i h1; rw [lsT, if_pos h1, List.length_replicate]
    · exact absurd rfl h
theorem lsT_le {t : Tr} {g : UInt8} {hi : Nat} : (lsT t g 0 hi).length ≤ hi := by
  by_cases h : (rdSeq t g (0 : Nat) hi).2 = 0
  · have := seq_ok h; omega
  · unfold rdSeq at h
    split at h
    · rename_i h1; rw [lsT, if_pos h1]; exact Nat.zero_le _
    · exact absurd rfl h
theorem sm_z : Sm Tr.z := by unfold Sm; decide
theorem sm_get {t : Tr} {g : UInt8} {lo hi : Nat} (h : Sm t) (i : Nat) : Sm ((lsT t g lo hi).getD i Tr.z) := by
  unfold lsT
  split
  · by_cases hi2 : i < lo
    · rw [List.getD_eq_getElem?_getD, List.getElem?_replicate, if_pos hi2]; exact sm_z
    · rw [List.getD_eq_getElem?_getD, List.getElem?_replicate, if_neg hi2]; exact sm_z
  · obtain ⟨tg, bs, l⟩ := t
    show Sm (l.getD i Tr.z)
    by_cases hi2 : i < l.length
    · exact h.kidT (by rw [List.getD_eq_getElem?_getD, List.getElem?_eq_getElem hi2]; exact List.getElem_mem _)
    · rw [List.getD_eq_getElem?_getD, List.getElem?_eq_none zz11]; exact sm_z
theorem tr_get {ns : List HT} {T : List Tr} (h : trs ns = T) (i : Nat) : (ns.getD i HT.z).tr = T.getD i Tr.z := by
  subst h
  induction ns generalizing i with
  | nil => rfl
  | cons x l ih => cases i with
    | zero => rfl
    | succ i => exact ih i
def wT (T : Tr) : List Tr := lsT T 135 2 2
def fT (T : Tr) : List Tr := lsT ((wT T).getD 0 Tr.z) 134 5 5
def gT (T : Tr) : List Tr := lsT ((wT T).getD 1 Tr.z) 131 3 3
def lT (T : Tr) : List Tr := lsT ((fT T).getD 4 Tr.z) 129 0 500
def serS (L : List Tr) : List UInt64 := L.map fun t => (rdNum t 5 18446744073709551615).1
def accE (c : Int) (L : List Tr) : Int := L.foldl (fun c t => orE c (((rdNum t 5 18446744073709551615).2 : Nat) : Int)) c
theorem accE_0 {c : Int} {L : List Tr} : accE c L = 0 ↔ c = 0 ∧ ∀ t ∈ L, (rdNum t 5 18446744073709551615).2 = 0 := by
  induction L generalizing c with
  | nil => simp [accE]
  | cons x L ih =>
    show accE (orE c _) L = 0 ↔ _
    rw [ih, orE_0]
    simp only [List.mem_cons, forall_eq_or_imp]
    rw [and_assoc, Int.natCast_eq_zero]
theorem accE_S {c : Int} {L : List Tr} {i : Nat} (h : i < L.length) : accE c (L.take (i + 1)) = orE (accE c (L.take i)) (((rdNum (L.getD i Tr.z) 5 18446744073709551615).2 : Nat) : Int) := by
  rw [List.take_add_one, List.getElem?_eq_getElem h, accE, List.foldl_append, List.getD_eq_getElem?_getD, List.getElem?_eq_getElem h]; rfl
theorem serS_len (L : List Tr) : (serS L).length = L.length := List.length_map ..
theorem serS_S {L : List Tr} {i : Nat} (h : i < L.length) : serS (L.take (i + 1)) = serS (L.take i) ++ [(rdNum (L.getD i Tr.z) 5 18446744073709551615).1] := by
  rw [List.take_add_one, List.getElem?_eq_getElem h, serS, List.map_append, List.getD_eq_getElem?_getD, List.getElem?_eq_getElem h]; rfl
def outR (T : Tr) (sv cv pv : Value) : Rv := ⟨(rdStr ((fT T).getD 0 Tr.z) 1 40).1, (rdNum ((fT T).getD 1 Tr.z) 2 18446744073709551615).1, (((rdNum ((fT T).getD 2 Tr.z) 3 1099511627776).1.toNat : Nat) : Int), (((rdNum ((fT T).getD 3 Tr.z) 4 1099511627776).1.toNat : Nat) : Int), sv, serS (lT T), (((rdNum ((gT T).getD 0 Tr.z) 1 16).1.toNat : Nat) : Int), cv, shF (rdStr ((gT T).getD 1 Tr.z) 2 65536).1, pv, shF (rdStr ((gT T).getD 2 Tr.z) 3 65536).1⟩
def endE (e : Int) (T : Tr) : Int :=
  let e1 := orE (orE (orE e (((rdSeq T 135 (2 : Nat) (2 : Nat)).2 : Nat) : Int)) (((rdSeq ((wT T).getD 0 Tr.z) 134 (5 : Nat) (5 : Nat)).2 : Nat) : Int)) (((rdSeq ((wT T).getD 1 Tr.z) 131 (3 : Nat) (3 : Nat)).2 : Nat) : Int)
  let e2 := orE (orE (orE (orE e1 (((rdStr ((fT T).getD 0 Tr.z) 1 40).2 : Nat) : Int)) (((rdNum ((fT T).getD 1 Tr.z) 2 18446744073709551615).2 : Nat) : Int)) (((rdNum ((fT T).getD 2 Tr.z) 3 1099511627776).2 : Nat) : Int)) (((rdNum ((fT T).getD 3 Tr.z) 4 1099511627776).2 : Nat) : Int)
  let e3 := orE (accE (orE e2 (((rdSeq ((fT T).getD 4 Tr.z) 129 (0 : Nat) (500 : Nat)).2 : Nat) : Int)) (lT T)) (((rdNum ((gT T).getD 0 Tr.z) 1 16).2 : Nat) : Int)
  let e4 := orE (orE e3 (((rdStr ((gT T).getD 1 Tr.z) 2 65536).2 : Nat) : Int)) (shE (rdStr ((gT T).getD 1 Tr.z) 2 65536).1)
  orE (orE e4 (((rdStr ((gT T).getD 2 Tr.z) 3 65536).2 : Nat) : Int)) (shE (rdStr ((gT T).getD 2 Tr.z) 3 65536).1)
structure OkT (T : Tr) : Prop where
  w : (rdSeq T 135 (2 : Nat) (2 : Nat)).2 = 0
  f : (rdSeq ((wT T).getD 0 Tr.z) 134 (5 : Nat) (5 : Nat)).2 = 0
  g : (rdSeq ((wT T).getD 1 Tr.z) 131 (3 : Nat) (3 : Nat)).2 = 0
  f0 : (rdStr ((fT T).getD 0 Tr.z) 1 40).2 = 0
  f1 : (rdNum ((fT T).getD 1 Tr.z) 2 18446744073709551615).2 = 0
  f2 : (rdNum ((fT T).getD 2 Tr.z) 3 1099511627776).2 = 0
  f3 : (rdNum ((fT T).getD 3 Tr.z) 4 1099511627776).2 = 0
  f4 : (rdSeq ((fT T).getD 4 Tr.z) 129 (0 : Nat) (500 : Nat)).2 = 0
  l : ∀ t ∈ lT T, (rdNum t 5 18446744073709551615).2 = 0
  g0 : (rdNum ((gT T).getD 0 Tr.z) 1 16).2 = 0
  g1 : (rdStr ((gT T).getD 1 Tr.z) 2 65536).2 = 0
  g2 : (rdStr ((gT T).getD 2 Tr.z) 3 65536).2 = 0
  s1 : shE (rdStr ((gT T).getD 1 Tr.z) 2 65536).1 = 0
  s2 : shE (rdStr ((gT T).getD 2 Tr.z) 3 65536).1 = 0
theorem endE_0 {e : Int} {T : Tr} : endE e T = 0 ↔ e = 0 ∧ OkT T := by
  unfold endE
  simp only [orE_0, accE_0, Int.natCast_eq_zero]
  constructor
  · rintro ⟨⟨⟨⟨⟨⟨⟨⟨⟨⟨⟨⟨⟨⟨h0, h1⟩, h2⟩, h3⟩, h4⟩, h5⟩, h6⟩, h7⟩, h8⟩, h9⟩, h10⟩, h11⟩, h12⟩, h13⟩, h14⟩
    exact ⟨h0, ⟨h1, h2, h3, h4, h5, h6, h7, h8, h9, h10, h11, h13, h12, h14⟩⟩
  · rintro ⟨h0, ⟨h1, h2, h3, h4, h5, h6, h7, h8, h9, h10, h11, h13, h12, h14⟩⟩
    exact ⟨⟨⟨⟨⟨⟨⟨⟨⟨⟨⟨⟨⟨⟨h0, h1⟩, h2⟩, h3⟩, h4⟩, h5⟩, h6⟩, h7⟩, h8⟩, h9⟩, h10⟩, h11⟩, h12⟩, h13⟩, h14⟩
theorem of64_nat {n : Nat} (h : n < 2 ^ 64) : (of64 ((n : Nat) : Int)).toNat = n := by
  unfold of64
  rw [UInt64.toNat_ofNat']
  have : (((n : Nat) : Int) % 18446744073709551616).toNat = n := by omega
  rw [this]; exact Nat.mod_eq_of_lt h
theorem list2 {l : List Tr} (h : l.length = 2) : l = [l.getD 0 Tr.z, l.getD 1 Tr.z] := by
  match l, h with
  | [a, b], _ => rfl
theorem list3 {l : List Tr} (h : l.length = 3) : l = [l.getD 0 Tr.z, l.getD 1 Tr.z, l.getD 2 Tr.z] := by
  match l, h with
  | [a, b, c], _ => rfl
theorem list5 {l : List Tr} (h : l.length = 5) : l = [l.getD 0 Tr.z, l.getD 1 Tr.z, l.getD 2 Tr.z, l.getD 3 Tr.z, l.getD 4 Tr.z] := by
  match l, h with
  | [a, b, c, d, e], _ => rfl
theorem sers_ok {L : List Tr} (h : ∀ t ∈ L, (rdNum t 5 18446744073709551615).2 = 0) : sersT (serS L) = L := by
  induction L with
  | nil => rfl
  | cons x L ih =>
    show serT (rdNum x 5 18446744073709551615).1 :: sersT (serS L) = _
    rw [ih fun t ht => h t (List.mem_cons_of_mem _ ht), serT, ← (num_ok (h x (List.mem_cons_self ..))).1]
theorem whole_of {T : Tr} (h : OkT T) (sv cv pv : Value) : wholeT (outR T sv cv pv) = T := by
  have q2 := (num_ok h.f2).2
  have q3 := (num_ok h.f3).2
  have q4 := (num_ok h.g0).2
  have b2 := of64_nat (n := (rdNum ((fT T).getD 2 Tr.z) 3 1099511627776).1.toNat) (UInt64.toNat_lt _)
  have b3 := of64_nat (n := (rdNum ((fT T).getD 3 Tr.z) 4 1099511627776).1.toNat) (UInt64.toNat_lt _)
  have b4 := of64_nat (n := (rdNum ((gT T).getD 0 Tr.z) 1 16).1.toNat) (UInt64.toNat_lt _)
  have eF : bodyT (outR T sv cv pv) = (wT T).getD 0 Tr.z := by
    have e1 := (seq_ok h.f).1
    have e2 := list5 (l := fT T) lsT_len
    have e3 : (fT T).getD 4 Tr.z = .nd 129 [] (lT T) := (seq_ok h.f4).1
    show Tr.nd 134 [] [.nd 1 (rdStr ((fT T).getD 0 Tr.z) 1 40).1 [], .nd 2 (numB (rdNum ((fT T).getD 1 Tr.z) 2 18446744073709551615).1.toNat) [], .nd 3 (numB (of64 (((rdNum ((fT T).getD 2 Tr.z) 3 1099511627776).1.toNat : Nat) : Int)).toNat) [], .nd 4 (numB (of64 (((rdNum ((fT T).getD 3 Tr.z) 4 1099511627776).1.toNat : Nat) : Int)).toNat) [], .nd 129 [] (sersT (serS (lT T)))] = _
    rw [b2, b3, sers_ok h.l, ← e3, ← (num_ok h.f1).1, ← (num_ok h.f2).1, ← (num_ok h.f3).1, ← str_ok h.f0, ← e2]
    exact e1.symm
  have eG : sigT (outR T sv cv pv) = (wT T).getD 1 Tr.z := by
    have e1 := (seq_ok h.g).1
    have e2 := list3 (l := gT T) lsT_len
    show Tr.nd 131 [] [.nd 1 (numB (of64 (((rdNum ((gT T).getD 0 Tr.z) 1 16).1.toNat : Nat) : Int)).toNat) [], .nd 2 (shF (rdStr ((gT T).getD 1 Tr.z) 2 65536).1).flatten [], .nd 3 (shF (rdStr ((gT T).getD 2 Tr.z) 3 65536).1).flatten []] = _
    rw [b4, shF_flat h.s1, shF_flat h.s2, ← (num_ok h.g0).1, ← str_ok h.g1, ← str_ok h.g2, ← e2]
    exact e1.symm
  have e1 := (seq_ok h.w).1
  have e2 := list2 (l := wT T) lsT_len
  show Tr.nd 135 [] [bodyT (outR T sv cv pv), sigT (outR T sv cv pv)] = _
  rw [eF, eG, ← e2]
  exact e1.symm
end Go.Proofs.Ytgnablliekgbgaa
namespace Go.Proofs.Ytgnablliekgbgaa
open Go Go.PL Go.RowKit
def okL (l : Rv) : Prop := chkR l = 0 ∧ (∀ x ∈ l.chs, x.length = 16) ∧ (∀ x ∈ l.ps, x.length = 16)
structure ChkI (l : Rv) : Prop where
  nm : l.nm.length ≤ 40
  fr0 : 0 ≤ l.fr
  fr1 : l.fr ≤ 1099511627776
  tt0 : 0 ≤ l.tt
  tt1 : l.tt ≤ 1099511627776
  ss : l.ss.length ≤ 500
  ix0 : 0 ≤ l.ix
  ix1 : l.ix ≤ 16
  c : l.chs.length ≤ 35
  p : l.ps.length ≤ 4
theorem sg_inv {ix : Int} {nc np : Nat} (h : gsigB ix nc np = true) : 0 ≤ ix ∧ ix ≤ 16 ∧ nc ≤ 35 ∧ np ≤ 4 := by
  unfold gsigB at h
  rw [Bool.or_eq_true, decide_eq_true_eq] at h
  rcases h with h | h
  · unfold sigB at h
    simp only [Bool.not_eq_true', Bool.or_eq_false_iff, decide_eq_false_iff_not] at h
    omega
  · unfold sgChk at h
    split at h
    · rename_i h1
      split at h
      · rename_i h2
        rw [Int.toNat_natCast] at h2
        have := pow_le16 (m := np) zz11
        omega
      · cases h
    · cases h
theorem chk_all {l : Rv} (h : chkR l = 0) : ChkI l := by
  unfold chkR at h
  split at h
  · cases h
  · rename_i h1
    split at h
    · rename_i h2
      unfold okR okA at h2
      simp only [Bool.and_eq_true, decide_eq_true_eq] at h2
      obtain ⟨⟨⟨a1, a2⟩, a3⟩, _⟩ := h2
      have a4 := sg_inv a3
      unfold nameF at a1
      unfold winF timeF at a2
      simp only [Bool.and_eq_true, decide_eq_true_eq] at a1 a2
      exact ⟨a1.1.2, a2.1.1.1, a2.1.1.2, a2.1.2.1, a2.1.2.2, zz11, a4.1, a4.2.1, a4.2.2.1, a4.2.2.2⟩
    · cases h
theorem chk_lim {l : Rv} (h : chkR l = 0) : RLim l := by
  have q := chk_all h
  exact ⟨by have := q.nm; omega, by have := q.ss; omega, by have := q.c; omega, by have := q.p; omega⟩
theorem seq_mk {g : UInt8} {ks : List Tr} {lo hi : Nat} (h1 : lo ≤ ks.length) (h2 : ks.length ≤ hi) : (rdSeq (.nd g [] ks) g lo hi).2 = 0 ∧ lsT (.nd g [] ks) g lo hi = ks := by
  have hb : ¬ badL g lo hi (.nd g [] ks) := by
    rintro (h | h | h | h)
    · exact h rfl
    · exact absurd h (by show ¬ 0 < 0; omega)
    · have h : (ks.length : Int) < lo := h
      omega
    · have h : (hi : Int) < ks.length := h
      omega
  exact ⟨by rw [rdSeq, if_neg hb], by rw [lsT, if_neg hb]; rfl⟩
theorem num_mk {g : UInt8} {z mx : UInt64} (h : z.toNat ≤ mx.toNat) : rdNum (.nd g (numB z.toNat) []) g mx = (z, 0) := by
  rw [rdNum_num, if_neg]
  rintro (h | h)
  · exact h rfl
  · omega
theorem str_mk {g : UInt8} {bs : List UInt8} {mx : Int} (h : (bs.length : Int) ≤ mx) : rdStr (.nd g bs []) g mx = (bs, 0) := by
  rw [rdStr_str, if_neg]
  rintro (h | h)
  · exact h rfl
  · omega
theorem flat_inj : ∀ {a b : List (List UInt8)}, (∀ x ∈ a, x.length = 16) → (∀ x ∈ b, x.length = 16) → a.flatten = b.flatten → a = b
  | [], [], _, _, _ => rfl
  | [], y :: b, _, hb, h => by
    have := congrArg List.length h
    rw [List.flatten_cons, List.length_append, hb y (List.mem_cons_self ..)] at this
    first | (simp at this; done) | (simp at this; omega)
  | x :: a, [], ha, _, h => by
    have := congrArg List.length h
    rw [List.flatten_cons, List.length_append, ha x (List.mem_cons_self ..)] at this
    first | (simp at this; done) | (simp at this; omega)
  | x :: a, y :: b, ha, hb, h => by
    rw [List.flatten_cons, List.flatten_cons] at h
    obtain ⟨h1, h2⟩ := List.append_inj h (by rw [ha x (List.mem_cons_self ..), hb y (List.mem_cons_self ..)])
    rw [h1, flat_inj (fun z hz => ha z (List.mem_cons_of_mem _ hz)) (fun z hz => hb z (List.mem_cons_of_mem _ hz)) h2]
theorem shF_of {l : List (List UInt8)} (h : ∀ x ∈ l, x.length = 16) : shE l.flatten = 0 ∧ shF l.flatten = l := by
  have h1 := flat_len l h
  have h2 : shE l.flatten = 0 := by unfold shE; rw [if_neg zz11]
  exact ⟨h2, flat_inj shK_all h (shF_flat h2)⟩
theorem of64_int {i : Int} (h0 : 0 ≤ i) (h1 : i ≤ 1099511627776) : (((of64 i).toNat : Nat) : Int) = i := by
  obtain ⟨n, rfl⟩ : ∃ n : Nat, i = n := ⟨i.toNat, zz11⟩
  rw [of64_nat zz11]
theorem sers_mk (ss : List UInt64) : serS (sersT ss) = ss ∧ ∀ t ∈ sersT ss, (rdNum t 5 18446744073709551615).2 = 0 := by
  induction ss with
  | nil => exact ⟨rfl, fun t ht => by cases ht⟩
  | cons s ss ih =>
    have e : rdNum (serT s) 5 18446744073709551615 = (s, 0) := num_mk (by have := s.toNat_lt; show s.toNat ≤ 18446744073709551615; omega)
    refine ⟨?_, fun t ht => ?_⟩
    · show (rdNum (serT s) 5 18446744073709551615).1 :: serS (sersT ss) = _
      rw [e, ih.1]
    · rcases List.mem_cons.1 ht with rfl | ht
      · rw [e]
      · exact ih.2 t ht
theorem of_whole {l : Rv} (h : okL l) (sv cv pv : Value) : OkT (wholeT l) ∧ (outR (wholeT l) sv cv pv).eqv l := by
  have q := chk_all h.1
  obtain ⟨q1, q2, q3, q4, q5, q6, q7, q8, q9, q10⟩ := q
  have c1 := flat_len l.chs h.2.1
  have c2 := flat_len l.ps h.2.2
  obtain ⟨w1, w2⟩ := seq_mk (g := 135) (ks := [bodyT l, sigT l]) (lo := 2) (hi := 2) (Nat.le_refl _) (Nat.le_refl _)
  have eW : wT (wholeT l) = [bodyT l, sigT l] := w2
  obtain ⟨f1, f2⟩ := seq_mk (g := 134) (ks := (bodyT l).kids) (lo := 5) (hi := 5) (Nat.le_refl _) (Nat.le_refl _)
  obtain ⟨g1, g2⟩ := seq_mk (g := 131) (ks := (sigT l).kids) (lo := 3) (hi := 3) (Nat.le_refl _) (Nat.le_refl _)
  have eF : fT (wholeT l) = (bodyT l).kids := by unfold fT; rw [eW]; exact f2
  have eG : gT (wholeT l) = (sigT l).kids := by unfold gT; rw [eW]; exact g2
  obtain ⟨l1, l2⟩ := seq_mk (g := 129) (ks := sersT l.ss) (lo := 0) (hi := 500) (Nat.zero_le _) (by rw [sersT_len]; exact q6)
  have eL : lT (wholeT l) = sersT l.ss := by unfold lT; rw [eF]; exact l2
  have n0 : rdStr ((bodyT l).kids.getD 0 Tr.z) 1 40 = (l.nm, 0) := str_mk zz11
  have n1 : rdNum ((bodyT l).kids.getD 1 Tr.z) 2 18446744073709551615 = (l.no, 0) := num_mk (by have := l.no.toNat_lt; show l.no.toNat ≤ 18446744073709551615; omega)
  have i2 := of64_int q2 q3
  have i3 := of64_int q4 q5
  have i4 := of64_int q7 zz11
  have n2 : rdNum ((bodyT l).kids.getD 2 Tr.z) 3 1099511627776 = (of64 l.fr, 0) := num_mk (by show (of64 l.fr).toNat ≤ 1099511627776; omega)
  have n3 : rdNum ((bodyT l).kids.getD 3 Tr.z) 4 1099511627776 = (of64 l.tt, 0) := num_mk (by show (of64 l.tt).toNat ≤ 1099511627776; omega)
  have n4 : rdNum ((sigT l).kids.getD 0 Tr.z) 1 16 = (of64 l.ix, 0) := num_mk (by show (of64 l.ix).toNat ≤ 16; omega)
  have n5 : rdStr ((sigT l).kids.getD 1 Tr.z) 2 65536 = (l.chs.flatten, 0) := str_mk zz11
  have n6 : rdStr ((sigT l).kids.getD 2 Tr.z) 3 65536 = (l.ps.flatten, 0) := str_mk zz11
  have s1 := shF_of h.2.1
  have s2 := shF_of h.2.2
  refine ⟨⟨w1, by rw [eW]; exact f1, by rw [eW]; exact g1, by rw [eF, n0], by rw [eF, n1], by rw [eF, n2], by rw [eF, n3], by rw [eF]; exact l1, by rw [eL]; exact (sers_mk l.ss).2, by rw [eG, n4], by rw [eG, n5], by rw [eG, n6], by rw [eG, n5]; exact s1.1, by rw [eG, n6]; exact s2.1⟩, ?_⟩
  refine ⟨?_, ?_, ⟨?_, ?_⟩, ?_, ?_, ?_, ?_⟩
  · show (rdStr ((fT (wholeT l)).getD 0 Tr.z) 1 40).1 = l.nm
    rw [eF, n0]
  · show (rdNum ((fT (wholeT l)).getD 1 Tr.z) 2 18446744073709551615).1 = l.no
    rw [eF, n1]
  · show (((rdNum ((fT (wholeT l)).getD 2 Tr.z) 3 1099511627776).1.toNat : Nat) : Int) = l.fr
    rw [eF, n2]; exact i2
  · show (((rdNum ((fT (wholeT l)).getD 3 Tr.z) 4 1099511627776).1.toNat : Nat) : Int) = l.tt
    rw [eF, n3]; exact i3
  · show serS (lT (wholeT l)) = l.ss
    rw [eL]; exact (sers_mk l.ss).1
  · show (((rdNum ((gT (wholeT l)).getD 0 Tr.z) 1 16).1.toNat : Nat) : Int) = l.ix
    rw [eG, n4]; exact i4
  · show shF (rdStr ((gT (wholeT l)).getD 1 Tr.z) 2 65536).1 = l.chs
    rw [eG, n5]; exact s1.2
  · show shF (rdStr ((gT (wholeT l)).getD 2 Tr.z) 3 65536).1 = l.ps
    rw [eG, n6]; exact s2.2
theorem eqv_chk {a b : Rv} (h : a.eqv b) : chkR a = chkR b := by
  obtain ⟨nm, no, fr, tt, sv, ss, ix, cv, chs, pv, ps⟩ := a
  obtain ⟨nm2, no2, fr2, tt2, sv2, ss2, ix2, cv2, chs2, pv2, ps2⟩ := b
  obtain ⟨e1, e2, ⟨e3, e4⟩, e5, e6, e7, e8⟩ := h
  dsimp only at e1 e2 e3 e4 e5 e6 e7 e8
  subst e1 e2 e3 e4 e5 e6 e7 e8
  rfl
theorem eqv_refl (a : Rv) : a.eqv a := ⟨rfl, rfl, ⟨rfl, rfl⟩, rfl, rfl, rfl, rfl⟩
theorem enc_dec {l : Rv} (h : okL l) : decF (enc (wholeT l)) = (wholeT l, 0) := dec_enc (sm_whole (chk_lim h.1) h.2.1 h.2.2) (chk_whole h.1 (chk_lim h.1) h.2.1 h.2.2)
def DecP (xs : List UInt8) (y : Rv) (e : Int) : Prop := (e = 0 ∧ okL y ∧ enc (wholeT y) = xs) ∨ (e = 12 ∧ y.eqv Rv.z ∧ ∀ l, okL l → enc (wholeT l) ≠ xs)
theorem dec_yes {xs : List UInt8} {sv cv pv : Value} (h : endE (decF xs).2 (decF xs).1 = 0) (hc : chkR (outR (decF xs).1 sv cv pv) = 0) : DecP xs (outR (decF xs).1 sv cv pv) 0 := by
  obtain ⟨h0, h1⟩ := endE_0.1 h
  exact .inl ⟨rfl, ⟨hc, shK_all, shK_all⟩, by rw [whole_of h1]; exact (dec_inv h0).2⟩
theorem dec_no1 {xs : List UInt8} (h : endE (decF xs).2 (decF xs).1 ≠ 0) : DecP xs Rv.z 12 := .inr ⟨rfl, eqv_refl _, fun l hl e => by
  subst e
  rw [enc_dec hl] at h
  exact h (endE_0.2 ⟨rfl, (of_whole hl nl nl nl).1⟩)⟩
theorem dec_no2 {xs : List UInt8} {sv cv pv : Value} (hc : chkR (outR (decF xs).1 sv cv pv) ≠ 0) : DecP xs Rv.z 12 := .inr ⟨rfl, eqv_refl _, fun l hl e => by
  subst e
  rw [enc_dec hl] at hc
  exact hc ((eqv_chk (of_whole hl sv cv pv).2).trans hl.1)⟩
end Go.Proofs.Ytgnablliekgbgaa
namespace Go.Proofs.Ytgnablliekgbgaa
open Go Go.PL Go.RowKit
theorem eqv_symm {a b : Rv} (h : a.eqv b) : b.eqv a := ⟨h.1.symm, h.2.1.symm, ⟨h.2.2.1.1.symm, h.2.2.1.2.symm⟩, h.2.2.2.1.symm, h.2.2.2.2.1.symm, h.2.2.2.2.2.1.symm, h.2.2.2.2.2.2.symm⟩
theorem eqv_trans {a b c : Rv} (h : a.eqv b) (k : b.eqv c) : a.eqv c := ⟨h.1.trans k.1, h.2.1.trans k.2.1, ⟨h.2.2.1.1.trans k.2.2.1.1, h.2.2.1.2.trans k.2.2.1.2⟩, h.2.2.2.1.trans k.2.2.2.1, h.2.2.2.2.1.trans k.2.2.2.2.1, h.2.2.2.2.2.1.trans k.2.2.2.2.2.1, h.2.2.2.2.2.2.trans k.2.2.2.2.2.2⟩
theorem dec_inj {a b : Rv} (ha : okL a) (hb : okL b) (h : enc (wholeT a) = enc (wholeT b)) : a.eqv b := by
  have e : wholeT b = wholeT a := by
    have h1 := enc_dec ha
    rw [h, enc_dec hb] at h1
    exact congrArg Prod.fst h1
  have qa := (of_whole ha nl nl nl).2
  rw [← e] at qa
  exact eqv_trans (eqv_symm qa) (of_whole hb nl nl nl).2
theorem DecP.uniq {xs : List UInt8} {y z : Rv} {e f : Int} (h : DecP xs y e) (k : DecP xs z f) : y.eqv z ∧ e = f := by
  rcases h with ⟨he, ho, hx⟩ | ⟨he, hz, hn⟩ <;> rcases k with ⟨ke, ko, kx⟩ | ⟨ke, kz, kn⟩
  · exact ⟨dec_inj ho ko (hx.trans kx.symm), he.trans ke.symm⟩
  · exact absurd hx (kn _ ho)
  · exact absurd kx (hn _ ko)
  · exact ⟨eqv_trans hz (eqv_symm kz), he.trans ke.symm⟩
def smX (x m : UInt64) : Int := if m < x then -1 else ((x.toNat : Nat) : Int)
def shX (bs : List UInt8) : List (List UInt8) := (List.range (bs.length / 16)).map fun j => (bs.drop (16 * j)).take 16
def shXk (bs : List UInt8) (k : Nat) : List (List UInt8) := (List.range k).map fun j => (bs.drop (16 * j)).take 16
theorem shXk_len (bs : List UInt8) (k : Nat) : (shXk bs k).length = k := by simp [shXk]
theorem shXk_S (bs : List UInt8) (k : Nat) : shXk bs (k + 1) = shXk bs k ++ [(bs.drop (16 * k)).take 16] := by simp [shXk, List.range_succ]
theorem shX_all {bs : List UInt8} {k : Nat} (hk : 16 * k ≤ bs.length) : ∀ x ∈ shXk bs k, x.length = 16 := by
  intro x hx
  obtain ⟨j, hj, rfl⟩ := List.mem_map.1 hx
  have hj := List.mem_range.1 hj
  rw [List.length_take, List.length_drop]; omega
theorem shX_flat {bs : List UInt8} : ∀ {k : Nat}, 16 * k ≤ bs.length → (shXk bs k).flatten = bs.take (16 * k)
  | 0, _ => rfl
  | k + 1, h => by
    rw [shXk_S, List.flatten_append, shX_flat zz11]
    simp only [List.flatten_cons, List.flatten_nil, List.append_nil]
    rw [show 16 * (k + 1) = 16 * k + 16 from zz11, List.take_add]
theorem shX_16 (bs : List UInt8) : ∀ x ∈ shX bs, x.length = 16 := shX_all zz11
theorem shX_of {l : List (List UInt8)} (h : ∀ x ∈ l, x.length = 16) : shX l.flatten = l := by
  have h1 := flat_len l h
  refine flat_inj (shX_16 _) h ?_
  show (shXk _ _).flatten = _
  rw [shX_flat zz11, show 16 * (l.flatten.length / 16) = l.flatten.length from zz11, List.take_length]
def kX (T : Tr) (i : Nat) : Tr := T.kids.getD i Tr.z
def nX (T : Tr) (g : UInt8) : UInt64 := (rdNum T g 18446744073709551615).1
theorem nX_no {T : Tr} {g : UInt8} (h : (rdNum T g 18446744073709551615).2 ≠ 0) : nX T g = 0 := by
  unfold nX
  unfold rdNum at h ⊢
  by_cases h1 : badN g T
  · rw [if_pos h1]
  · rw [if_neg h1] at h ⊢
    split at h
    · rename_i h2; rw [if_pos h2]
    · exact absurd rfl h
def serX (L : List Tr) : List UInt64 := L.map fun t => nX t 5
theorem serX_len (L : List Tr) : (serX L).length = L.length := List.length_map ..
theorem serX_S {L : List Tr} {i : Nat} (h : i < L.length) : serX (L.take (i + 1)) = serX (L.take i) ++ [nX (L.getD i Tr.z) 5] := by
  rw [List.take_add_one, List.getElem?_eq_getElem h, serX, List.map_append, List.getD_eq_getElem?_getD, List.getElem?_eq_getElem h]; rfl
def outX (T : Tr) (sv cv pv : Value) : Rv := ⟨(kX (kX T 0) 0).bs, nX (kX (kX T 0) 1) 2, smX (nX (kX (kX T 0) 2) 3) 1099511627776, smX (nX (kX (kX T 0) 3) 4) 1099511627776, sv, serX (kX (kX T 0) 4).kids, smX (nX (kX (kX T 1) 0) 1) 1000, cv, shX (kX (kX T 1) 1).bs, pv, shX (kX (kX T 1) 2).bs⟩
theorem smX_ok {x m : UInt64} (h : x.toNat ≤ m.toNat) : smX x m = ((x.toNat : Nat) : Int) := by
  unfold smX
  rw [if_neg (fun k : m < x => by have k : m.toNat < x.toNat := k; omega)]
theorem serX_mk (ss : List UInt64) : serX (sersT ss) = ss := (sers_mk ss).1
theorem of_wholeX {l : Rv} (h : okL l) (sv cv pv : Value) : (outX (wholeT l) sv cv pv).eqv l := by
  obtain ⟨q1, q2, q3, q4, q5, q6, q7, q8, q9, q10⟩ := chk_all h.1
  have mk : ∀ (g : UInt8) (z : UInt64), nX (.nd g (numB z.toNat) []) g = z := fun g z => by
    have e : rdNum (.nd g (numB z.toNat) []) g 18446744073709551615 = (z, 0) := num_mk (by have := z.toNat_lt; show z.toNat ≤ 18446744073709551615; omega)
    unfold nX; rw [e]
  have i2 := of64_int q2 q3
  have i3 := of64_int q4 q5
  have i4 := of64_int q7 (show l.ix ≤ 1099511627776 from zz11)
  refine ⟨rfl, mk 2 l.no, ⟨?_, ?_⟩, serX_mk l.ss, ?_, shX_of h.2.1, shX_of h.2.2⟩
  · show smX (nX (.nd 3 (numB (of64 l.fr).toNat) []) 3) 1099511627776 = l.fr
    rw [mk, smX_ok (by show (of64 l.fr).toNat ≤ 1099511627776; omega), i2]
  · show smX (nX (.nd 4 (numB (of64 l.tt).toNat) []) 4) 1099511627776 = l.tt
    rw [mk, smX_ok (by show (of64 l.tt).toNat ≤ 1099511627776; omega), i3]
  · show smX (nX (.nd 1 (numB (of64 l.ix).toNat) []) 1) 1000 = l.ix
    rw [mk, smX_ok (by show (of64 l.ix).toNat ≤ 1000; omega), i4]
theorem decX_no0 {xs : List UInt8} (h : (decF xs).2 ≠ 0) : DecP xs Rv.z 12 := .inr ⟨rfl, eqv_refl _, fun l hl e => by
  subst e
  rw [enc_dec hl] at h
  exact h rfl⟩
theorem decX_no1 {xs : List UInt8} {sv cv pv : Value} (h : chkR (outX (decF xs).1 sv cv pv) ≠ 0) : DecP xs Rv.z 12 := .inr ⟨rfl, eqv_refl _, fun l hl e => by
  subst e
  rw [enc_dec hl] at h
  exact h ((eqv_chk (of_wholeX hl sv cv pv)).trans hl.1)⟩
theorem eqv_whole {a b : Rv} (h : a.eqv b) : wholeT a = wholeT b := by
  obtain ⟨nm, no, fr, tt, sv, ss, ix, cv, chs, pv, ps⟩ := a
  obtain ⟨nm2, no2, fr2, tt2, sv2, ss2, ix2, cv2, chs2, pv2, ps2⟩ := b
  obtain ⟨e1, e2, ⟨e3, e4⟩, e5, e6, e7, e8⟩ := h
  dsimp only at e1 e2 e3 e4 e5 e6 e7 e8
  subst e1 e2 e3 e4 e5 e6 e7 e8
  rfl
theorem decX_no2 {xs : List UInt8} {sv cv pv : Value} (h : enc (wholeT (outX (decF xs).1 sv cv pv)) ≠ xs) : DecP xs Rv.z 12 := .inr ⟨rfl, eqv_refl _, fun l hl e => by
  subst e
  rw [enc_dec hl] at h
  exact h (by rw [eqv_whole (of_wholeX hl sv cv pv)])⟩
theorem decX_yes {xs : List UInt8} {sv cv pv : Value} (hc : chkR (outX (decF xs).1 sv cv pv) = 0) (h : enc (wholeT (outX (decF xs).1 sv cv pv)) = xs) : DecP xs (outX (decF xs).1 sv cv pv) 0 := .inl ⟨rfl, ⟨hc, shX_16 _, shX_16 _⟩, h⟩
end Go.Proofs.Ytgnablliekgbgaa
namespace Go.Proofs.Ytgnablliekgbgaa
open Go Go.PL Go.RowKit
def lsH (y : Value × List HT) : HT := .nd 0 nl [] y.1 y.2
theorem lsH_frz {w0 w : World} {M : List Ent} {S : List Fact} (y : Value × List HT) (h : Mem w0 [] (rowsL y.1 y.2 ++ M) S w) : Mem w0 [] M (Go.Proofs.Ytgnablliekgbgaa.hseen (lsH y) :: S) w := Mem.freezeT (t := lsH y) (M := M) (h.nilRow 5 1)
theorem hseen_rdo {w0 w : World} {Ln : List Nat} {M M1 : List Ent} {S : List Fact} {t : HT} (h : Mem w0 Ln M S w) (hs : Go.Proofs.Ytgnablliekgbgaa.hseen t ∈ S) (hM : ∀ e ∈ M1, e ∈ M) : HSeen (rdO (nums M1) w) t := (h.facts _ hs : HSeen (rdF w0.heap.size M w) t).mono fun a u hu => by
  unfold rdF at hu
  split at hu
  · rename_i h1
    unfold rdO
    rw [if_neg]
    · exact hu
    · intro hm
      obtain ⟨e, he, hn⟩ := mem_nums.1 hm
      exact inM_not h1.2 e (hM e he) hn
  · cases hu
theorem HSeen.lsK {r : Rd} {y : Value × List HT} (h : HSeen r (lsH y)) {i : Nat} (hi : i < y.2.length) : HSeen r (y.2.getD i HT.z) := HSeen.kid h hi
theorem HSeen.lsS {r : Rd} {y : Value × List HT} (h : HSeen r (lsH y)) : Seen r y.1 y.2.length 3 (hcs y.2) := h.2.1
section
variable {P : Program} {n : Cx} {L : Slots} {Q : Exit → Act → World → Prop} {w0 : World} {M : List Ent} {S : List Fact}
theorem selC_rem {α : Type} {m l : List α} {x : α} (h : Rem m x l) : SelC (x :: l) m := ⟨.cons h (Sel.sub (Sub.refl l))⟩
theorem t_callLS {f : Operand} {k : FuncId} {first cap : Array Value} {args : Array Operand} {at_ : Array TypeId} {vs : List Value} {p : Value × List HT → Prop} (e e' : Ent) {X : List Ent} [hr : RemC M e X]
    (hf : ev L f = some (.func (.func k) first cap)) (hb : HasBody P k) (hv : evs L args.toList = some vs)
    (hc : ∀ w, Mem w0 [] M S w → Mem w (nums [e]) [e] [] w → Calls P k (first ++ vs.toArray ++ cap) w (GivesA w [e] p (fun y => y.1) (fun y => e' :: rowsL y.1 y.2))) :
    TOpP P Q n (Mem w0 [] M S) L (.call { callee := .value f, args := args, argTypes := at_ }) (Value × List HT) p (fun y => y.1) (fun y => Mem w0 [] (e' :: X) (Go.Proofs.Ytgnablliekgbgaa.hseen (lsH y) :: S)) :=
  haveI : SelC (e :: X) M := selC_rem hr.h
  t_callW (N := fun y : Value × List HT => e' :: rowsL y.1 y.2) [e] X (e :: X) (fun _ => e' :: X) (fun y => Go.Proofs.Ytgnablliekgbgaa.hseen (lsH y) :: S) rfl (fun y _ _ h => lsH_frz y (h.perm List.perm_middle.symm)) hf hb hv hc
theorem t_callU {f : Operand} {k : FuncId} {first cap : Array Value} {args : Array Operand} {at_ : Array TypeId} {vs : List Value} {V : Unit → Value} (e e' : Ent) {X : List Ent} [hr : RemC M e X]
    (hf : ev L f = some (.func (.func k) first cap)) (hb : HasBody P k) (hv : evs L args.toList = some vs)
    (hc : ∀ w, Mem w0 [] M S w → Mem w (nums [e]) [e] [] w → Calls P k (first ++ vs.toArray ++ cap) w (GivesA w [e] (fun _ : Unit => True) V (fun _ => [e']))) :
    TOpP P Q n (Mem w0 [] M S) L (.call { callee := .value f, args := args, argTypes := at_ }) Unit (fun _ => True) V (fun _ => Mem w0 [] (e' :: X) S) :=
  haveI : SelC (e :: X) M := selC_rem hr.h
  t_callW (N := fun _ : Unit => [e']) [e] X (e :: X) (fun _ => e' :: X) (fun _ => S) rfl (fun _ _ _ h => h) hf hb hv hc
theorem t_callUR {f : Operand} {k : FuncId} {first cap : Array Value} {args : Array Operand} {at_ : Array TypeId} {vs : List Value} {p : Value → Prop} {r : Value → Ent} (e e' : Ent) {X : List Ent} [hr : RemC M e X]
    (hf : ev L f = some (.func (.func k) first cap)) (hb : HasBody P k) (hv : evs L args.toList = some vs)
    (hc : ∀ w, Mem w0 [] M S w → Mem w (nums [e]) [e] [] w → Calls P k (first ++ vs.toArray ++ cap) w (GivesA w [e] p (fun y => y) (fun y => [e', r y]))) :
    TOpP P Q n (Mem w0 [] M S) L (.call { callee := .value f, args := args, argTypes := at_ }) Value p (fun y => y) (fun y => Mem w0 [] (e' :: r y :: X) S) :=
  haveI : SelC (e :: X) M := selC_rem hr.h
  t_callW (N := fun y : Value => [e', r y]) [e] X (e :: X) (fun y => e' :: r y :: X) (fun _ => S) rfl (fun _ _ _ h => h) hf hb hv hc
end
theorem rdrListF (eb : Nat) (t : HT) (T : Tr) (g : UInt8) (lo hi : Nat) (cur : Int) (w : World) (hB : Mem w (nums [.blk eb 33 [.int .i64 cur]]) [.blk eb 33 [.int .i64 cur]] [] w) (ht : HSeen (rdO (nums [.blk eb 33 [.int .i64 cur]]) w) t) (hT : t.tr = T) (hsm : Sm T) (hlo : lo ≤ 10) : Calls Try.prog 52 [.agg #[(.func (.func 49) #[] #[.pointer (some ⟨eb, 0, none⟩)])], .agg t.c.toArray, .int .u8 (g.toNat : Int), .int .i64 ((lo : Nat) : Int), .int .i64 ((hi : Nat) : Int)].toArray w (GivesA w [.blk eb 33 [.int .i64 cur]] (fun y : Value × List HT => trs y.2 = lsT T g lo hi ∧ SV y.1 y.2.length ∧ ∀ x ∈ y.2, x.sv) (fun y => y.1) (fun y => .blk eb 33 [.int .i64 (orE cur (((rdSeq T g lo hi).2 : Nat) : Int))] :: rowsL y.1 y.2)) := by
  subst hT
  exact rdrList eb t g lo hi cur w hB ht hsm hlo
theorem rdrNumF (eb : Nat) (t : HT) (T : Tr) (g : UInt8) (mx : UInt64) (cur : Int) (w : World) (hB : Mem w (nums [.blk eb 33 [.int .i64 cur]]) [.blk eb 33 [.int .i64 cur]] [] w) (ht : HSeen (rdO (nums [.blk eb 33 [.int .i64 cur]]) w) t) (hT : t.tr = T) : Calls Try.prog 51 [.agg #[(.func (.func 49) #[] #[.pointer (some ⟨eb, 0, none⟩)])], .agg t.c.toArray, .int .u8 (g.toNat : Int), .int .u64 (mx.toNat : Int)].toArray w (GivesA w [.blk eb 33 [.int .i64 cur]] (fun _ : Unit => True) (fun _ => .int .u64 ((rdNum T g mx).1.toNat : Int)) (fun _ => [.blk eb 33 [.int .i64 (orE cur (((rdNum T g mx).2 : Nat) : Int))]])) := by
  subst hT
  exact rdrNum eb t g mx cur w hB ht
theorem rdrStrF (eb : Nat) (t : HT) (T : Tr) (g : UInt8) (mx : Int) (cur : Int) (w : World) (hB : Mem w (nums [.blk eb 33 [.int .i64 cur]]) [.blk eb 33 [.int .i64 cur]] [] w) (ht : HSeen (rdO (nums [.blk eb 33 [.int .i64 cur]]) w) t) (hT : t.tr = T) : Calls Try.prog 53 [.agg #[(.func (.func 49) #[] #[.pointer (some ⟨eb, 0, none⟩)])], .agg t.c.toArray, .int .u8 (g.toNat : Int), .int .i64 mx].toArray w (GivesA w [.blk eb 33 [.int .i64 cur]] (fun _ : Unit => True) (fun _ => str (rdStr T g mx).1) (fun _ => [.blk eb 33 [.int .i64 (orE cur (((rdStr T g mx).2 : Nat) : Int))]])) := by
  subst hT
  exact rdrStr eb t g mx cur w hB ht
theorem rdrShF (eb : Nat) (t : HT) (T : Tr) (g : UInt8) (cur : Int) (w : World) (hB : Mem w (nums [.blk eb 33 [.int .i64 cur]]) [.blk eb 33 [.int .i64 cur]] [] w) (ht : HSeen (rdO (nums [.blk eb 33 [.int .i64 cur]]) w) t) (hT : t.tr = T) (hbl : T.bs.length ≤ 1000000) : Calls Try.prog 54 [.agg #[(.func (.func 49) #[] #[.pointer (some ⟨eb, 0, none⟩)])], .agg t.c.toArray, .int .u8 (g.toNat : Int)].toArray w (GivesA w [.blk eb 33 [.int .i64 cur]] (fun y : Value => SV y (shF (rdStr T g 65536).1).length) (fun y => y) (fun y => [.blk eb 33 [.int .i64 (orE (orE cur (((rdStr T g 65536).2 : Nat) : Int)) (shE (rdStr T g 65536).1))], .row y (shF (rdStr T g 65536).1).length 62 16 (v8s (shF (rdStr T g 65536).1).flatten)])) := by
  subst hT
  exact rdrShorts eb t g cur w hB ht hbl
end Go.Proofs.Ytgnablliekgbgaa
