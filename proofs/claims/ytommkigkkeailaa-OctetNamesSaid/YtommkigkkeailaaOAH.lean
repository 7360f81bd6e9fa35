/- The reader: cut and length. -/
import Derived.Test.YtommkigkkeailaaOAG
namespace Go.Proofs.Ytommkigkkeailaa
set_option linter.unusedSimpArgs false
set_option linter.unusedVariables false
open Go Go.PL Go.RowKit

theorem cutA {r : Rd} {v : Value} {ys : List UInt8} (h : Seen r v ys.length 1 (v8s ys)) {a : Nat} (ha : a ≤ ys.length) : Seen r (slv v a ys.length 1) (ys.drop a).length 1 (v8s (ys.drop a)) := by
  have q := (h.slv8 a ys.length ha (Nat.le_refl _)).re8
  rw [List.take_of_length_le (by rw [List.length_drop]; omega)] at q
  exact q
theorem cutB {r : Rd} {v : Value} {ys : List UInt8} (h : Seen r v ys.length 1 (v8s ys)) {a : Nat} (ha : a ≤ ys.length) : Seen r (slv v 0 a 1) (ys.take a).length 1 (v8s (ys.take a)) := by
  have q := (h.slv8 0 a (Nat.zero_le _) ha).re8
  rw [List.drop_zero, Nat.sub_zero] at q
  exact q
section
variable {P : Program} {n : Cx} {R : World → Prop} {L : Slots} {Q : Exit → Act → World → Prop} {w0 : World} {Ln : List Nat} {M : List Ent} {S : List Fact} {bad bad1 c : Prop}
def isIface : TypeDesc → Bool
  | .interface _ => true
  | _ => false
theorem q_mkI {t : TypeId} {x : Operand} {v : Value} {dd : TypeDesc} (hu : P.underlying t = some dd) (hd : isIface dd = false) (hx : ev L x = some v) : QOp P n R L (.makeInterface t x) (.iface t v) := by
  intro d ty pos af g a w hs _
  have e : (Instr.makeInterface t v).run P w = .ok (.iface t v) w := by
    cases dd <;> first | (cases hd; done) | (simp [Instr.makeInterface, run_underlying hu, Sem.run_bind, Result.andThen, pure])
  simp only [execOp, hs.eval hx]
  simp [e]
theorem Sel.self {α : Type} : ∀ l : List α, Sel l l
  | [] => .nil
  | _ :: l => .cons .here (Sel.self l)
/-- A call of a function without results that panics, or has seen that c. -/
theorem t_callX0 {k : FuncId} {args : Array Operand} {at_ : Array TypeId} {vs : List Value} (hb : HasBody P k) (hv : evs L args.toList = some vs)
    (hc : ∀ w, Calls P k vs.toArray w (GivesX w [] (fun _ : Unit => c) (fun _ => .tuple #[]) (fun _ => []) bad1)) [hO : OutX Q n.ds w0 Ln bad] (hbad : bad1 → bad) :
    TOpP P Q n (Mem w0 Ln M S) L (.call { callee := .value (.func k), args := args, argTypes := at_ }) Unit (fun _ => c) (fun _ => .tuple #[]) (fun _ => Mem w0 Ln M S) := by
  have : SelC M M := ⟨Sel.self M⟩
  exact t_callX [] M M (fun _ => M) rfl (fun _ _ => .refl _) hb hv (fun w _ _ => hc w) hbad
end


theorem lenP_1 {ys : List UInt8} (h : 1 ≤ ys.length) : (ys.take 1).getD 0 0 = ys.getD 0 0 := by
  cases ys with
  | nil => cases h
  | cons a l => rfl
theorem or_byte (a b : Nat) (h : b < 256) : a * 2 ^ 8 ||| b = 256 * a + b := by
  have := Nat.two_pow_add_eq_or_of_lt (i := 8) (b := b) (by omega) a
  rw [Nat.mul_comm a, ← this]

set_option maxRecDepth 100000 in
theorem must (b : Bool) (w : World)   :
    Calls Try.prog 58 [.bool b].toArray w (GivesX w [] (fun _ : Unit => b = true) (fun _ => .tuple #[]) (fun _ => []) (b = false)) := by
  refine enter (m := 6) (R := Mem w (nums []) [] []) Try.func58 rfl rfl (Nat.le_of_ble_eq_true rfl) (Mem.start w) ?_
  refine wpc_seq ?_
  refine wpc_region ?_
  refine wpl_q (q_pure rfl) rfl ?_
  refine wpl_q (q_pure rfl) rfl ?_
  refine wpl_nil ?_
  refine ex_then ?_
  refine wpc_cond rfl (fun hc3 => ?_) (fun hc3 => ?_)
  ·
   refine wpc_region ?_
   refine wpl_q (q_build (cs := []) rfl rfl) rfl ?_
   refine wpl_q (q_mkI Try.underlying81 rfl rfl) rfl ?_
   exact wpl_panicX rfl (by simpa using hc3)
  ·
   have hbt : b = true := by simpa using hc3
   refine wpc_skip ?_
   refine ret0 (.inr rfl) rfl ?_
   exact fun w1 h => Or.inl ⟨(), hbt, rfl, h⟩

set_option maxRecDepth 100000 in
theorem cut (b : Nat) (v : Value) (m : Nat) (n : Nat) (w : World) (hB : Mem w (nums [.blk b 85 [v]]) [.blk b 85 [v]] [] w) (sv : SV v m)  :
    Calls Try.prog 64 [.pointer (some ⟨b, 0, none⟩), .int .i64 ((n : Nat) : Int)].toArray w (GivesX w [.blk b 85 [v]] (fun _ : Unit => n ≤ m) (fun _ => slv v 0 n 1) (fun _ => [.blk b 85 [slv v n m 1]]) (m < n)) := by
  have lm := sv.le
  simp only [maxLen] at lm
  refine enter (m := 30) (R := Mem w (nums [.blk b 85 [v]]) [.blk b 85 [v]] []) Try.func64 rfl rfl (Nat.le_of_ble_eq_true rfl) hB ?_
  refine wpc_seq ?_
  refine wpc_region ?_
  refine wpl_q (q_pure rfl) rfl ?_
  refine wpl_nil ?_
  refine ex_then ?_
  refine wpc_seq ?_
  refine wpc_region ?_
  refine wpl_q (q_pure rfl) rfl ?_
  refine wpl_q (q_pure rfl) rfl ?_
  refine wpl_q (q_pure rfl) rfl ?_
  refine wpl_q (q_field Try.underlying85 rfl Try.ti22 rfl rfl _ rfl) rfl ?_
  refine wpl_q (q_ld Try.underlying22 rfl rfl rfl) rfl ?_
  refine wpl_q (q_lenW Try.underlying22 rfl (by first | assumption | exact SV.nil | exact SV.slv (by assumption) (by omega) (by omega) | exact arv_sv (by first | decide | (simp only [maxLen]; omega)))) rfl ?_
  refine wpl_q (q_pure rfl) rfl ?_
  refine wpl_tp (t_callX0 Try.hb58 rfl (fun w => must _ w) (fun hb => by simp only [decide_eq_false_iff_not] at hb; omega)) rfl (fun b13 p13 => ?_)
  have hnm : n ≤ m := by simp only [decide_eq_true_eq] at p13; omega
  refine wpl_nil ?_
  refine ex_then ?_
  refine wpc_seq ?_
  refine wpc_region ?_
  refine wpl_q (q_pure rfl) rfl ?_
  refine wpl_q (q_pure rfl) rfl ?_
  refine wpl_q (q_field Try.underlying85 rfl Try.ti22 rfl rfl _ rfl) rfl ?_
  refine wpl_q (q_ld Try.underlying22 rfl rfl rfl) rfl ?_
  refine wpl_q (q_pure rfl) rfl ?_
  refine wpl_q (q_slWh Try.underlying22 Try.ti5 rfl rfl (by first | assumption | exact SV.nil | exact SV.slv (by assumption) (by omega) (by omega) | exact arv_sv (by first | decide | (simp only [maxLen]; omega))) (by omega)) rfl ?_
  refine wpl_q (q_pure rfl) rfl ?_
  refine wpl_nil ?_
  refine ex_then ?_
  refine wpc_seq ?_
  refine wpc_region ?_
  refine wpl_q (q_pure rfl) rfl ?_
  refine wpl_q (q_pure rfl) rfl ?_
  refine wpl_q (q_pure rfl) rfl ?_
  refine wpl_q (q_field Try.underlying85 rfl Try.ti22 rfl rfl _ rfl) rfl ?_
  refine wpl_q (q_ld Try.underlying22 rfl rfl rfl) rfl ?_
  refine wpl_q (q_pure rfl) rfl ?_
  refine wpl_q (q_slWl Try.underlying22 Try.ti5 rfl rfl (by first | assumption | exact SV.nil | exact SV.slv (by assumption) (by omega) (by omega) | exact arv_sv (by first | decide | (simp only [maxLen]; omega))) (by omega)) rfl ?_
  refine wpl_q (q_pure rfl) rfl ?_
  refine wpl_q (q_field Try.underlying85 rfl Try.ti22 rfl rfl _ rfl) rfl ?_
  refine wpl_t0 (t_st1 Try.ti22 rfl rfl (SV.one (by first | assumption | exact SV.nil | exact SV.slv (by assumption) (by omega) (by omega) | exact arv_sv (by first | decide | (simp only [maxLen]; omega)))) (by first | decide | omega | exact Nat.zero_lt_one | (simp; omega) | (simp; done) | (simp only [v8s_length, v32s_length, vis_length, vns_length, v64s_length]; omega)) _ rfl) (fun _ => ?_)
  refine wpl_nil ?_
  refine ex_then ?_
  refine wpc_seq ?_
  refine wpc_region ?_
  refine wpl_q (q_pure rfl) rfl ?_
  refine wpl_q (q_pure rfl) rfl ?_
  refine wpl_nil ?_
  refine ex_then ?_
  refine wpc_ret ?_
  refine ret1 (.inl rfl) rfl rfl ?_
  exact fun w1 h => Or.inl ⟨(), hnm, rfl, h⟩

set_option maxRecDepth 100000 in
theorem length (b : Nat) (v : Value) (ys : List UInt8) (w : World) (hB : Mem w (nums [.blk b 85 [v]]) [.blk b 85 [v]] [] w) (hs : Seen (rdO (nums [.blk b 85 [v]]) w) v ys.length 1 (v8s ys))  :
    Calls Try.prog 65 [.pointer (some ⟨b, 0, none⟩)].toArray w (GivesX w [.blk b 85 [v]] (fun x : Value × Nat × Nat => lenP ys = some x.2 ∧ ∀ r, Seen r v ys.length 1 (v8s ys) → Seen r x.1 (ys.drop x.2.2).length 1 (v8s (ys.drop x.2.2))) (fun x => .int .i64 ((x.2.1 : Nat) : Int)) (fun x => [.blk b 85 [x.1]]) (lenP ys = none)) := by
  have sv := hs.sv
  have lm := sv.le
  simp only [maxLen] at lm
  refine enter (m := 44) (R := Mem w (nums [.blk b 85 [v]]) [.blk b 85 [v]] []) Try.func65 rfl rfl (Nat.le_of_ble_eq_true rfl) hB ?_
  refine wpc_seq ?_
  refine wpc_region ?_
  refine wpl_q (q_pure rfl) rfl ?_
  refine wpl_nil ?_
  refine ex_then ?_
  refine wpc_seq ?_
  refine wpc_region ?_
  refine wpl_q (q_pure rfl) rfl ?_
  refine wpl_tp (t_callX [.blk b 85 [v]] [] [.blk b 85 [v]] (fun _ => [.blk b 85 [(slv v 1 ys.length 1)]]) rfl (fun _ _ => .refl _) Try.hb64 rfl (fun w h h2 => cut b v ys.length 1 w h2 sv) (fun hb => by rw [lenP, if_pos hb])) rfl (fun b8 p8 => ?_)
  have hk1 := lenP_1 p8
  have sv1 : SV (slv v 1 ys.length 1) (ys.drop 1).length := (cutA hs p8).sv
  have sv0 : SV (slv v 0 1 1) 1 := sv.slv (by omega) p8
  refine wpl_q (q_idxW1 (j := 0) Try.underlying22 Try.ti5 rfl rfl (by first | assumption | exact SV.nil | exact SV.slv (by assumption) (by omega) (by omega) | exact arv_sv (by first | decide | (simp only [maxLen]; omega))) (by first | omega | (simp only [maxLen]; omega) | (simp only [List.length_append, List.length_cons, List.length_nil, List.length_take, maxLen]; omega) | (simp only [List.length_append, List.length_cons, List.length_nil, List.length_take]; omega))) rfl ?_
  refine wpl_q (q_ldW Try.underlying5 rfl rfl (fun w h => cutB (hs.mono (rdo_old h)) p8) (v8s_get (xs := ys.take 1) (i := 0) (by rw [List.length_take]; omega))) rfl ?_
  refine wpl_re 10 rfl (congrArg (fun n : Nat => Value.int .u8 (n : Int)) (show ((ys.take 1).getD 0 0).toNat = (ys.getD 0 0).toNat by rw [hk1])) ?_
  refine wpl_q (q8_int Try.underlying5 Try.underlying3 rfl) rfl ?_
  refine wpl_q (q_pure rfl) rfl ?_
  refine wpl_nil ?_
  refine ex_then ?_
  refine wpc_seq ?_
  refine wpc_seq ?_
  refine wpc_region ?_
  refine wpl_q (q_pure rfl) rfl ?_
  refine wpl_q (q_pure rfl) rfl ?_
  refine wpl_nil ?_
  refine ex_then ?_
  refine wpc_cond rfl (fun hc13 => ?_) (fun hc13 => ?_)
  ·
   simp only [decide_eq_true_eq] at hc13
   have hR : lenP ys = some ((ys.getD 0 0).toNat, 1) := by rw [lenP, if_neg (by omega), if_pos (by omega)]
   refine wpc_seq ?_
   refine wpc_region ?_
   refine wpl_q (q_pure rfl) rfl ?_
   refine wpl_q (q_pure rfl) rfl ?_
   refine wpl_nil ?_
   refine ex_then ?_
   refine wpc_ret ?_
   refine ex_then_ret ?_
   refine ret1 (.inl rfl) rfl rfl ?_
   exact fun w1 h => Or.inl ⟨((slv v 1 ys.length 1), (ys.getD 0 0).toNat, 1), ⟨hR, fun r q => cutA q p8⟩, rfl, h⟩
  ·
   simp only [decide_eq_false_iff_not] at hc13
   have hk := (ys.getD 0 0).toNat_lt
   refine wpc_skip ?_
   refine ex_then ?_
   refine wpc_seq ?_
   refine wpc_region ?_
   refine wpl_q (q_pure rfl) rfl ?_
   refine wpl_q (q_pure rfl) rfl ?_
   refine wpl_q (q_pure rfl) rfl ?_
   refine wpl_bool2 17 16 rfl rfl (fun hb17 => ?_) (fun hb17 => ?_)
   ·
    try simp only [decide_eq_true_eq] at hb17
    refine wpl_on rfl rfl ?_
    refine wpl_q (q_pure rfl) rfl ?_
    refine wpl_on rfl rfl ?_
    refine wpl_q (q_pure rfl) rfl ?_
    refine wpl_q (q_pure rfl) rfl ?_
    refine wpl_tp (t_callX0 Try.hb58 rfl (fun w => must _ w) (fun hb => by rw [lenP, if_neg (by omega), if_neg (by omega), if_pos (by first | (simp only [decide_eq_false_iff_not] at hb; omega) | omega)])) rfl (fun b21 p21 => ?_)
    simp only [decide_eq_true_eq] at p21
    refine wpl_nil ?_
    refine ex_then ?_
    refine wpc_seq ?_
    refine wpc_region ?_
    refine wpl_q (q_pure rfl) rfl ?_
    refine wpl_nil ?_
    refine ex_then ?_
    refine wpc_seq ?_
    refine wpc_seq ?_
    refine wpc_region ?_
    refine wpl_q (q_pure rfl) rfl ?_
    refine wpl_q (q_pure rfl) rfl ?_
    refine wpl_q (q_subN (b := 128) rfl rfl (by omega) (by first | omega | (simp only [maxLen]; omega) | (simp only [List.length_append, List.length_cons, List.length_nil, List.length_take, maxLen]; omega) | (simp only [List.length_append, List.length_cons, List.length_nil, List.length_take]; omega))) rfl ?_
    refine wpl_tp (t_callX [.blk b 85 [(slv v 1 ys.length 1)]] [] [.blk b 85 [(slv v 1 ys.length 1)]] (fun _ => [.blk b 85 [slv (slv v 1 ys.length 1) ((ys.getD 0 0).toNat - 128) (ys.drop 1).length 1]]) rfl (fun _ _ => .refl _) Try.hb64 rfl (fun w h h2 => cut b (slv v 1 ys.length 1) (ys.drop 1).length ((ys.getD 0 0).toNat - 128) w h2 sv1) (fun hb => by rw [List.length_drop] at hb; rw [lenP, if_neg (by omega), if_neg (by omega), if_pos (by omega)])) rfl (fun b25 p25 => ?_)
    have hs2 := fun (r : Rd) (q : Seen r v ys.length 1 (v8s ys)) => cutB (cutA q p8) p25
    have hl2 : ((ys.drop 1).take ((ys.getD 0 0).toNat - 128)).length = (ys.getD 0 0).toNat - 128 := by rw [List.length_take]; omega
    have sv2 : SV (slv (slv v 1 ys.length 1) 0 ((ys.getD 0 0).toNat - 128) 1) ((ys.getD 0 0).toNat - 128) := sv1.slv (by omega) p25
    have hp25 := p25
    rw [List.length_drop] at hp25
    refine wpl_q (q_lenW Try.underlying22 rfl (by first | assumption | exact SV.nil | exact SV.slv (by assumption) (by omega) (by omega) | exact arv_sv (by first | decide | (simp only [maxLen]; omega)))) rfl ?_
    refine wpl_q (q_pure rfl) rfl ?_
    refine wpl_nil ?_
    refine ex_then ?_
    refine wpc_block ?_
    refine wpc_loopc (ι := { x : Nat // (x ≤ (ys.getD 0 0).toNat - 128) }) [(3, _), (25, _), (26, _)] (fun x Lc => (27, .int .i64 ((x.1 : Nat) : Int)) :: (4, .int .i64 ((numOf (((ys.drop 1).take ((ys.getD 0 0).toNat - 128)).take x.1) : Nat) : Int)) :: Lc) (fun x => Mem w (nums [.blk b 85 [v]]) [.blk b 85 [slv (slv v 1 ys.length 1) ((ys.getD 0 0).toNat - 128) (ys.drop 1).length 1]] []) (fun x => (ys.getD 0 0).toNat - 128 - x.1) ⟨0, (Nat.zero_le _)⟩ (by repeat (first | exact trivial | refine ⟨rfl, ?_⟩)) ?_ ?_
    ·
     exact fun w h => h
    ·
     rintro ⟨i, hi0⟩; try dsimp only
     have hi0 : i ≤ (ys.getD 0 0).toNat - 128 := hi0
     refine wpc_seq ?_
     refine wpc_region ?_
     refine wpl_q (q_pure rfl) rfl ?_
     refine wpl_nil ?_
     refine ex_then ?_
     refine wpc_seq ?_
     refine wpc_cond rfl (fun hc28 => ?_) (fun hc28 => ?_)
     ·
      simp only [decide_eq_true_eq] at hc28
      have hil : i < ((ys.drop 1).take ((ys.getD 0 0).toNat - 128)).length := by omega
      have hn24 := numOf_24 (xs := ((ys.drop 1).take ((ys.getD 0 0).toNat - 128))) (i := i) (by omega) (by omega)
      have hcb := (((ys.drop 1).take ((ys.getD 0 0).toNat - 128)).getD i 0).toNat_lt
      refine wpc_skip ?_
      refine ex_then ?_
      refine wpc_seq ?_
      refine wpc_block ?_
      refine wpc_seq ?_
      refine wpc_region ?_
      refine wpl_q (q_idxW1 Try.underlying22 Try.ti5 rfl rfl (by first | assumption | exact SV.nil | exact SV.slv (by assumption) (by omega) (by omega) | exact arv_sv (by first | decide | (simp only [maxLen]; omega))) (by first | omega | (simp only [maxLen]; omega) | (simp only [List.length_append, List.length_cons, List.length_nil, List.length_take, maxLen]; omega) | (simp only [List.length_append, List.length_cons, List.length_nil, List.length_take]; omega))) rfl ?_
      refine wpl_q (q_ldW Try.underlying5 rfl rfl (fun w h => hs2 _ (hs.mono (rdo_old h))) (v8s_get hil)) rfl ?_
      refine wpl_q (q_pure rfl) rfl ?_
      refine wpl_nil ?_
      refine ex_then ?_
      refine wpc_region ?_
      refine wpl_q (q_pure rfl) rfl ?_
      refine wpl_q (q_shlN (b := 8) rfl rfl (by first | decide | omega) (by first | omega | (simp only [maxLen]; omega) | (simp only [List.length_append, List.length_cons, List.length_nil, List.length_take, maxLen]; omega) | (simp only [List.length_append, List.length_cons, List.length_nil, List.length_take]; omega))) rfl ?_
      refine wpl_q (q_pure rfl) rfl ?_
      refine wpl_q (q8_int Try.underlying5 Try.underlying3 rfl) rfl ?_
      refine wpl_q (q_orN rfl rfl (by first | omega | (simp only [maxLen]; omega) | (simp only [List.length_append, List.length_cons, List.length_nil, List.length_take, maxLen]; omega) | (simp only [List.length_append, List.length_cons, List.length_nil, List.length_take]; omega)) (by first | omega | (simp only [maxLen]; omega) | (simp only [List.length_append, List.length_cons, List.length_nil, List.length_take, maxLen]; omega) | (simp only [List.length_append, List.length_cons, List.length_nil, List.length_take]; omega))) rfl ?_
      refine wpl_re 35 rfl (congrArg (fun n : Nat => Value.int .i64 (n : Int)) (show numOf (((ys.drop 1).take ((ys.getD 0 0).toNat - 128)).take i) * 2 ^ 8 ||| (((ys.drop 1).take ((ys.getD 0 0).toNat - 128)).getD i 0).toNat = numOf (((ys.drop 1).take ((ys.getD 0 0).toNat - 128)).take (i + 1)) by rw [numOf_take hil]; exact or_byte _ _ (((ys.drop 1).take ((ys.getD 0 0).toNat - 128)).getD i 0).toNat_lt)) ?_
      refine wpl_q (q_pure rfl) rfl ?_
      refine wpl_nil ?_
      refine ex_block ?_
      refine ex_then ?_
      refine wpc_region ?_
      refine wpl_q (q_addN (b := 1) rfl rfl (by first | omega | (simp only [maxLen]; omega) | (simp only [List.length_append, List.length_cons, List.length_nil, List.length_take, maxLen]; omega) | (simp only [List.length_append, List.length_cons, List.length_nil, List.length_take]; omega))) rfl ?_
      refine wpl_q (q_pure rfl) rfl ?_
      refine wpl_nil ?_
      refine ex_again ⟨i + 1, (by omega)⟩ ?_ ?_ ?_
      ·
       exact (by repeat (first | exact trivial | refine ⟨rfl, ?_⟩))
      ·
       exact fun w h => h
      ·
       (show (ys.getD 0 0).toNat - 128 - (i + 1) < (ys.getD 0 0).toNat - 128 - i); omega
     ·
      simp only [decide_eq_false_iff_not] at hc28
      obtain rfl : i = (ys.getD 0 0).toNat - 128 := by omega
      have ht : ((ys.drop 1).take ((ys.getD 0 0).toNat - 128)).take ((ys.getD 0 0).toNat - 128) = ((ys.drop 1).take ((ys.getD 0 0).toNat - 128)) := List.take_of_length_le (by omega)
      rw [ht]
      have hn24 := numOf_24 (xs := ys.drop 1) (i := (ys.getD 0 0).toNat - 128) (by rw [List.length_drop]; omega) (by omega)
      refine wpc_exit ?_
      refine ex_then_exit ?_
      refine ex_then_exit ?_
      refine ex_block_hit ?_
      refine ex_then ?_
      refine wpc_seq ?_
      refine wpc_region ?_
      refine wpl_q (q_pure rfl) rfl ?_
      refine wpl_t (t_pur (v := .int .i64 ((wideF (numOf ((ys.drop 1).take ((ys.getD 0 0).toNat - 128))) : Nat) : Int)) Try.hb62 rfl fun w h => wide (numOf ((ys.drop 1).take ((ys.getD 0 0).toNat - 128))) w (by omega)) rfl (fun b38 => ?_)
      refine wpl_q (q_pure rfl) rfl ?_
      refine wpl_q (q_subN (b := 127) rfl rfl (by omega) (by first | omega | (simp only [maxLen]; omega) | (simp only [List.length_append, List.length_cons, List.length_nil, List.length_take, maxLen]; omega) | (simp only [List.length_append, List.length_cons, List.length_nil, List.length_take]; omega))) rfl ?_
      refine wpl_q (q_pure rfl) rfl ?_
      refine wpl_tp (t_callX0 Try.hb58 rfl (fun w => must _ w) (fun hb => by rw [lenP, if_neg (by omega), if_neg (by omega), if_neg (by omega), if_pos (by simp only [beq_eq_false_iff_ne, ne_eq] at hb; intro e; exact hb (by rw [e]))])) rfl (fun b42 p42 => ?_)
      have hw : wideF (numOf ((ys.drop 1).take ((ys.getD 0 0).toNat - 128))) = (ys.getD 0 0).toNat - 127 := by simp only [beq_iff_eq] at p42; omega
      have hR : lenP ys = some (numOf ((ys.drop 1).take ((ys.getD 0 0).toNat - 128)), 1 + ((ys.getD 0 0).toNat - 128)) := by rw [lenP, if_neg (by omega), if_neg (by omega), if_neg (by omega), if_neg (fun hh => hh hw)]
      refine wpl_nil ?_
      refine ex_then ?_
      refine wpc_seq ?_
      refine wpc_region ?_
      refine wpl_q (q_pure rfl) rfl ?_
      refine wpl_q (q_pure rfl) rfl ?_
      refine wpl_nil ?_
      refine ex_then ?_
      refine wpc_ret ?_
      refine ret1 (.inl rfl) rfl rfl ?_
      exact fun w1 h => Or.inl ⟨(slv (slv v 1 ys.length 1) ((ys.getD 0 0).toNat - 128) (ys.drop 1).length 1, numOf ((ys.drop 1).take ((ys.getD 0 0).toNat - 128)), 1 + ((ys.getD 0 0).toNat - 128)), ⟨hR, fun r q => by have z := cutA (cutA q p8) p25; rw [List.drop_drop] at z; exact z⟩, rfl, h⟩
   ·
    try simp only [decide_eq_false_iff_not] at hb17
    refine wpl_off rfl rfl rfl rfl ?_
    refine wpl_off rfl rfl rfl rfl ?_
    refine wpl_q (q_pure rfl) rfl ?_
    refine wpl_tp (t_callX0 Try.hb58 rfl (fun w => must _ w) (fun hb => by rw [lenP, if_neg (by omega), if_neg (by omega), if_pos (by first | (simp only [decide_eq_false_iff_not] at hb; omega) | omega)])) rfl (fun b21 p21 => ?_)
    cases p21

end Go.Proofs.Ytommkigkkeailaa
