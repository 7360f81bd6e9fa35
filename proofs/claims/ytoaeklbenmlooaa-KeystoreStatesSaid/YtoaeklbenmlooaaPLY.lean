/- '==' on arrays of bytes and on lists of them; '==' and '!=' of strings. -/
import Derived.Test.YtoaeklbenmlooaaPLR
namespace Go.PL
set_option linter.unusedSimpArgs false
set_option linter.unusedVariables false
open Go Go.RowKit
section
variable {P : Program} {n : Cx} {R : World → Prop} {L : Slots} {Q : Exit → Act → World → Prop} {ops : Array Oper} {rest : List Oper}
abbrev Eq8 (P : Program) (t : TypeId) (N : Nat) : Prop := EqC P 2 t true N (fun cs => cs.length = N ∧ ∀ i, i < N → IntCell .u8 ((cs.drop (i * 1)).take 1))
theorem w8s {xs : List UInt8} {N : Nat} (h : xs.length = N) : (v8s xs).length = N ∧ ∀ i, i < N → IntCell .u8 (((v8s xs).drop (i * 1)).take 1) := by
  refine ⟨by rw [v8s_length, h], fun i hi => ?_⟩
  have hlt : i < (v8s xs).length := by rw [v8s_length, h]; exact hi
  rw [Nat.mul_one, List.drop_eq_getElem_cons hlt, List.take_succ_cons, List.take_zero]
  exact ⟨_, by simp only [v8s, List.getElem_map]; rfl⟩
theorem q_eq8 {t t' : TypeId} {x y : Operand} {N : Nat} {xs ys : List UInt8} (h : Eq8 P t N) (hg : P.eqGuardType P.depth t = false) (hx : ev L x = some (.agg (v8s xs).toArray)) (hy : ev L y = some (.agg (v8s ys).toArray)) (hxl : xs.length = N) (hyl : ys.length = N) :
    QOp P n R L (.binOp .eql t x y t') (.bool (decide (xs = ys))) :=
  q_eqA h (by decide) hg hx hy (w8s hxl) (w8s hyl) _ (by simp only [decide_eq_true_eq]; exact ⟨fun e => by rw [e], fun e => v8s_inj e⟩)
theorem q_ne8 {t t' : TypeId} {x y : Operand} {N : Nat} {xs ys : List UInt8} (h : Eq8 P t N) (hg : P.eqGuardType P.depth t = false) (hx : ev L x = some (.agg (v8s xs).toArray)) (hy : ev L y = some (.agg (v8s ys).toArray)) (hxl : xs.length = N) (hyl : ys.length = N) :
    QOp P n R L (.binOp .neq t x y t') (.bool (!decide (xs = ys))) :=
  q_neA h (by decide) hg hx hy (w8s hxl) (w8s hyl) _ (by simp only [Bool.not_eq_true', decide_eq_false_iff_not]; exact ⟨fun e h => e (v8s_inj h), fun e h => e (by rw [h])⟩)
/-- A truth that is known. -/
theorem q_tru {op : Op} {p : Prop} [Decidable p] (h : QOp P n R L op (.bool (decide p))) (hp : p) : QOp P n R L op (.bool true) := qop_eq h (by simp [hp])
theorem q_fal {op : Op} {p : Prop} [Decidable p] (h : QOp P n R L op (.bool (decide p))) (hp : ¬ p) : QOp P n R L op (.bool false) := qop_eq h (by simp [hp])
theorem q_bt {op : Op} {b c : Bool} (h : QOp P n R L op (.bool b)) (hp : b = c) : QOp P n R L op (.bool c) := hp ▸ h
theorem t_tru {op : Op} {ι : Type} {p : Prop} [Decidable p] {R' : ι → World → Prop} (h : TOp P Q n R L op ι (fun _ => .bool (decide p)) R') (hp : p) : TOp P Q n R L op ι (fun _ => .bool true) R' := by
  have e : decide p = true := by simp [hp]
  rw [e] at h; exact h
theorem t_fal {op : Op} {ι : Type} {p : Prop} [Decidable p] {R' : ι → World → Prop} (h : TOp P Q n R L op ι (fun _ => .bool (decide p)) R') (hp : ¬ p) : TOp P Q n R L op ι (fun _ => .bool false) R' := by
  have e : decide p = false := by simp [hp]
  rw [e] at h; exact h
theorem t_bt {op : Op} {ι : Type} {b c : Bool} {R' : ι → World → Prop} (h : TOp P Q n R L op ι (fun _ => .bool b) R') (hp : b = c) : TOp P Q n R L op ι (fun _ => .bool c) R' := hp ▸ h
theorem q_eqI {t t' : TypeId} {x y : Operand} {a b : Int} (hx : ev L x = some (.int .i64 a)) (hy : ev L y = some (.int .i64 b)) : QOp P n R L (.binOp .eql t x y t') (.bool (decide (a = b))) :=
  qop_eq (q_bin (v := .int .i64 b) (u := .int .i64 a) (r := .bool (a == b)) hx hy rfl) (by by_cases h : a = b <;> simp [h])
theorem q_neI {t t' : TypeId} {x y : Operand} {a b : Int} (hx : ev L x = some (.int .i64 a)) (hy : ev L y = some (.int .i64 b)) : QOp P n R L (.binOp .neq t x y t') (.bool (!decide (a = b))) :=
  qop_eq (q_bin (v := .int .i64 b) (u := .int .i64 a) (r := .bool (a != b)) hx hy rfl) (by by_cases h : a = b <;> simp [h, bne])
end
end Go.PL
