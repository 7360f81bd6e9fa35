/- Arguments that are structs of several cells. -/
import Derived.Test.YtbkgfndojlhdoaaDoorPLC
import Derived.Deep.Strs
namespace Go.PL
set_option linter.unusedVariables false
set_option linter.unusedSimpArgs false
open Go Go.RowKit Go.ChangeShapes Go.Deep
section
variable {H : Type} {enc : TypeId × Value → H} {P : Program} {w : World} {base : Nat} {sp : Nat → Bool} {held : Bool}
theorem opens_st2 {t : TypeId} {f0 f1 : Field} {α β : Type} {R0 : α → List Value → DataW H → Prop} {R1 : β → List Value → DataW H → Prop} {s0 s1 : Nat} (ht : P.underlying t = some (.struct #[f0, f1])) (o0 : f0.offset = 0) (c0 : P.cellsOf f0.type = s0) (o1 : f1.offset = s0) (c1 : P.cellsOf f1.type = s1) (hc : P.cellsOf t = s0 + s1)
    (h0 : Opens enc P w base sp held f0.type R0) (h1 : Opens enc P w base sp held f1.type R1) :
    Opens enc P w base sp held t (fun (p : α × β) c _ => ∃ x y d0 d1, c = x ++ y ∧ R0 p.1 x d0 ∧ R1 p.2 y d1) := by
  intro n cs x h
  obtain ⟨y0, y1, m, rfl, hl, k0, k1⟩ := trod_struct2 ht h
  obtain ⟨a, ha⟩ := h0 _ _ _ k0
  obtain ⟨b, hb⟩ := h1 _ _ _ k1
  refine ⟨(a, b), _, _, _, _, ?_, ha, hb⟩
  rw [o0, c0, o1, c1, List.drop_zero, List.take_of_length_le (l := cs.drop s0) (by rw [List.length_drop]; omega), List.take_append_drop]
theorem opens_st3 {t : TypeId} {f0 f1 f2 : Field} {α β γ : Type} {R0 : α → List Value → DataW H → Prop} {R1 : β → List Value → DataW H → Prop} {R2 : γ → List Value → DataW H → Prop} {s0 s1 s2 : Nat} (ht : P.underlying t = some (.struct #[f0, f1, f2]))
    (o0 : f0.offset = 0) (c0 : P.cellsOf f0.type = s0) (o1 : f1.offset = s0) (c1 : P.cellsOf f1.type = s1) (o2 : f2.offset = s0 + s1) (c2 : P.cellsOf f2.type = s2) (hc : P.cellsOf t = s0 + s1 + s2)
    (h0 : Opens enc P w base sp held f0.type R0) (h1 : Opens enc P w base sp held f1.type R1) (h2 : Opens enc P w base sp held f2.type R2) :
    Opens enc P w base sp held t (fun (p : α × β × γ) c _ => ∃ x y z d0 d1 d2, c = x ++ (y ++ z) ∧ R0 p.1 x d0 ∧ R1 p.2.1 y d1 ∧ R2 p.2.2 z d2) := by
  intro n cs x h
  obtain ⟨y0, y1, y2, m, rfl, hl, k0, k1, k2⟩ := trod_struct3 ht h
  obtain ⟨a, ha⟩ := h0 _ _ _ k0
  obtain ⟨b, hb⟩ := h1 _ _ _ k1
  obtain ⟨c, hc'⟩ := h2 _ _ _ k2
  refine ⟨(a, b, c), _, _, _, _, _, _, ?_, ha, hb, hc'⟩
  rw [o0, c0, o1, c1, o2, c2, List.drop_zero, List.take_of_length_le (l := cs.drop (s0 + s1)) (by rw [List.length_drop]; omega), ← List.drop_drop, List.take_append_drop, List.take_append_drop]
end
end Go.PL
