/- Scripts as arguments. -/
import Derived.Test.YtoaeklbenmlooaaKAE
import Derived.Test.YtoaeklbenmlooaaPLZ
namespace Go.Proofs.Ytoaeklbenmlooaa
set_option linter.unusedSimpArgs false
set_option linter.unusedVariables false
open Go Go.PL Go.RowKit

section
variable {H : Type} {enc : TypeId × Value → H} {w : World} {base : Nat} {sp : Nat → Bool} {held : Bool}
theorem opensStp : Opens enc Try.prog w base sp held 58 (fun (k : Stp) c _ => c = k.c) := by
  intro n c y h
  obtain ⟨⟨kd, id, nn, _⟩, x0, y0, d0, e0, h0, x1, y1, d1, e1, h1, x2, y2, d2, e2, h2, h3⟩ :=
    opens_struct Try.underlying58 (fin := 3) (by kernel_rfl) (OpensFs.cons (s := 1) rfl (by kernel_rfl) (opens_u8 Try.underlying5) (OpensFs.cons (s := 1) rfl (by kernel_rfl) (opens_u32 Try.underlying28) (OpensFs.cons (s := 1) rfl (by kernel_rfl) (opens_i64 Try.underlying3) (OpensFs.nil _)))) n c y h
  dsimp only at h0 h1 h2 h3
  refine ⟨⟨kd, id, nn⟩, ?_⟩
  rw [e0, e1, e2, h0, h1, h2.1, h3]; rfl
theorem opensStps : Opens enc Try.prog w base sp held 56 (fun (p : Value × List Stp) c _ => c = [p.1] ∧ Seen w.cell? p.1 p.2.length 3 (scs p.2)) := by
  intro n cs y h
  obtain ⟨⟨v, qs⟩, h1, h2, h3, _⟩ := opens_slice Try.underlying56 (sz := 3) (by kernel_rfl) opensStp n cs y h
  refine ⟨(v, qs.map (·.1)), h1, ?_⟩
  have e : (qs.map (·.2.1)).flatten = scs (qs.map (·.1)) := by
    rw [scs, List.map_map]
    congr 1
    exact List.map_congr_left fun q hq => (h3 q hq).1
  dsimp only at h2 ⊢
  rw [List.length_map, ← e]; exact h2
end

end Go.Proofs.Ytoaeklbenmlooaa
