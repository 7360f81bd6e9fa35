/- Revocation lists as arguments. -/
import Derived.Test.YtgnablliekgbgaaVA
namespace Go.Proofs.Ytgnablliekgbgaa
set_option linter.unusedSimpArgs false
set_option linter.unusedVariables false
open Go Go.PL Go.RowKit

section
variable {H : Type} {enc : TypeId × Value → H} {w : World} {base : Nat} {sp : Nat → Bool} {held : Bool}
abbrev VL := Value × List (List UInt8)
theorem opensSig : Opens enc Try.prog w base sp held 28 (fun (a : Int × VL × VL) c _ => c = [.int .i64 a.1, a.2.1.1, a.2.2.1] ∧ (Seen w.cell? a.2.1.1 a.2.1.2.length 16 (v8s a.2.1.2.flatten) ∧ ∀ x ∈ a.2.1.2, x.length = 16) ∧ Seen w.cell? a.2.2.1 a.2.2.2.length 16 (v8s a.2.2.2.flatten) ∧ ∀ x ∈ a.2.2.2, x.length = 16) := by
  intro n c y h
  obtain ⟨⟨i, p, q, _⟩, x0, y0, d0, e0, h0, x1, y1, d1, e1, h1, x2, y2, d2, e2, h2, h3⟩ := opens_struct Try.underlying28 (fin := 3) (by kernel_rfl) (OpensFs.cons (s := 1) rfl (by kernel_rfl) (opens_i64 Try.underlying3) (OpensFs.cons (s := 1) rfl (by kernel_rfl) (opens_arrs Try.underlying26 Try.underlying62 Try.underlying5 (by kernel_rfl) (by kernel_rfl)) (OpensFs.cons (s := 1) rfl (by kernel_rfl) (opens_arrs Try.underlying26 Try.underlying62 Try.underlying5 (by kernel_rfl) (by kernel_rfl)) (OpensFs.nil _)))) n c y h
  dsimp only at h0 h1 h2 h3
  refine ⟨(i, p, q), ?_, ⟨h1.2.1, h1.2.2⟩, h2.2.1, h2.2.2⟩
  rw [e0, e1, e2, h0.1, h1.1, h2.1, h3]; rfl
theorem opensWin : Opens enc Try.prog w base sp held 24 (fun (a : Int × Int) c _ => c = [.int .i64 a.1, .int .i64 a.2]) := by
  intro n c y h
  obtain ⟨⟨a, b, _⟩, x0, y0, d0, e0, h0, x1, y1, d1, e1, h1, h2⟩ := opens_struct Try.underlying24 (fin := 2) (by kernel_rfl) (OpensFs.cons (s := 1) rfl (by kernel_rfl) (opens_i64 Try.underlying2) (OpensFs.cons (s := 1) rfl (by kernel_rfl) (opens_i64 Try.underlying2) (OpensFs.nil _))) n c y h
  dsimp only at h0 h1 h2
  refine ⟨(a, b), ?_⟩
  rw [e0, e1, h0.1, h1.1, h2]; rfl
theorem opensRv : Opens enc Try.prog w base sp held 30 (fun (a : Rv) c _ => c = a.c ∧ a.seen w.cell? ∧ a.nm.length ≤ maxLen) := by
  intro n c y h
  obtain ⟨⟨nm, no, ⟨f, t⟩, ⟨v, ss⟩, ⟨i, p, q⟩, _⟩, x0, y0, d0, e0, h0, x1, y1, d1, e1, h1, x2, y2, d2, e2, h2, x3, y3, d3, e3, h3, x4, y4, d4, e4, h4, h5⟩ := opens_struct Try.underlying30 (fin := 8) (by kernel_rfl) (OpensFs.cons (s := 1) rfl (by kernel_rfl) (opens_str Try.underlying9) (OpensFs.cons (s := 1) rfl (by kernel_rfl) (opens_u64 Try.underlying22) (OpensFs.cons (s := 2) rfl (by kernel_rfl) opensWin (OpensFs.cons (s := 1) rfl (by kernel_rfl) (opens_nums Try.underlying25 (by kernel_rfl) (opens_u64 Try.underlying22)) (OpensFs.cons (s := 3) rfl (by kernel_rfl) opensSig (OpensFs.nil _)))))) n c y h
  dsimp only at h0 h1 h2 h3 h4 h5
  refine ⟨⟨nm, no, f, t, v, ss, i, p.1, p.2, q.1, q.2⟩, ?_, ⟨h3.2.1, h4.2.1.1, h4.2.1.2, h4.2.2.1, h4.2.2.2⟩, h0.2.1⟩
  rw [e0, e1, e2, e3, e4, h0.1, h1, h2, h3.1, h4.1, h5]; rfl
end

end Go.Proofs.Ytgnablliekgbgaa
