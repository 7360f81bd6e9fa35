/- Stores as arguments. -/
import Derived.Test.YtoaeklbenmlooaaKV
import Derived.Test.YtoaeklbenmlooaaPLZ
namespace Go.Proofs.Ytoaeklbenmlooaa
set_option linter.unusedSimpArgs false
set_option linter.unusedVariables false
open Go Go.PL Go.RowKit

section
variable {H : Type} {enc : TypeId × Value → H} {w : World} {base : Nat} {sp : Nat → Bool} {held : Bool}
theorem opensKE : Opens enc Try.prog w base sp held 66 (fun (k : KE) c _ => c = k.c) := by
  intro n c y h
  obtain ⟨⟨id, ht, nx, du, ak, dr, _⟩, x0, y0, d0, e0, h0, x1, y1, d1, e1, h1, x2, y2, d2, e2, h2, x3, y3, d3, e3, h3, x4, y4, d4, e4, h4, x5, y5, d5, e5, h5, h6⟩ :=
    opens_struct Try.underlying66 (fin := 6) (by kernel_rfl) (OpensFs.cons (s := 1) rfl (by kernel_rfl) (opens_u32 Try.underlying28) (OpensFs.cons (s := 1) rfl (by kernel_rfl) (opens_i64 Try.underlying3) (OpensFs.cons (s := 1) rfl (by kernel_rfl) (opens_i64 Try.underlying3) (OpensFs.cons (s := 1) rfl (by kernel_rfl) (opens_i64 Try.underlying3) (OpensFs.cons (s := 1) rfl (by kernel_rfl) (opens_i64 Try.underlying3) (OpensFs.cons (s := 1) rfl (by kernel_rfl) (opens_bool Try.underlying4) (OpensFs.nil _))))))) n c y h
  dsimp only at h0 h1 h2 h3 h4 h5 h6
  refine ⟨⟨id, ht, nx, du, ak, dr⟩, ?_⟩
  rw [e0, e1, e2, e3, e4, e5, h0, h1.1, h2.1, h3.1, h4.1, h5, h6]; rfl
theorem opensKEs : Opens enc Try.prog w base sp held 25 (fun (p : Value × List KE) c _ => c = [p.1] ∧ Seen w.cell? p.1 p.2.length 6 (kcs p.2)) := by
  intro n cs y h
  obtain ⟨⟨v, qs⟩, h1, h2, h3, _⟩ := opens_slice Try.underlying25 (sz := 6) (by kernel_rfl) opensKE n cs y h
  refine ⟨(v, qs.map (·.1)), h1, ?_⟩
  have e : (qs.map (·.2.1)).flatten = kcs (qs.map (·.1)) := by
    rw [kcs, List.map_map]
    congr 1
    exact List.map_congr_left fun q hq => (h3 q hq).1
  dsimp only at h2 ⊢
  rw [List.length_map, ← e]; exact h2
theorem opensSt : Opens enc Try.prog w base sp held 27 (fun (a : St × V3) c _ => c = a.1.c a.2.1 a.2.2.1 a.2.2.2 ∧ a.1.ms.length = 32 ∧ Seen w.cell? a.2.1 a.1.dk.length 1 (v8s a.1.dk) ∧ Seen w.cell? a.2.2.1 a.1.pd.length 1 (v8s a.1.pd) ∧ Seen w.cell? a.2.2.2 a.1.ks.length 6 (kcs a.1.ks)) := by
  intro n c y h
  obtain ⟨⟨ms, bt, up, ⟨dv, dk⟩, ⟨pv, pd⟩, ⟨kv, ks⟩, _⟩, x0, y0, d0, e0, h0, x1, y1, d1, e1, h1, x2, y2, d2, e2, h2, x3, y3, d3, e3, h3, x4, y4, d4, e4, h4, x5, y5, d5, e5, h5, h6⟩ :=
    opens_struct Try.underlying27 (fin := 37) (by kernel_rfl) (OpensFs.cons (s := 32) rfl (by kernel_rfl) (opens_arr Try.underlying23 (by kernel_rfl) (by kernel_rfl) (opens_u8 Try.underlying5)) (OpensFs.cons (s := 1) rfl (by kernel_rfl) (opens_i64 Try.underlying3) (OpensFs.cons (s := 1) rfl (by kernel_rfl) (opens_bool Try.underlying4) (OpensFs.cons (s := 1) rfl (by kernel_rfl) (opens_u8s Try.underlying24 Try.underlying5 (by kernel_rfl)) (OpensFs.cons (s := 1) rfl (by kernel_rfl) (opens_u8s Try.underlying24 Try.underlying5 (by kernel_rfl)) (OpensFs.cons (s := 1) rfl (by kernel_rfl) opensKEs (OpensFs.nil _))))))) n c y h
  dsimp only at h0 h1 h2 h3 h4 h5 h6
  refine ⟨(⟨ms, bt, up, dk, pd, ks⟩, dv, pv, kv), ?_, h0.2, h3.2.1, h4.2.1, h5.2⟩
  rw [e0, e1, e2, e3, e4, e5, h0.1, h1.1, h2, h3.1, h4.1, h5.1, h6]; rfl
end

end Go.Proofs.Ytoaeklbenmlooaa
