/- The digest and the table; equality of digests. -/
import Derived.Test.YtoaeklbenmlooaaDoorD10
import Derived.Test.YtoaeklbenmlooaaDoorPLY
namespace Go.Proofs.YtoaeklbenmlooaaDoor
set_option linter.unusedSimpArgs false
set_option linter.unusedVariables false
open Go Go.PL Go.RowKit

/-- The table of the rounds lies where it must. -/
def Glb (w : World) : Prop := CellsAt w.cell? ⟨0, 0, none⟩ (v32s rootsL) ∧ 0 < w.heap.size
theorem glob {w0 w : World} {M : List Ent} {S : List Fact} (h : Mem w0 [] M S w) (hG : Glb w0) : Glb w := ⟨h.at_old hG.1, Nat.lt_of_lt_of_le hG.2 h.size⟩
theorem parts_old {w0 w : World} {M : List Ent} {S : List Fact} {v : Value} {ps : List (Value × List UInt8)} (h : Mem w0 [] M S w) (hP : Parts w0.cell? v ps) : Parts w.cell? v ps := ⟨h.seen_old hP.1, fun q hq => h.seen_old (hP.2 q hq)⟩
theorem joinW (pv : Value) (ps : List (Value × List UInt8)) (w : World) (hP : Parts w.cell? pv ps) (hG : Glb w) : Calls Tryd.prog 36 [pv].toArray w (Pur w (.agg (v8s (sumF (ps.map Prod.snd).flatten)).toArray)) := by
  rw [← join_sum]; exact join pv ps w hP hG.1 hG.2
theorem shortW (bv : Value) (bs : List UInt8) (w : World) (hb : Seen w.cell? bv bs.length 1 (v8s bs)) (hG : Glb w) : Calls Tryd.prog 23 [bv].toArray w (Pur w (.agg (v8s (shortF bs)).toArray)) := by
  have := short bv bs w hb hG.1 hG.2
  rwa [join_sum, one_flat] at this


theorem eq8_24 : Eq8 Tryd.prog 24 32 := eqc_array Tryd.underlying24 Tryd.ti24 Tryd.ti5 rfl (eqc_int Tryd.underlying5 Tryd.ti5)
theorem eq8_31 : Eq8 Tryd.prog 31 16 := eqc_array Tryd.underlying31 Tryd.ti31 Tryd.ti5 rfl (eqc_int Tryd.underlying5 Tryd.ti5)

end Go.Proofs.YtoaeklbenmlooaaDoor
