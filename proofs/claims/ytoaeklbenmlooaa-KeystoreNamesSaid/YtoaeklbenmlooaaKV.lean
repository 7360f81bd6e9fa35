/- Stores: lengths and bounds. -/
import Derived.Test.YtoaeklbenmlooaaKU
namespace Go.Proofs.Ytoaeklbenmlooaa
set_option linter.unusedSimpArgs false
set_option linter.unusedVariables false
open Go Go.PL Go.RowKit

theorem newF_len {m : List UInt8} {n : Int} (h : m.length = 32) : (newF m n).1.ms.length = 32 := by
  unfold newF; split
  · rfl
  · exact h
theorem newF_nil (m : List UInt8) (n : Int) : (newF m n).1.dk = [] ∧ (newF m n).1.pd = [] ∧ (newF m n).1.ks = [] := by
  unfold newF; split <;> exact ⟨rfl, rfl, rfl⟩
theorem reserveF_len {s : St} {id : UInt32} (h : s.ms.length = 32) : (reserveF s id).1.ms.length = 32 := by
  unfold reserveF; split
  · rfl
  · split
    · rfl
    · exact writeF_len h
theorem dropF_len {s : St} {id : UInt32} (h : s.ms.length = 32) : (dropF s id).1.ms.length = 32 := by
  unfold dropF; split
  · rfl
  · exact writeF_len h
structure Bd (s : St) : Prop where
  d : s.dk.length ≤ 1200
  p : s.pd.length ≤ 1200
  k : s.ks.length ≤ 30
theorem zBd : Bd St.z := ⟨by decide, by decide, by decide⟩
theorem writeF_bd {s : St} {bs : List UInt8} (h1 : s.dk.length ≤ 1200) (h3 : s.ks.length ≤ 30) (hb : bs.length ≤ 10) : Bd (writeF s bs).1 := by
  unfold writeF; split
  · exact zBd
  · exact ⟨h1, by show (s.pd ++ bs).length ≤ 1200; rw [List.length_append]; omega, h3⟩
theorem createF_bd {s : St} {id : UInt32} {ht : Int} (h1 : s.dk.length ≤ 1200) (h3 : s.ks.length ≤ 20) : Bd (createF s id ht).1 := by
  unfold createF
  split
  · exact zBd
  · split
    · exact zBd
    · split
      · exact zBd
      · split
        · exact zBd
        · exact writeF_bd h1 (by show (s.ks ++ [_]).length ≤ 30; rw [List.length_append, List.length_singleton]; omega) (by rw [recB_length]; decide)
theorem reserveF_bd {s : St} {id : UInt32} (h1 : s.dk.length ≤ 1200) (h3 : s.ks.length ≤ 20) : Bd (reserveF s id).1 := by
  unfold reserveF; split
  · exact zBd
  · split
    · exact zBd
    · exact writeF_bd h1 (by show (s.ks.set _ _).length ≤ 30; rw [List.length_set]; omega) (by rw [recB_length]; decide)
theorem dropF_bd {s : St} {id : UInt32} (h1 : s.dk.length ≤ 1200) (h3 : s.ks.length ≤ 20) : Bd (dropF s id).1 := by
  unfold dropF; split
  · exact zBd
  · exact writeF_bd h1 (by show (s.ks.set _ _).length ≤ 30; rw [List.length_set]; omega) (by rw [recB_length]; decide)
theorem seenN {r : Rd} {xs : List UInt8} (h : xs = []) : Seen r nl xs.length 1 (v8s xs) := by subst h; exact seen_nil _ _
theorem seenNk {r : Rd} {ks : List KE} (h : ks = []) : Seen r nl ks.length 6 (kcs ks) := by subst h; exact seen_nil _ _

end Go.Proofs.Ytoaeklbenmlooaa
