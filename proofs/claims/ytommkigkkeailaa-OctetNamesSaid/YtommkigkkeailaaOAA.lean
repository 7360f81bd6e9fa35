/- What bytes begin with. -/
import Derived.Test.YtommkigkkeailaaOZ
namespace Go.Proofs.Ytommkigkkeailaa
set_option linter.unusedSimpArgs false
set_option linter.unusedVariables false
open Go Go.PL Go.RowKit

theorem headF_le (xs : List UInt8) : (headF xs).2.1 ≤ 5 ∧ (headF xs).2.1 ≤ xs.length ∧ (headF xs).2.2.1 < 16777216 ∧ ((headF xs).2.2.2 = true → 2 ≤ (headF xs).2.1) := by
  unfold headF
  have hb := (xs.getD 1 0).toNat_lt
  by_cases h1 : xs.length < 2 ∨ xs.getD 0 0 = 0
  · rw [if_pos h1]; exact ⟨by decide, Nat.zero_le _, by decide, fun h => by cases h⟩
  · rw [if_neg h1]
    by_cases h2 : (xs.getD 1 0).toNat < 128
    · rw [if_pos h2]; exact ⟨by show 2 ≤ 5; omega, by show 2 ≤ _; omega, by show (xs.getD 1 0).toNat < _; omega, fun _ => Nat.le_refl _⟩
    · rw [if_neg h2]
      by_cases h3 : (xs.getD 1 0).toNat - 128 < 1 ∨ 3 < (xs.getD 1 0).toNat - 128 ∨ xs.length < 2 + ((xs.getD 1 0).toNat - 128)
      · rw [if_pos h3]; exact ⟨by decide, Nat.zero_le _, by decide, fun h => by cases h⟩
      · rw [if_neg h3]
        split
        · exact ⟨by decide, Nat.zero_le _, by decide, fun h => by cases h⟩
        · have q := numOf_24 (xs := xs.drop 2) (i := (xs.getD 1 0).toNat - 128) (by rw [List.length_drop]; omega) (by omega)
          exact ⟨by show 2 + ((xs.getD 1 0).toNat - 128) ≤ 5; omega, by show 2 + ((xs.getD 1 0).toNat - 128) ≤ _; omega, by dsimp only; exact q, fun _ => by show 2 ≤ 2 + ((xs.getD 1 0).toNat - 128); omega⟩
def kidsW (tk : List UInt8 → Option (Tr × Nat)) : Nat → List UInt8 → Option (List Tr)
  | 0, ys => if ys.isEmpty then some [] else none
  | k + 1, ys => if ys.isEmpty then some [] else (tk ys).bind fun r => (kidsW tk k (ys.drop r.2)).map (r.1 :: ·)
/-- The value that bytes begin with, and how many they are. -/
def takeF : Nat → List UInt8 → Option (Tr × Nat)
  | 0, _ => none
  | f + 1, xs => if (headF xs).2.2.2 = false ∨ xs.length < (headF xs).2.1 + (headF xs).2.2.1 then none
    else if (headF xs).1.toNat < 128 then some (.nd (headF xs).1 ((xs.drop (headF xs).2.1).take (headF xs).2.2.1) [], (headF xs).2.1 + (headF xs).2.2.1)
    else (kidsW (takeF f) (headF xs).2.2.1 ((xs.drop (headF xs).2.1).take (headF xs).2.2.1)).map fun l => (.nd (headF xs).1 [] l, (headF xs).2.1 + (headF xs).2.2.1)
def takeR (f : Nat) (xs : List UInt8) : Tr × Nat × Bool := match takeF f xs with | some (t, m) => (t, m, true) | none => (Tr.z, 0, false)
theorem takeF_le {f : Nat} {xs : List UInt8} {t : Tr} {m : Nat} (h : takeF f xs = some (t, m)) : 2 ≤ m ∧ m ≤ xs.length := by
  cases f with
  | zero => cases h
  | succ f =>
    have hh := headF_le xs
    unfold takeF at h
    split at h
    · cases h
    · rename_i h1
      rw [not_or, Bool.not_eq_false] at h1
      have h2 := hh.2.2.2 h1.1
      split at h
      · cases h; omega
      · obtain ⟨l, _, e⟩ := Option.map_eq_some_iff.1 h
        cases e; omega
theorem kidsW_nil (tk : List UInt8 → Option (Tr × Nat)) : ∀ k, kidsW tk k [] = some []
  | 0 => rfl
  | _ + 1 => rfl
def KI (f n : Nat) (seg : List UInt8) (ns : List HT) (c : Nat) : Prop := ∃ k, seg.length - c ≤ k ∧ kidsW (takeF f) n seg = (kidsW (takeF f) k (seg.drop c)).map (trs ns ++ ·)
theorem KI_start {f : Nat} {seg : List UInt8} : KI f seg.length seg [] 0 := ⟨seg.length, by omega, by
  rw [List.drop_zero]
  cases kidsW (takeF f) seg.length seg <;> rfl⟩
theorem KI_cons {f n : Nat} {seg : List UInt8} {ns : List HT} {c : Nat} (h : KI f n seg ns c) (hc : c < seg.length) : ∃ k, seg.length - c ≤ k + 1 ∧ kidsW (takeF f) n seg = ((takeF f (seg.drop c)).bind fun r => (kidsW (takeF f) k ((seg.drop c).drop r.2)).map (r.1 :: ·)).map (trs ns ++ ·) := by
  obtain ⟨k, h1, h2⟩ := h
  obtain ⟨j, rfl⟩ : ∃ j, k = j + 1 := ⟨k - 1, by omega⟩
  refine ⟨j, h1, ?_⟩
  rw [h2, kidsW, if_neg]
  intro he
  rw [List.isEmpty_iff] at he
  have := congrArg List.length he
  rw [List.length_drop] at this
  simp at this; omega
theorem KI_none {f n : Nat} {seg : List UInt8} {ns : List HT} {c : Nat} (h : KI f n seg ns c) (hc : c < seg.length) (ht : takeF f (seg.drop c) = none) : kidsW (takeF f) n seg = none := by
  obtain ⟨k, _, h2⟩ := KI_cons h hc
  rw [h2, ht]; rfl
theorem KI_some {f n : Nat} {seg : List UInt8} {ns : List HT} {c m : Nat} {y : HT} (h : KI f n seg ns c) (hc : c < seg.length) (ht : takeF f (seg.drop c) = some (y.tr, m)) : KI f n seg (ns ++ [y]) (c + m) := by
  obtain ⟨k, h1, h2⟩ := KI_cons h hc
  have hm := takeF_le ht
  refine ⟨k, by omega, ?_⟩
  rw [h2, ht, trs_append]
  show ((kidsW (takeF f) k ((seg.drop c).drop m)).map (y.tr :: ·)).map _ = _
  rw [List.drop_drop]
  cases kidsW (takeF f) k (seg.drop (c + m)) with
  | none => rfl
  | some l =>
    show some (trs ns ++ (y.tr :: l)) = some ((trs ns ++ trs [y]) ++ l)
    rw [List.append_assoc]; rfl
theorem KI_end {f n : Nat} {seg : List UInt8} {ns : List HT} {c : Nat} (h : KI f n seg ns c) (hc : seg.length ≤ c) : kidsW (takeF f) n seg = some (trs ns) := by
  obtain ⟨k, _, h2⟩ := h
  rw [h2, List.drop_of_length_le hc, kidsW_nil]
  show some (trs ns ++ []) = some _
  rw [List.append_nil]

end Go.Proofs.Ytommkigkkeailaa
