/- What the program reads. -/
import Derived.Test.YtommkigkkeailaaOAF
namespace Go.Proofs.Ytommkigkkeailaa
set_option linter.unusedSimpArgs false
set_option linter.unusedVariables false
open Go Go.PL Go.RowKit

def Tr.kl : Tr → List Tr | .nd _ _ l => l


/-- The length that bytes begin with, and how many bytes it takes. -/
def lenP (ys : List UInt8) : Option (Nat × Nat) :=
  if ys.length < 1 then none
  else if (ys.getD 0 0).toNat < 128 then some ((ys.getD 0 0).toNat, 1)
  else if (ys.getD 0 0).toNat < 129 ∨ 131 < (ys.getD 0 0).toNat ∨ ys.length < 1 + ((ys.getD 0 0).toNat - 128) then none
  else if wideF (numOf ((ys.drop 1).take ((ys.getD 0 0).toNat - 128))) ≠ (ys.getD 0 0).toNat - 127 then none
  else some (numOf ((ys.drop 1).take ((ys.getD 0 0).toNat - 128)), 1 + ((ys.getD 0 0).toNat - 128))
theorem lenP_le {ys : List UInt8} {r : Nat × Nat} (h : lenP ys = some r) : 1 ≤ r.2 ∧ r.2 ≤ 4 ∧ r.2 ≤ ys.length ∧ r.1 < 16777216 := by
  unfold lenP at h
  by_cases h1 : ys.length < 1
  · rw [if_pos h1] at h; cases h
  · rw [if_neg h1] at h
    by_cases h2 : (ys.getD 0 0).toNat < 128
    · rw [if_pos h2] at h; cases h; exact ⟨Nat.le_refl _, by show 1 ≤ 4; omega, by show 1 ≤ _; omega, by show (ys.getD 0 0).toNat < _; omega⟩
    · rw [if_neg h2] at h
      by_cases h3 : (ys.getD 0 0).toNat < 129 ∨ 131 < (ys.getD 0 0).toNat ∨ ys.length < 1 + ((ys.getD 0 0).toNat - 128)
      · rw [if_pos h3] at h; cases h
      · rw [if_neg h3] at h
        split at h
        · cases h
        · have q := numOf_24 (xs := ys.drop 1) (i := (ys.getD 0 0).toNat - 128) (by rw [List.length_drop]; omega) (by omega)
          obtain rfl := Option.some.inj h
          exact ⟨by dsimp only; omega, by dsimp only; omega, by dsimp only; omega, by dsimp only; exact q⟩
theorem headF_lenP (xs : List UInt8) : headF xs = if xs.length < 1 ∨ xs.getD 0 0 = 0 then (0, 0, 0, false) else match lenP (xs.drop 1) with
    | none => (0, 0, 0, false)
    | some r => (xs.getD 0 0, 1 + r.2, r.1, true) := by
  have e1 : (xs.drop 1).getD 0 0 = xs.getD 1 0 := getD_dropU xs 1 0
  have e2 : (xs.drop 1).length = xs.length - 1 := List.length_drop
  have e3 : (xs.drop 1).drop 1 = xs.drop 2 := List.drop_drop
  unfold headF lenP
  rw [e1, e2, e3]
  by_cases h0 : xs.length < 1 ∨ xs.getD 0 0 = 0
  · rw [if_pos h0, if_pos (by rcases h0 with h | h; · exact .inl (by omega)
                              · exact .inr h)]
  · rw [if_neg h0]
    rw [not_or] at h0
    by_cases h1 : xs.length < 2
    · rw [if_pos (.inl h1), if_pos (show xs.length - 1 < 1 by omega)]
    · rw [if_neg (by rintro (h | h); · exact h1 h
                     · exact h0.2 h), if_neg (show ¬ xs.length - 1 < 1 by omega)]
      by_cases h2 : (xs.getD 1 0).toNat < 128
      · rw [if_pos h2, if_pos h2]; rfl
      · rw [if_neg h2, if_neg h2]
        by_cases h3 : (xs.getD 1 0).toNat - 128 < 1 ∨ 3 < (xs.getD 1 0).toNat - 128 ∨ xs.length < 2 + ((xs.getD 1 0).toNat - 128)
        · rw [if_pos h3, if_pos (show ((xs.getD 1 0).toNat < 129 ∨ 131 < (xs.getD 1 0).toNat ∨ xs.length - 1 < 1 + ((xs.getD 1 0).toNat - 128)) by omega)]
        · rw [if_neg h3, if_neg (show ¬ ((xs.getD 1 0).toNat < 129 ∨ 131 < (xs.getD 1 0).toNat ∨ xs.length - 1 < 1 + ((xs.getD 1 0).toNat - 128)) by omega), show 1 + ((xs.getD 1 0).toNat - 128) = (xs.getD 1 0).toNat - 127 by omega]
          split
          · rfl
          · show (_, _, _, true) = (_, _, _, true)
            rw [show 2 + ((xs.getD 1 0).toNat - 128) = 1 + ((xs.getD 1 0).toNat - 127) by omega]
/-- The value that bytes begin with, as the program reads it: a tag may be 0. -/
def takeP : Nat → List UInt8 → Option (Tr × Nat)
  | 0, _ => none
  | f + 1, xs => if xs.length < 1 then none else match lenP (xs.drop 1) with
    | none => none
    | some r => if xs.length < 1 + r.2 + r.1 then none
      else if (xs.getD 0 0).toNat < 128 then some (.nd (xs.getD 0 0) ((xs.drop (1 + r.2)).take r.1) [], 1 + r.2 + r.1)
      else (kidsW (takeP f) r.1 ((xs.drop (1 + r.2)).take r.1)).map fun l => (.nd (xs.getD 0 0) [] l, 1 + r.2 + r.1)
theorem kidsW_imp {tk tk2 : List UInt8 → Option (Tr × Nat)} (h : ∀ xs t m, tk xs = some (t, m) → tk2 xs = some (t, m)) : ∀ (k : Nat) (ys : List UInt8) (l : List Tr), kidsW tk k ys = some l → kidsW tk2 k ys = some l
  | 0, ys, l, e => by unfold kidsW at e ⊢; exact e
  | k + 1, ys, l, e => by
    unfold kidsW at e ⊢
    split at e
    · rw [if_pos ‹_›]; exact e
    · rw [if_neg ‹_›]
      obtain ⟨⟨t, m⟩, h1, h2⟩ := Option.bind_eq_some_iff.1 e
      obtain ⟨l2, h3, rfl⟩ := Option.map_eq_some_iff.1 h2
      rw [h _ _ _ h1]
      show (kidsW tk2 k _).map _ = _
      rw [kidsW_imp h k _ _ h3]; rfl
theorem kidsW_impS {tk tk2 : List UInt8 → Option (Tr × Nat)} (h : ∀ xs t m, tk xs = some (t, m) → t.shp = true → tk2 xs = some (t, m)) : ∀ (k : Nat) (ys : List UInt8) (l : List Tr), kidsW tk k ys = some l → shpL l = true → kidsW tk2 k ys = some l
  | 0, ys, l, e, _ => by unfold kidsW at e ⊢; exact e
  | k + 1, ys, l, e, hs => by
    unfold kidsW at e ⊢
    split at e
    · rw [if_pos ‹_›]; exact e
    · rw [if_neg ‹_›]
      obtain ⟨⟨t, m⟩, h1, h2⟩ := Option.bind_eq_some_iff.1 e
      obtain ⟨l2, h3, rfl⟩ := Option.map_eq_some_iff.1 h2
      rw [shpL, Bool.and_eq_true] at hs
      rw [h _ _ _ h1 hs.1]
      show (kidsW tk2 k _).map _ = _
      rw [kidsW_impS h k _ _ h3 hs.2]; rfl
theorem takeP_of : ∀ (f : Nat) (xs : List UInt8) (t : Tr) (m : Nat), takeF f xs = some (t, m) → takeP f xs = some (t, m)
  | 0, _, _, _, h => by cases h
  | f + 1, xs, t, m, h => by
    unfold takeF at h
    rw [headF_lenP xs] at h
    unfold takeP
    by_cases h0 : xs.length < 1 ∨ xs.getD 0 0 = 0
    · rw [if_pos h0] at h; simp at h
    · rw [if_neg h0] at h
      rw [not_or] at h0
      rw [if_neg h0.1]
      cases hl : lenP (xs.drop 1) with
      | none => rw [hl] at h; simp at h
      | some r =>
        rw [hl] at h
        dsimp only at h ⊢
        by_cases h2 : xs.length < 1 + r.2 + r.1
        · rw [if_pos (.inr h2)] at h; cases h
        · rw [if_neg (by rintro (h | h); · cases h
                         · exact h2 h)] at h
          rw [if_neg h2]
          by_cases h3 : (xs.getD 0 0).toNat < 128
          · rw [if_pos h3] at h ⊢; exact h
          · rw [if_neg h3] at h ⊢
            obtain ⟨l, h4, e⟩ := Option.map_eq_some_iff.1 h
            rw [kidsW_imp (takeP_of f) _ _ _ h4]; exact congrArg some e
theorem takeF_of : ∀ (f : Nat) (xs : List UInt8) (t : Tr) (m : Nat), takeP f xs = some (t, m) → t.shp = true → takeF f xs = some (t, m)
  | 0, _, _, _, h, _ => by cases h
  | f + 1, xs, t, m, h, hs => by
    unfold takeP at h
    unfold takeF
    by_cases h1 : xs.length < 1
    · rw [if_pos h1] at h; cases h
    · rw [if_neg h1] at h
      cases hl : lenP (xs.drop 1) with
      | none => rw [hl] at h; cases h
      | some r =>
        rw [hl] at h
        dsimp only at h
        have ht : t = .nd (xs.getD 0 0) t.bs t.kl := by
          by_cases h2 : xs.length < 1 + r.2 + r.1
          · rw [if_pos h2] at h; cases h
          · rw [if_neg h2] at h
            by_cases h3 : (xs.getD 0 0).toNat < 128
            · rw [if_pos h3] at h; cases h; rfl
            · rw [if_neg h3] at h
              obtain ⟨l, h4, e⟩ := Option.map_eq_some_iff.1 h
              cases e; rfl
        have hg : xs.getD 0 0 ≠ 0 := by
          intro e
          rw [ht, Tr.shp, badT, e] at hs
          simp at hs
        have hq : headF xs = (xs.getD 0 0, 1 + r.2, r.1, true) := by
          rw [headF_lenP xs, if_neg (by rintro (h | h); · exact h1 h
                                        · exact hg h), hl]
        rw [hq]
        dsimp only
        by_cases h2 : xs.length < 1 + r.2 + r.1
        · rw [if_pos h2] at h; cases h
        · rw [if_neg h2] at h
          rw [if_neg (by rintro (h | h); · cases h
                         · exact h2 h)]
          by_cases h3 : (xs.getD 0 0).toNat < 128
          · rw [if_pos h3] at h ⊢; exact h
          · rw [if_neg h3] at h ⊢
            obtain ⟨l, h4, e⟩ := Option.map_eq_some_iff.1 h
            cases e
            rw [Tr.shp, Bool.and_eq_true] at hs
            rw [kidsW_impS (takeF_of f) _ _ _ h4 hs.2]; rfl
theorem takeP_le {f : Nat} {xs : List UInt8} {t : Tr} {m : Nat} (h : takeP f xs = some (t, m)) : 2 ≤ m ∧ m ≤ xs.length := by
  cases f with
  | zero => cases h
  | succ f =>
    unfold takeP at h
    split at h
    · cases h
    · split at h
      · cases h
      · rename_i r hr
        have q := lenP_le hr
        rw [List.length_drop] at q
        split at h
        · cases h
        · split at h
          · cases h; omega
          · obtain ⟨l, _, e⟩ := Option.map_eq_some_iff.1 h
            cases e; omega
theorem kidsP_size {f : Nat} (ih : ∀ (xs : List UInt8) (t : Tr) (m : Nat), takeP f xs = some (t, m) → t.byt + 2 * t.cnt ≤ m ∧ t.dep ≤ f) : ∀ (k : Nat) (ys : List UInt8) (l : List Tr), kidsW (takeP f) k ys = some l → bytL l + 2 * cntL l ≤ ys.length ∧ depL l ≤ f
  | 0, ys, l, h => by
    unfold kidsW at h
    split at h
    · cases h; exact ⟨Nat.zero_le _, Nat.zero_le _⟩
    · cases h
  | k + 1, ys, l, h => by
    unfold kidsW at h
    split at h
    · cases h; exact ⟨Nat.zero_le _, Nat.zero_le _⟩
    · obtain ⟨⟨t, m⟩, h1, h2⟩ := Option.bind_eq_some_iff.1 h
      obtain ⟨l2, h3, rfl⟩ := Option.map_eq_some_iff.1 h2
      have a := ih _ _ _ h1
      have b := kidsP_size ih k _ _ h3
      have c := takeP_le h1
      rw [List.length_drop] at b
      dsimp only at a b c ⊢
      rw [bytL, cntL, depL]
      omega
theorem takeP_size : ∀ (f : Nat) (xs : List UInt8) (t : Tr) (m : Nat), takeP f xs = some (t, m) → t.byt + 2 * t.cnt ≤ m ∧ t.dep ≤ f
  | 0, xs, t, m, h => by cases h
  | f + 1, xs, t, m, h => by
    unfold takeP at h
    split at h
    · cases h
    · split at h
      · cases h
      · rename_i r hr
        have q := lenP_le hr
        rw [List.length_drop] at q
        have e : ((xs.drop (1 + r.2)).take r.1).length ≤ r.1 := by rw [List.length_take]; omega
        split at h
        · cases h
        · split at h
          · cases h
            refine ⟨?_, ?_⟩
            · rw [Tr.byt, Tr.cnt, bytL, cntL]; omega
            · rw [Tr.dep, depL]; omega
          · obtain ⟨l, h3, e2⟩ := Option.map_eq_some_iff.1 h
            cases e2
            have b := kidsP_size (takeP_size f) _ _ _ h3
            refine ⟨?_, ?_⟩
            · rw [Tr.byt, Tr.cnt, List.length_nil]; omega
            · rw [Tr.dep]; omega
/-- What the program decodes bytes to. -/
def decP (xs : List UInt8) : Tr × Int :=
  if 65536 < xs.length then (Tr.z, 4) else match takeP 12 xs with
    | some (t, m) => if m = xs.length ∧ checkF t = 0 then (t, 0) else (Tr.z, 12)
    | none => (Tr.z, 12)
theorem decP_eq (xs : List UInt8) : decP xs = decF xs := by
  unfold decP decF
  split
  · rfl
  · cases hF : takeF 12 xs with
    | some r => rw [takeP_of 12 xs r.1 r.2 hF]
    | none =>
      dsimp only
      cases hP : takeP 12 xs with
      | none => rfl
      | some r =>
        dsimp only
        rw [if_neg]
        rintro ⟨_, h2⟩
        have hs : r.1.shp = true := by
          cases h : r.1.shp with
          | true => rfl
          | false =>
            unfold checkF at h2
            split at h2
            · cases h2
            · exact absurd h2 (by first | decide | (rw [if_pos h]; decide))
        rw [takeF_of 12 xs r.1 r.2 hP hs] at hF
        cases hF
/-! What was read so far. -/
def KG (tk : List UInt8 → Option (Tr × Nat)) (n : Nat) (seg : List UInt8) (ns : List HT) (c : Nat) : Prop := ∃ k, seg.length - c ≤ k ∧ kidsW tk n seg = (kidsW tk k (seg.drop c)).map (trs ns ++ ·)
section
variable {tk : List UInt8 → Option (Tr × Nat)}
theorem KG_start {seg : List UInt8} : KG tk seg.length seg [] 0 := ⟨seg.length, by omega, by
  rw [List.drop_zero]
  cases kidsW tk seg.length seg <;> rfl⟩
theorem KG_cons {n : Nat} {seg : List UInt8} {ns : List HT} {c : Nat} (h : KG tk n seg ns c) (hc : c < seg.length) : ∃ k, seg.length - c ≤ k + 1 ∧ kidsW tk n seg = ((tk (seg.drop c)).bind fun r => (kidsW tk k ((seg.drop c).drop r.2)).map (r.1 :: ·)).map (trs ns ++ ·) := by
  obtain ⟨k, h1, h2⟩ := h
  obtain ⟨j, rfl⟩ : ∃ j, k = j + 1 := ⟨k - 1, by omega⟩
  refine ⟨j, h1, ?_⟩
  rw [h2, kidsW, if_neg]
  intro he
  rw [List.isEmpty_iff] at he
  have := congrArg List.length he
  rw [List.length_drop] at this
  simp at this; omega
theorem KG_none {n : Nat} {seg : List UInt8} {ns : List HT} {c : Nat} (h : KG tk n seg ns c) (hc : c < seg.length) (ht : tk (seg.drop c) = none) : kidsW tk n seg = none := by
  obtain ⟨k, _, h2⟩ := KG_cons h hc
  rw [h2, ht]; rfl
theorem KG_some {n : Nat} {seg : List UInt8} {ns : List HT} {c m : Nat} {y : HT} (h : KG tk n seg ns c) (hc : c < seg.length) (ht : tk (seg.drop c) = some (y.tr, m)) (hm : 1 ≤ m) : KG tk n seg (ns ++ [y]) (c + m) := by
  obtain ⟨k, h1, h2⟩ := KG_cons h hc
  refine ⟨k, by omega, ?_⟩
  rw [h2, ht, trs_append]
  show ((kidsW tk k ((seg.drop c).drop m)).map (y.tr :: ·)).map _ = _
  rw [List.drop_drop]
  cases kidsW tk k (seg.drop (c + m)) with
  | none => rfl
  | some l =>
    show some (trs ns ++ (y.tr :: l)) = some ((trs ns ++ trs [y]) ++ l)
    rw [List.append_assoc]; rfl
theorem KG_end {n : Nat} {seg : List UInt8} {ns : List HT} {c : Nat} (h : KG tk n seg ns c) (hc : seg.length ≤ c) : kidsW tk n seg = some (trs ns) := by
  obtain ⟨k, _, h2⟩ := h
  rw [h2, List.drop_of_length_le hc, kidsW_nil]
  show some (trs ns ++ []) = some _
  rw [List.append_nil]
end

end Go.Proofs.Ytommkigkkeailaa
