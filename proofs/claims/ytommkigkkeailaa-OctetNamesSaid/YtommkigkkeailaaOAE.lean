/- Encodings read back. -/
import Derived.Test.YtommkigkkeailaaOAD
namespace Go.Proofs.Ytommkigkkeailaa
set_option linter.unusedSimpArgs false
set_option linter.unusedVariables false
open Go Go.PL Go.RowKit

theorem numK_numOf : ∀ (k : Nat) (ys : List UInt8), ys.length = k → numK k (numOf ys) = ys
  | 0, ys, h => by rw [List.eq_nil_of_length_eq_zero h]; rfl
  | k + 1, ys, h => by
    have h1 := numOf_take (bs := ys) (i := k) (by omega)
    have h2 := take_succD (0 : UInt8) (l := ys) (i := k) (by omega)
    rw [List.take_of_length_le (by omega)] at h1 h2
    have hb := (ys.getD k 0).toNat_lt
    have ih := numK_numOf k (ys.take k) (by rw [List.length_take]; omega)
    rw [numK, h1, show (256 * numOf (ys.take k) + (ys.getD k 0).toNat) / 256 = numOf (ys.take k) by omega, ih, of8_mod]
    have e : of8 ((256 * numOf (ys.take k) + (ys.getD k 0).toNat : Nat) : Int) = ys.getD k 0 := by
      apply UInt8.toNat_inj.1
      have := of8_toNat ((256 * numOf (ys.take k) + (ys.getD k 0).toNat : Nat) : Int)
      omega
    rw [e, ← h2]
theorem headF_inv {xs : List UInt8} (h : (headF xs).2.2.2 = true) : (headF xs).1 ≠ 0 ∧ xs.take (headF xs).2.1 = (headF xs).1 :: lenB (headF xs).2.2.1 ∧ (headF xs).2.1 = 1 + (lenB (headF xs).2.2.1).length := by
  match xs with
  | [] => cases h
  | [a] => cases h
  | a :: b :: zs =>
    have hb := b.toNat_lt
    have q : headF (a :: b :: zs) = if (a :: b :: zs).length < 2 ∨ a = 0 then (0, 0, 0, false) else if b.toNat < 128 then (a, 2, b.toNat, true) else if b.toNat - 128 < 1 ∨ 3 < b.toNat - 128 ∨ (a :: b :: zs).length < 2 + (b.toNat - 128) then (0, 0, 0, false)
      else if wideF (numOf (zs.take (b.toNat - 128))) ≠ 1 + (b.toNat - 128) then (0, 0, 0, false) else (a, 2 + (b.toNat - 128), numOf (zs.take (b.toNat - 128)), true) := rfl
    by_cases h1 : (a :: b :: zs).length < 2 ∨ a = 0
    · rw [q, if_pos h1] at h; cases h
    · rw [if_neg h1] at q
      have ha : a ≠ 0 := fun e => h1 (.inr e)
      by_cases h2 : b.toNat < 128
      · rw [if_pos h2] at q
        rw [q]
        have e : lenB b.toNat = [b] := by
          rw [lenB, if_pos h2]
          congr 1
          apply UInt8.toNat_inj.1
          exact of8_lt (by omega)
        refine ⟨ha, ?_, ?_⟩
        · show [a, b] = a :: lenB b.toNat
          rw [e]
        · show 2 = 1 + (lenB b.toNat).length
          rw [e]; rfl
      · rw [if_neg h2] at q
        by_cases h3 : b.toNat - 128 < 1 ∨ 3 < b.toNat - 128 ∨ (a :: b :: zs).length < 2 + (b.toNat - 128)
        · rw [q, if_pos h3] at h; cases h
        · rw [if_neg h3] at q
          by_cases h4 : wideF (numOf (zs.take (b.toNat - 128))) ≠ 1 + (b.toNat - 128)
          · rw [q, if_pos h4] at h; cases h
          · rw [if_neg h4] at q
            rw [q]
            have h4 : wideF (numOf (zs.take (b.toNat - 128))) = 1 + (b.toNat - 128) := Decidable.not_not.1 h4
            have hl : (zs.take (b.toNat - 128)).length = b.toNat - 128 := by
              rw [List.length_take]
              have : ¬ (zs.length + 1 + 1 < 2 + (b.toNat - 128)) := fun h => h3 (.inr (.inr h))
              omega
            have hn := numOf_24 (xs := zs) (i := b.toNat - 128) (by rw [List.length_take] at hl; omega) (by omega)
            have h128 : ¬ numOf (zs.take (b.toNat - 128)) < 128 := fun h => by
              have := wide_1 h
              omega
            have hk : kB (numOf (zs.take (b.toNat - 128))) = b.toNat - 128 := by
              have := wide_k h128
              omega
            have e : lenB (numOf (zs.take (b.toNat - 128))) = b :: zs.take (b.toNat - 128) := by
              have eb : of8 ((128 + (b.toNat - 128) : Nat) : Int) = b := UInt8.toNat_inj.1 (by rw [of8_lt (by omega)]; omega)
              rw [lenB_num hn, if_neg h128, hk, numK_numOf _ _ hl, eb]
            refine ⟨ha, ?_, ?_⟩
            · show (a :: b :: zs).take (2 + (b.toNat - 128)) = a :: lenB _
              rw [e, show 2 + (b.toNat - 128) = (b.toNat - 128) + 1 + 1 by omega]; rfl
            · show 2 + (b.toNat - 128) = 1 + (lenB _).length
              rw [e, List.length_cons, hl]; omega


theorem sm_of {t : Tr} {m : Nat} (h : t.byt + 2 * t.cnt ≤ m) (hm : m ≤ 70000) : Sm t := by unfold Sm; omega
theorem kids_inv {f : Nat} (ih : ∀ (xs : List UInt8) (t : Tr) (m : Nat), xs.length ≤ 70000 → takeF f xs = some (t, m) → xs.take m = enc t ∧ t.shp = true) : ∀ (k : Nat) (ys : List UInt8) (l : List Tr), ys.length ≤ 70000 → kidsW (takeF f) k ys = some l → ys = encL l ∧ shpL l = true
  | 0, ys, l, _, h => by
    unfold kidsW at h
    split at h
    · rename_i he
      cases h
      exact ⟨List.isEmpty_iff.1 he, rfl⟩
    · cases h
  | k + 1, ys, l, hl, h => by
    unfold kidsW at h
    split at h
    · rename_i he
      cases h
      exact ⟨List.isEmpty_iff.1 he, rfl⟩
    · obtain ⟨⟨t, m⟩, h1, h2⟩ := Option.bind_eq_some_iff.1 h
      obtain ⟨l2, h3, rfl⟩ := Option.map_eq_some_iff.1 h2
      obtain ⟨a1, a2⟩ := ih _ _ _ hl h1
      obtain ⟨b1, b2⟩ := kids_inv ih k _ _ (by rw [List.length_drop]; omega) h3
      dsimp only at a1 a2 b1 b2 ⊢
      refine ⟨?_, ?_⟩
      · rw [encL, ← a1, ← b1, List.take_append_drop]
      · rw [shpL, a2, b2]; rfl
/-- What is decoded was encoded so, and its shape is good. -/
theorem take_inv : ∀ (f : Nat) (xs : List UInt8) (t : Tr) (m : Nat), xs.length ≤ 70000 → takeF f xs = some (t, m) → xs.take m = enc t ∧ t.shp = true
  | 0, xs, t, m, _, h => by cases h
  | f + 1, xs, t, m, hl, h => by
    have hsz := takeF_size _ _ _ _ h
    have hle := takeF_le h
    have hsm := sm_of hsz.1 (by omega)
    unfold takeF at h
    split at h
    · cases h
    · rename_i h1
      rw [not_or, Bool.not_eq_false] at h1
      obtain ⟨k1, k2, k3⟩ := headF_inv h1.1
      have hseg : ((xs.drop (headF xs).2.1).take (headF xs).2.2.1).length = (headF xs).2.2.1 := by rw [List.length_take, List.length_drop]; omega
      have htk : xs.take ((headF xs).2.1 + (headF xs).2.2.1) = (headF xs).1 :: (lenB (headF xs).2.2.1 ++ (xs.drop (headF xs).2.1).take (headF xs).2.2.1) := by
        rw [List.take_add, k2]; rfl
      split at h
      · rename_i h128
        cases h
        refine ⟨?_, ?_⟩
        · rw [htk, enc, encL, sizL, Nat.add_zero, hseg, List.append_nil]
        · rw [Tr.shp, badT, shpL]
          simp only [List.length_nil, Bool.and_true, Bool.not_eq_true', Bool.or_eq_false_iff, Bool.and_eq_false_iff, decide_eq_false_iff_not]
          refine ⟨⟨k1, .inr (by omega)⟩, .inl ?_⟩
          intro hh
          have hh : (128 : Nat) ≤ (headF xs).1.toNat := hh
          omega
      · rename_i h128
        obtain ⟨l, h3, e⟩ := Option.map_eq_some_iff.1 h
        cases e
        obtain ⟨b1, b2⟩ := kids_inv (take_inv f) _ _ _ (by rw [hseg]; omega) h3
        have hel := encL_len hsm
        rw [← b1, hseg] at hel
        refine ⟨?_, ?_⟩
        · rw [htk, enc, ← b1, List.nil_append, List.length_nil, Nat.zero_add, ← hel]
        · rw [Tr.shp, badT, b2]
          simp only [List.length_nil, Bool.and_true, Bool.not_eq_true', Bool.or_eq_false_iff, Bool.and_eq_false_iff, decide_eq_false_iff_not]
          exact ⟨⟨k1, .inl (fun hh => h128 hh)⟩, .inr (by omega)⟩

end Go.Proofs.Ytommkigkkeailaa
