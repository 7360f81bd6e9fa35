/- Keys of a journal and of its beginning. -/
import Derived.Test.YtoaeklbenmlooaaKK
namespace Go.Proofs.Ytoaeklbenmlooaa
set_option linter.unusedSimpArgs false
set_option linter.unusedVariables false
open Go Go.PL Go.RowKit

abbrev ids (ks : List KE) : List UInt32 := ks.map KE.id
theorem ids_set {ks : List KE} {i : Nat} {x : KE} (h : x.id = (ks.getD i KE.z).id) : ids (ks.set i x) = ids ks := by
  apply List.ext_getElem (by simp [ids])
  intro n h1 h2
  simp only [ids, List.length_map, List.length_set] at h1 h2
  simp only [ids, List.getElem_map, List.getElem_set]
  split
  · rename_i hh
    subst hh
    rw [h, List.getD_eq_getElem?_getD, List.getElem?_eq_getElem h2]; rfl
  · rfl
theorem readF_ids {ks k' : List KE} {r : Rec} (h : readF ks r = some k') : ids k' = ids ks ∨ (ids k' = ids ks ++ [r.id] ∧ placeF ks r.id < 0) := by
  unfold readF at h
  by_cases h1 : r.k = 1
  · rw [if_pos h1] at h
    split at h
    · cases h
    · rename_i hc
      cases h
      refine .inr ⟨by simp [ids], ?_⟩
      apply Int.not_le.1
      exact fun hh => hc (.inl hh)
  · rw [if_neg h1] at h
    dsimp only at h
    split at h
    · cases h
    · split at h
      · split at h
        · cases h
        · cases h; exact .inl (ids_set rfl)
      · split at h
        · split at h
          · cases h
          · cases h; exact .inl (ids_set rfl)
        · cases h
theorem place_mem {ks : List KE} {id : UInt32} (h : placeF ks id < 0) : id ∉ ids ks := by
  rcases idxF_spec (isId id) KE.z ks with ⟨_, h2⟩ | ⟨j, _, h2, _⟩
  · intro hm
    obtain ⟨k, hk, rfl⟩ := List.mem_map.1 hm
    have := h2 k hk
    simp [isId] at this
  · rw [placeF, h2] at h; omega
theorem scanF_ids : ∀ (rs : List Rec) (ks : List KE), (ids ks).Nodup → (∃ t, ids (scanF ks rs).1 = ids ks ++ t) ∧ (ids (scanF ks rs).1).Nodup
  | [], ks, h => ⟨⟨[], by simp [scanF]⟩, h⟩
  | r :: rs, ks, h => by
    rw [scanF]
    cases hr : readF ks r with
    | none => exact ⟨⟨[], by simp⟩, h⟩
    | some k' =>
      dsimp only
      rcases readF_ids hr with h1 | ⟨h1, h2⟩
      · have := scanF_ids rs k' (by rw [h1]; exact h)
        rw [h1] at this; exact this
      · have hn : (ids k').Nodup := by
          rw [h1]
          exact List.nodup_append.2 ⟨h, by simp, fun a ha b hb e => by
            rw [List.mem_singleton] at hb
            subst hb e; exact place_mem h2 ha⟩
        obtain ⟨⟨t, ht⟩, h3⟩ := scanF_ids rs k' hn
        exact ⟨⟨[r.id] ++ t, by rw [ht, h1, List.append_assoc]⟩, h3⟩
theorem scanF_leL : ∀ (rs : List Rec) (ks : List KE), (scanF ks rs).2 ≤ 10 * rs.length
  | [], _ => Nat.le_refl _
  | r :: rs, ks => by
    rw [scanF]
    cases hr : readF ks r with
    | none => exact Nat.zero_le _
    | some k' => have := scanF_leL rs k'; simp only [List.length_cons]; omega
theorem scanF_app : ∀ (rs l : List Rec) (ks : List KE), (scanF ks rs).2 = 10 * rs.length → (scanF ks (rs ++ l)).1 = (scanF (scanF ks rs).1 l).1
  | [], _, _, _ => rfl
  | r :: rs, l, ks, h => by
    rw [scanF] at h
    rw [List.cons_append, scanF, scanF]
    cases hr : readF ks r with
    | none => rw [hr] at h; simp at h
    | some k' => rw [hr] at h; exact scanF_app rs l k' (by simp only [List.length_cons] at h; omega)
theorem recs_leL : ∀ (n : Nat) (bs : List UInt8), bs.length ≤ n → 10 * (recs bs).length ≤ bs.length
  | 0, bs, h => by rw [recs_short (by omega)]; simp
  | n + 1, bs, h => by
    by_cases h1 : 10 ≤ bs.length
    · cases h2 : okRec bs with
      | false => rw [recs_bad h2]; simp
      | true =>
        rw [recs_cons h1 h2, List.length_cons]
        have := recs_leL n (bs.drop 10) (by rw [List.length_drop]; omega)
        rw [List.length_drop] at this; omega
    · rw [recs_short (by omega)]; simp
theorem getD_app {a b : List UInt8} {i : Nat} (h : i < a.length) : (a ++ b).getD i 0 = a.getD i 0 := by
  rw [List.getD_eq_getElem?_getD, List.getD_eq_getElem?_getD, List.getElem?_append_left h]
theorem recAt_app {a b : List UInt8} (h : 10 ≤ a.length) : recAt (a ++ b) = recAt a := by
  unfold recAt
  rw [getD_app (by omega), getD_app (by omega), getD_app (by omega), getD_app (by omega), getD_app (by omega), getD_app (by omega), getD_app (by omega), getD_app (by omega)]
theorem recs_app : ∀ (n : Nat) (a b : List UInt8), a.length ≤ n → 10 * (recs a).length = a.length → recs (a ++ b) = recs a ++ recs b
  | 0, a, b, h, _ => by
    obtain rfl : a = [] := List.eq_nil_of_length_eq_zero (by omega)
    rfl
  | n + 1, a, b, h, he => by
    by_cases h1 : 10 ≤ a.length
    · cases h2 : okRec a with
      | false => rw [recs_bad h2] at he; simp at he; omega
      | true =>
        have h3 : okRec (a ++ b) = true := by
          unfold okRec at h2 ⊢
          rw [recAt_app h1, List.take_append_of_le_length h1]; exact h2
        rw [recs_cons h1 h2, List.length_cons] at he
        rw [recs_cons h1 h2, recs_cons (by rw [List.length_append]; omega) h3, recAt_app h1, List.drop_append_of_le_length h1, recs_app n (a.drop 10) b (by rw [List.length_drop]; omega) (by rw [List.length_drop]; omega)]
        rfl
    · rw [recs_short (by omega)] at he
      obtain rfl : a = [] := List.eq_nil_of_length_eq_zero (by simp at he; omega)
      rfl
theorem scanR_app {dk : List UInt8} (pd : List UInt8) (h : (scanR dk).2 = dk.length) : (scanR (dk ++ pd)).1 = (scanF (scanR dk).1 (recs pd)).1 := by
  have h1 := scanF_leL (recs dk) []
  have h2 := recs_leL dk.length dk (Nat.le_refl _)
  have h3 : (scanR dk).2 = (scanF [] (recs dk)).2 := rfl
  have e : 10 * (recs dk).length = dk.length := by omega
  rw [scanR, recs_app dk.length dk pd (Nat.le_refl _) e, scanF_app _ _ _ (by omega)]; rfl
theorem scanR_nodup (bs : List UInt8) : (ids (scanR bs).1).Nodup := (scanF_ids (recs bs) [] (by simp [ids])).2
theorem id_get {ks : List KE} {i : Nat} (h : i < ks.length) : (ids ks)[i]? = some (ks.getD i KE.z).id := by
  rw [ids, List.getElem?_map, List.getD_eq_getElem?_getD, List.getElem?_eq_getElem h]; rfl
theorem place_nodup {ks : List KE} {i : Nat} (hn : (ids ks).Nodup) (h : i < ks.length) : placeF ks (ks.getD i KE.z).id = (i : Int) := by
  rcases idxF_spec (isId (ks.getD i KE.z).id) KE.z ks with ⟨_, h2⟩ | ⟨j, h1, h2, h3, h4⟩
  · exfalso
    have hm : ks.getD i KE.z ∈ ks := by rw [List.getD_eq_getElem?_getD, List.getElem?_eq_getElem h]; exact List.getElem_mem h
    have := h2 _ hm
    simp [isId] at this
  · rw [placeF, h2]
    have e : (ks.getD j KE.z).id = (ks.getD i KE.z).id := by simpa [isId] using h3
    have e1 := id_get h1
    have e2 := id_get h
    rw [e] at e1
    have hj : j < (ids ks).length := by rw [ids, List.length_map]; exact h1
    have hi : i < (ids ks).length := by rw [ids, List.length_map]; exact h
    rw [List.getElem?_eq_getElem hj] at e1
    rw [List.getElem?_eq_getElem hi] at e2
    have eq : (ids ks)[j] = (ids ks)[i] := by rw [Option.some.inj e1, Option.some.inj e2]
    have hpw := List.pairwise_iff_getElem.1 hn
    rcases Nat.lt_trichotomy j i with hl | hl | hl
    · exact absurd eq (hpw j i hj hi hl)
    · rw [hl]
    · exact absurd eq.symm (hpw i j hi hj hl)
def durQ (d : List KE) (id : UInt32) : Int := if 0 ≤ placeF d id then (d.getD (placeF d id).toNat KE.z).ak else 0
theorem dur_eq {dk pd : List UInt8} (h : (scanR dk).2 = dk.length) {i : Nat} (hi : i < (scanR (dk ++ pd)).1.length) : durQ (scanR dk).1 ((scanR (dk ++ pd)).1.getD i KE.z).id = durF (scanR dk).1 i := by
  have hA := scanR_app pd h
  have hD := scanR_nodup dk
  obtain ⟨⟨t, ht⟩, hN⟩ := scanF_ids (recs pd) (scanR dk).1 hD
  rw [← hA] at ht hN
  have hg := id_get hi
  rw [ht] at hg
  unfold durQ durF
  by_cases hc : i < (scanR dk).1.length
  · rw [List.getElem?_append_left (by rw [ids, List.length_map]; exact hc), id_get hc] at hg
    rw [← Option.some.inj hg, place_nodup hD hc, if_pos (by omega), if_pos hc, Int.toNat_natCast]
  · rw [if_neg hc, if_neg]
    intro hp
    rcases idxF_spec (isId ((scanR (dk ++ pd)).1.getD i KE.z).id) KE.z (scanR dk).1 with ⟨h1, _⟩ | ⟨j, h1, h2, h3, _⟩
    · rw [placeF, h1] at hp; exact absurd hp (by decide)
    · have e : ((scanR dk).1.getD j KE.z).id = ((scanR (dk ++ pd)).1.getD i KE.z).id := by simpa [isId] using h3
      rw [List.getElem?_append_right (by rw [ids, List.length_map]; omega)] at hg
      have hm := List.mem_of_getElem? hg
      have hm2 := List.mem_of_getElem? (id_get h1)
      rw [e] at hm2
      rw [ht] at hN
      exact (List.nodup_append.1 hN).2.2 _ hm2 _ hm rfl

end Go.Proofs.Ytoaeklbenmlooaa
