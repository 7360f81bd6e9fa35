/- Journals: their beginnings, and how keys grow. -/
import Derived.Test.YtoaeklbenmlooaaKAD
namespace Go.Proofs.Ytoaeklbenmlooaa
set_option linter.unusedSimpArgs false
set_option linter.unusedVariables false
open Go Go.PL Go.RowKit

/-! Bytes of a record. -/
theorem join16 (v : UInt16) : sl16 (of16 ((of8 (sr16 v 8).toNat).toNat : Int)) 8 ||| of16 ((of8 v.toNat).toNat : Int) = v := by
  apply UInt16.toNat_inj.1
  have h := v.toNat_lt
  have e1 : (of8 ((sr16 v 8).toNat : Int)).toNat = v.toNat / 256 := by
    have := of8_toNat ((sr16 v 8).toNat : Int)
    have e : (sr16 v 8).toNat = v.toNat / 256 := by
      show (UInt16.ofNat (v.toNat / 256)).toNat = _
      rw [UInt16.toNat_ofNat']; exact Nat.mod_eq_of_lt (by omega)
    rw [e] at this ⊢; omega
  have e2 : (of8 (v.toNat : Int)).toNat = v.toNat % 256 := by have := of8_toNat (v.toNat : Int); omega
  have e3 : (of16 ((of8 ((sr16 v 8).toNat : Int)).toNat : Int)).toNat = v.toNat / 256 := by have := of16_toNat ((of8 ((sr16 v 8).toNat : Int)).toNat : Int); omega
  have e4 : (of16 ((of8 (v.toNat : Int)).toNat : Int)).toNat = v.toNat % 256 := by have := of16_toNat ((of8 (v.toNat : Int)).toNat : Int); omega
  have e5 : (sl16 (of16 ((of8 ((sr16 v 8).toNat : Int)).toNat : Int)) 8).toNat = (v.toNat / 256) <<< 8 := by
    show (UInt16.ofNat ((of16 ((of8 ((sr16 v 8).toNat : Int)).toNat : Int)).toNat * 256)).toNat = _
    rw [UInt16.toNat_ofNat', e3, Nat.shiftLeft_eq]; exact Nat.mod_eq_of_lt (by omega)
  rw [UInt16.toNat_or, e5, e4, ← Nat.shiftLeft_add_eq_or_of_lt (by omega), Nat.shiftLeft_eq]; omega
theorem join32 (v : UInt32) : ((sl32 (of32 ((of8 (sr32 v 24).toNat).toNat : Int)) 24 ||| sl32 (of32 ((of8 (sr32 v 16).toNat).toNat : Int)) 16) ||| sl32 (of32 ((of8 (sr32 v 8).toNat).toNat : Int)) 8) ||| of32 ((of8 v.toNat).toNat : Int) = v := by
  apply UInt32.toNat_inj.1
  have h := v.toNat_lt
  have g : ∀ k, k ≤ 24 → (of32 ((of8 ((sr32 v k).toNat : Int)).toNat : Int)).toNat = v.toNat / 2 ^ k % 256 := fun k hk => by
    have h1 := of8_toNat ((sr32 v k).toNat : Int)
    have h2 := of32_toNat ((of8 ((sr32 v k).toNat : Int)).toNat : Int)
    have h3 : (sr32 v k).toNat = v.toNat / 2 ^ k := by
      have : v.toNat / 2 ^ k ≤ v.toNat := Nat.div_le_self _ _
      simp only [sr32, UInt32.toNat_ofNat', Nat.min_eq_left (show k ≤ 32 by omega)]
      exact Nat.mod_eq_of_lt (by omega)
    rw [← h3]; omega
  have e4 : (of32 ((of8 (v.toNat : Int)).toNat : Int)).toNat = v.toNat % 256 := by have := of32_toNat ((of8 (v.toNat : Int)).toNat : Int); have := of8_toNat (v.toNat : Int); omega
  have s : ∀ (x : UInt32) k, k ≤ 24 → x.toNat < 256 → (sl32 x k).toNat = x.toNat <<< k := fun x k hk hx => by
    have : x.toNat * 2 ^ k < 256 * 2 ^ k := Nat.mul_lt_mul_of_pos_right hx (Nat.two_pow_pos k)
    have : 2 ^ k ≤ 2 ^ 24 := Nat.pow_le_pow_right (by decide) hk
    simp only [sl32, UInt32.toNat_ofNat', Nat.min_eq_left (show k ≤ 32 by omega), Nat.shiftLeft_eq]
    exact Nat.mod_eq_of_lt (by omega)
  have g24 := g 24 (by decide)
  have g16 := g 16 (by decide)
  have g8 := g 8 (by decide)
  rw [UInt32.toNat_or, UInt32.toNat_or, UInt32.toNat_or, s _ 24 (by decide) (by omega), s _ 16 (by decide) (by omega), s _ 8 (by decide) (by omega), g24, g16, g8, e4]
  have d24 : v.toNat / 2 ^ 24 % 256 = v.toNat / 2 ^ 24 := by omega
  rw [d24]
  have o1 : (v.toNat / 2 ^ 24) <<< 24 ||| (v.toNat / 2 ^ 16 % 256) <<< 16 = (v.toNat / 2 ^ 16) <<< 16 := by
    rw [← Nat.shiftLeft_add_eq_or_of_lt (by rw [Nat.shiftLeft_eq]; omega), Nat.shiftLeft_eq, Nat.shiftLeft_eq, Nat.shiftLeft_eq]; omega
  have o2 : (v.toNat / 2 ^ 16) <<< 16 ||| (v.toNat / 2 ^ 8 % 256) <<< 8 = (v.toNat / 2 ^ 8) <<< 8 := by
    rw [← Nat.shiftLeft_add_eq_or_of_lt (by rw [Nat.shiftLeft_eq]; omega), Nat.shiftLeft_eq, Nat.shiftLeft_eq, Nat.shiftLeft_eq]; omega
  rw [o1, o2, ← Nat.shiftLeft_add_eq_or_of_lt (by omega), Nat.shiftLeft_eq]; omega
theorem recAt_recB (r : Rec) (t : List UInt8) : recAt (recB r ++ t) = r := by
  show Rec.mk r.k r.h (sl16 (of16 ((of8 (sr16 r.v 8).toNat).toNat : Int)) 8 ||| of16 ((of8 r.v.toNat).toNat : Int)) (((sl32 (of32 ((of8 (sr32 r.id 24).toNat).toNat : Int)) 24 ||| sl32 (of32 ((of8 (sr32 r.id 16).toNat).toNat : Int)) 16) ||| sl32 (of32 ((of8 (sr32 r.id 8).toNat).toNat : Int)) 8) ||| of32 ((of8 r.id.toNat).toNat : Int)) = r
  rw [join16, join32]
theorem recs_recB (r : Rec) (t : List UInt8) : recs (recB r ++ t) = r :: recs t := by
  have h : 10 ≤ (recB r ++ t).length := by rw [List.length_append, recB_length]; omega
  have hk : okRec (recB r ++ t) = true := by
    rw [okRec, recAt_recB, List.take_left' (recB_length r)]; exact decide_eq_true rfl
  rw [recs_cons h hk, recAt_recB, List.drop_left' (recB_length r)]
theorem recs_full {bs : List UInt8} (h : (scanR bs).2 = bs.length) : 10 * (recs bs).length = bs.length ∧ (scanF [] (recs bs)).2 = 10 * (recs bs).length := by
  have h1 := scanF_le [] (recs bs)
  have h2 : 10 * (recs bs).length ≤ bs.length := recs_le _ _
  have h3 : (scanR bs).2 = (scanF [] (recs bs)).2 := rfl
  omega
theorem scanF_app2 : ∀ (rs l : List Rec) (ks : List KE), (scanF ks rs).2 = 10 * rs.length → scanF ks (rs ++ l) = ((scanF (scanF ks rs).1 l).1, (scanF (scanF ks rs).1 l).2 + 10 * rs.length)
  | [], l, ks, _ => by simp [scanF]
  | r :: rs, l, ks, h => by
    rw [scanF] at h
    rw [List.cons_append, scanF, scanF]
    cases hr : readF ks r with
    | none => rw [hr] at h; simp at h
    | some k' =>
      rw [hr] at h
      have h1 := scanF_app2 rs l k' (by simp only [List.length_cons] at h; omega)
      dsimp only
      rw [h1, List.length_cons]
      simp only [Prod.mk.injEq, true_and]; omega
theorem scanR_snoc {bs : List UInt8} {r : Rec} {k' : List KE} (h : (scanR bs).2 = bs.length) (hr : readF (scanR bs).1 r = some k') : scanR (bs ++ recB r) = (k', bs.length + 10) := by
  obtain ⟨h1, h2⟩ := recs_full h
  have e : recs (recB r) = [r] := by have := recs_recB r []; rw [List.append_nil] at this; rw [this, recs_short (by decide)]
  have hr' : readF (scanF [] (recs bs)).1 r = some k' := hr
  rw [scanR, recs_app bs.length bs _ (Nat.le_refl _) h1, e, scanF_app2 _ _ _ h2, scanF, hr']
  simp only [scanF, Prod.mk.injEq, true_and]; omega
/-- How keys grow. -/
def Ext (a b : List KE) : Prop := a.length ≤ b.length ∧ ∀ i, i < a.length → (b.getD i KE.z).id = (a.getD i KE.z).id ∧ (b.getD i KE.z).ht = (a.getD i KE.z).ht ∧ (a.getD i KE.z).ak ≤ (b.getD i KE.z).ak ∧ ((a.getD i KE.z).dr = true → (b.getD i KE.z).dr = true)
theorem Ext.refl (a : List KE) : Ext a a := ⟨Nat.le_refl _, fun i _ => ⟨rfl, rfl, Int.le_refl _, id⟩⟩
theorem Ext.trans {a b c : List KE} (h1 : Ext a b) (h2 : Ext b c) : Ext a c := ⟨Nat.le_trans h1.1 h2.1, fun i hi => by
  obtain ⟨p1, p2, p3, p4⟩ := h1.2 i hi
  obtain ⟨q1, q2, q3, q4⟩ := h2.2 i (Nat.lt_of_lt_of_le hi h1.1)
  exact ⟨q1.trans p1, q2.trans p2, Int.le_trans p3 q3, fun h => q4 (p4 h)⟩⟩
theorem getD_set {ks : List KE} {i j : Nat} {k : KE} (hi : i < ks.length) : (ks.set j k).getD i KE.z = if j = i then k else ks.getD i KE.z := by
  rw [List.getD_eq_getElem?_getD, List.getD_eq_getElem?_getD, List.getElem?_set]
  split
  · rename_i h; subst h; rw [if_pos hi]; rfl
  · rfl
theorem getD_snoc {ks : List KE} {i : Nat} {k : KE} (hi : i < ks.length) : (ks ++ [k]).getD i KE.z = ks.getD i KE.z := by
  rw [List.getD_eq_getElem?_getD, List.getD_eq_getElem?_getD, List.getElem?_append_left hi]
theorem getD_snocL {ks : List KE} {k : KE} : (ks ++ [k]).getD ks.length KE.z = k := by
  rw [List.getD_eq_getElem?_getD, List.getElem?_append_right (Nat.le_refl _), Nat.sub_self]; rfl
theorem Ext.snoc (a : List KE) (k : KE) : Ext a (a ++ [k]) := ⟨by rw [List.length_append]; omega, fun i hi => by rw [getD_snoc hi]; exact ⟨rfl, rfl, Int.le_refl _, id⟩⟩
theorem Ext.set (a : List KE) (j : Nat) (k : KE) (h1 : k.id = (a.getD j KE.z).id) (h2 : k.ht = (a.getD j KE.z).ht) (h3 : (a.getD j KE.z).ak ≤ k.ak) (h4 : (a.getD j KE.z).dr = true → k.dr = true) : Ext a (a.set j k) := ⟨by rw [List.length_set]; exact Nat.le_refl _, fun i hi => by
  rw [getD_set hi]
  split
  · rename_i h; subst h; exact ⟨h1, h2, h3, h4⟩
  · exact ⟨rfl, rfl, Int.le_refl _, id⟩⟩
/-- A key as it comes out of a journal. -/
def KGood (k : KE) : Prop := k.nx = k.ak ∧ k.du = k.ak ∧ 0 ≤ k.ht ∧ k.ht ≤ 4 ∧ 0 ≤ k.ak ∧ k.ak ≤ ((2 ^ k.ht.toNat : Nat) : Int)
def KGs (ks : List KE) : Prop := ∀ k ∈ ks, KGood k
theorem KGs.get {ks : List KE} (h : KGs ks) {i : Nat} (hi : i < ks.length) : KGood (ks.getD i KE.z) := by
  refine h _ ?_
  rw [List.getD_eq_getElem?_getD, List.getElem?_eq_getElem hi]; exact List.getElem_mem hi
theorem readF_grow {ks k' : List KE} {r : Rec} (hg : KGs ks) (hr : readF ks r = some k') : Ext ks k' ∧ KGs k' := by
  unfold readF at hr
  by_cases h1 : r.k = 1
  · rw [if_pos h1] at hr
    split at hr
    · cases hr
    · rename_i hc
      cases hr
      refine ⟨Ext.snoc _ _, fun k hk => ?_⟩
      rcases List.mem_append.1 hk with hk | hk
      · exact hg k hk
      · rw [List.mem_singleton] at hk; subst hk
        refine ⟨rfl, rfl, ?_, ?_, Int.le_refl _, ?_⟩
        · dsimp only; omega
        · dsimp only; omega
        · exact Int.natCast_nonneg _
  · rw [if_neg h1] at hr
    dsimp only at hr
    split at hr
    · cases hr
    · rename_i hc
      obtain ⟨hl, he⟩ := place_nat (ks := ks) (id := r.id) (by apply Int.not_lt.1; exact fun h => hc (.inl h))
      have hk := hg.get hl
      split at hr
      · split at hr
        · cases hr
        · rename_i hd
          cases hr
          refine ⟨Ext.set _ _ _ rfl rfl (by dsimp only; omega) id, fun k hk' => ?_⟩
          rcases List.mem_or_eq_of_mem_set hk' with hk' | rfl
          · exact hg k hk'
          · obtain ⟨g1, g2, g3, g4, g5, g6⟩ := hk
            have hh : (ks.getD (placeF ks r.id).toNat KE.z).ht = ((r.h.toNat : Nat) : Int) := Decidable.not_not.1 fun h => hc (.inr (.inr h))
            refine ⟨rfl, rfl, g3, g4, Int.natCast_nonneg _, ?_⟩
            show ((r.v.toNat : Nat) : Int) ≤ ((2 ^ (ks.getD (placeF ks r.id).toNat KE.z).ht.toNat : Nat) : Int)
            rw [hh, Int.toNat_natCast]; omega
      · split at hr
        · split at hr
          · cases hr
          · cases hr
            refine ⟨Ext.set _ _ _ rfl rfl (Int.le_refl _) (fun _ => rfl), fun k hk' => ?_⟩
            rcases List.mem_or_eq_of_mem_set hk' with hk' | rfl
            · exact hg k hk'
            · exact hk
        · cases hr
theorem scanF_grow : ∀ (rs : List Rec) {ks : List KE}, KGs ks → Ext ks (scanF ks rs).1 ∧ KGs (scanF ks rs).1
  | [], ks, h => ⟨Ext.refl _, h⟩
  | r :: rs, ks, h => by
    rw [scanF]
    cases hr : readF ks r with
    | none => exact ⟨Ext.refl _, h⟩
    | some k' =>
      obtain ⟨h1, h2⟩ := readF_grow h hr
      obtain ⟨h3, h4⟩ := scanF_grow rs h2
      exact ⟨h1.trans h3, h4⟩
theorem scanR_good (bs : List UInt8) : KGs (scanR bs).1 := (scanF_grow (recs bs) (ks := []) (fun k hk => by cases hk)).2
theorem scanF_take : ∀ (rs : List Rec) (ks : List KE) (j : Nat), (scanF ks rs).2 = 10 * rs.length → j ≤ rs.length → (scanF ks (rs.take j)).2 = 10 * j
  | [], ks, j, _, hj => by
    obtain rfl : j = 0 := by simpa using hj
    rfl
  | r :: rs, ks, 0, _, _ => rfl
  | r :: rs, ks, j + 1, h, hj => by
    rw [scanF] at h
    rw [List.take_succ_cons, scanF]
    cases hr : readF ks r with
    | none => rw [hr] at h; simp at h
    | some k' =>
      rw [hr] at h
      have := scanF_take rs k' j (by simp only [List.length_cons] at h; omega) (by simpa using hj)
      dsimp only; omega
theorem recs_take : ∀ (n : Nat) (bs : List UInt8) (m : Nat), bs.length ≤ n → 10 * (recs bs).length = bs.length → m ≤ bs.length → recs (bs.take m) = (recs bs).take (m / 10)
  | 0, bs, m, h, _, hm => by
    obtain rfl : bs = [] := List.eq_nil_of_length_eq_zero (by omega)
    simp [recs, recsN]
  | n + 1, bs, m, h, he, hm => by
    by_cases h1 : m < 10
    · rw [recs_short (by rw [List.length_take]; omega), show m / 10 = 0 by omega]; rfl
    · have h10 : 10 ≤ bs.length := by omega
      cases h2 : okRec bs with
      | false => rw [recs_bad h2] at he; simp at he; omega
      | true =>
        have hl : (bs.take m).length = m := by rw [List.length_take]; omega
        have ea : recAt (bs.take m) = recAt bs := by
          have := recAt_app (a := bs.take m) (b := bs.drop m) (by omega)
          rw [List.take_append_drop] at this; exact this.symm
        have h3 : okRec (bs.take m) = true := by
          unfold okRec at h2 ⊢
          rw [ea, List.take_take, Nat.min_eq_left (by omega)]; exact h2
        rw [recs_cons h10 h2, List.length_cons] at he
        rw [recs_cons (by omega) h3, recs_cons h10 h2, ea, show m / 10 = (m - 10) / 10 + 1 by omega, List.take_succ_cons, List.drop_take]
        congr 1
        exact recs_take n (bs.drop 10) (m - 10) (by rw [List.length_drop]; omega) (by rw [List.length_drop]; omega) (by rw [List.length_drop]; omega)
/-- A beginning of a whole journal. -/
theorem scanR_take {bs : List UInt8} (h : (scanR bs).2 = bs.length) {m : Nat} (hm : m ≤ bs.length) : (scanR (bs.take m)).2 = 10 * (m / 10) ∧ Ext (scanR (bs.take m)).1 (scanR bs).1 := by
  obtain ⟨h1, h2⟩ := recs_full h
  have e := recs_take bs.length bs m (Nat.le_refl _) h1 hm
  have hj : m / 10 ≤ (recs bs).length := by omega
  have h3 := scanF_take (recs bs) [] (m / 10) h2 hj
  rw [scanR, e]
  refine ⟨h3, ?_⟩
  have h4 := scanF_app ((recs bs).take (m / 10)) ((recs bs).drop (m / 10)) [] (by rw [h3, List.length_take, Nat.min_eq_left hj])
  rw [List.take_append_drop] at h4
  show Ext (scanF [] ((recs bs).take (m / 10))).1 (scanF [] (recs bs)).1
  rw [h4]
  exact (scanF_grow _ (scanF_grow _ (ks := []) (fun k hk => by cases hk)).2).1
theorem scanR_ext {dk : List UInt8} (pd : List UInt8) (h : (scanR dk).2 = dk.length) : Ext (scanR dk).1 (scanR (dk ++ pd)).1 := by
  rw [scanR_app pd h]
  exact (scanF_grow _ (scanR_good dk)).1
/-- The whole part of a journal. -/
theorem scanF_pre : ∀ (rs : List Rec) (ks : List KE), ∃ j, j ≤ rs.length ∧ (scanF ks rs).2 = 10 * j ∧ scanF ks (rs.take j) = scanF ks rs
  | [], ks => ⟨0, Nat.le_refl _, rfl, rfl⟩
  | r :: rs, ks => by
    cases hr : readF ks r with
    | none => refine ⟨0, Nat.zero_le _, ?_, ?_⟩ <;> simp [scanF, hr]
    | some k' =>
      obtain ⟨j, h1, h2, h3⟩ := scanF_pre rs k'
      refine ⟨j + 1, by simpa using h1, ?_, ?_⟩
      · rw [scanF, hr]; dsimp only; omega
      · rw [List.take_succ_cons, scanF, scanF, hr]; dsimp only; rw [h3]
theorem recs_cut : ∀ (n : Nat) (bs : List UInt8) (j : Nat), bs.length ≤ n → j ≤ (recs bs).length → recs (bs.take (10 * j)) = (recs bs).take j ∧ 10 * j ≤ bs.length
  | 0, bs, j, h, hj => by
    obtain rfl : bs = [] := List.eq_nil_of_length_eq_zero (by omega)
    have : j = 0 := by simpa [recs, recsN] using hj
    subst this
    exact ⟨rfl, Nat.le_refl _⟩
  | n + 1, bs, 0, _, _ => ⟨by rw [Nat.mul_zero, List.take_zero, List.take_zero]; rfl, Nat.zero_le _⟩
  | n + 1, bs, j + 1, h, hj => by
    by_cases h10 : 10 ≤ bs.length
    · cases h2 : okRec bs with
      | false => rw [recs_bad h2] at hj; simp at hj
      | true =>
        rw [recs_cons h10 h2] at hj
        obtain ⟨h4, h5⟩ := recs_cut n (bs.drop 10) j (by rw [List.length_drop]; omega) (by simpa using hj)
        rw [List.length_drop] at h5
        have hl : (bs.take (10 * (j + 1))).length = 10 * (j + 1) := by rw [List.length_take]; omega
        have ea : recAt (bs.take (10 * (j + 1))) = recAt bs := by
          have := recAt_app (a := bs.take (10 * (j + 1))) (b := bs.drop (10 * (j + 1))) (by omega)
          rw [List.take_append_drop] at this; exact this.symm
        have h3 : okRec (bs.take (10 * (j + 1))) = true := by
          unfold okRec at h2 ⊢
          rw [ea, List.take_take, Nat.min_eq_left (by omega)]; exact h2
        refine ⟨?_, by omega⟩
        rw [recs_cons (by omega) h3, recs_cons h10 h2, ea, List.take_succ_cons, List.drop_take, show 10 * (j + 1) - 10 = 10 * j by omega, h4]
    · rw [recs_short (by omega)] at hj; simp at hj
theorem scanR_cut (bs : List UInt8) : scanR (bs.take (scanR bs).2) = scanR bs ∧ (bs.take (scanR bs).2).length = (scanR bs).2 := by
  obtain ⟨j, h1, h2, h3⟩ := scanF_pre (recs bs) []
  have e : (scanR bs).2 = 10 * j := h2
  obtain ⟨h4, h5⟩ := recs_cut bs.length bs j (Nat.le_refl _) h1
  rw [e]
  exact ⟨by rw [scanR, h4, h3]; rfl, by rw [List.length_take]; omega⟩

end Go.Proofs.Ytoaeklbenmlooaa
