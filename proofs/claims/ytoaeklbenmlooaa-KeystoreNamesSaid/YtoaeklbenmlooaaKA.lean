/- Journals and keys in plain Lean. -/
import Derived.Test.YtoaeklbenmlooaaPLL
import Derived.Test.YtoaeklbenmlooaaTI
namespace Go.Proofs.Ytoaeklbenmlooaa
set_option linter.unusedSimpArgs false
set_option linter.unusedVariables false
open Go Go.PL Go.RowKit

/-- A record. -/
structure Rec where
  k : UInt8
  h : UInt8
  v : UInt16
  id : UInt32
def Rec.c (r : Rec) : List Value := [.int .u8 (r.k.toNat : Int), .int .u8 (r.h.toNat : Int), .int .u16 (r.v.toNat : Int), .int .u32 (r.id.toNat : Int)]
/-- A key. -/
structure KE where
  id : UInt32
  ht : Int
  nx : Int
  du : Int
  ak : Int
  dr : Bool
def KE.c (k : KE) : List Value := [.int .u32 (k.id.toNat : Int), .int .i64 k.ht, .int .i64 k.nx, .int .i64 k.du, .int .i64 k.ak, .bool k.dr]
def KE.z : KE := ⟨0, 0, 0, 0, 0, false⟩
instance : DecidableEq KE := fun a b => decidable_of_iff (a.id = b.id ∧ a.ht = b.ht ∧ a.nx = b.nx ∧ a.du = b.du ∧ a.ak = b.ak ∧ a.dr = b.dr) (by cases a; cases b; simp)
abbrev kcs (ks : List KE) : List Value := (ks.map KE.c).flatten
theorem KE.c_length (k : KE) : k.c.length = 6 := rfl
theorem kcs_length (ks : List KE) : (kcs ks).length = ks.length * 6 := by
  induction ks with
  | nil => rfl
  | cons k r ih => rw [kcs, List.map_cons, List.flatten_cons, List.length_append, KE.c_length]; show 6 + (kcs r).length = _; rw [ih, List.length_cons]; omega
theorem kcs_append (a b : List KE) : kcs (a ++ b) = kcs a ++ kcs b := by simp [kcs]
theorem kcs_one (ks : List KE) : ∀ u ∈ kcs ks, u.oneCell' = true := by
  intro u hu
  obtain ⟨l, hl, hu⟩ := List.mem_flatten.1 hu
  obtain ⟨k, _, rfl⟩ := List.mem_map.1 hl
  simp only [KE.c, List.mem_cons, List.not_mem_nil, or_false] at hu
  rcases hu with rfl | rfl | rfl | rfl | rfl | rfl <;> rfl
theorem kcs_drop (ks : List KE) : ∀ i, i < ks.length → (kcs ks).drop (i * 6) = (ks.getD i KE.z).c ++ (kcs ks).drop (i * 6 + 6) := by
  induction ks with
  | nil => intro i h; exact absurd h (by simp)
  | cons k r ih =>
    intro i h
    have e : kcs (k :: r) = k.c ++ kcs r := rfl
    cases i with
    | zero => rw [e]; rfl
    | succ i =>
      have h1 := ih i (by simpa using h)
      rw [e, show (i + 1) * 6 = k.c.length + i * 6 by rw [KE.c_length]; omega, ← List.drop_drop, List.drop_left, show k.c.length + i * 6 + 6 = k.c.length + (i * 6 + 6) by omega, ← List.drop_drop, List.drop_left, h1]
      rfl
theorem kcs_part {ks : List KE} {i : Nat} (h : i < ks.length) : ((kcs ks).drop (i * 6)).take 6 = (ks.getD i KE.z).c := by
  rw [kcs_drop ks i h, List.take_append_of_le_length (by rw [KE.c_length]; omega), List.take_of_length_le (by rw [KE.c_length]; omega)]
theorem kcs_get {ks : List KE} {i j : Nat} {v : Value} (h : i < ks.length) (hj : (ks.getD i KE.z).c[j]? = some v) : (kcs ks)[i * 6 + j]? = some v := by
  have hlt : j < 6 := by
    rcases Nat.lt_or_ge j 6 with h | h
    · exact h
    · rw [List.getElem?_eq_none (by rw [KE.c_length]; exact h)] at hj; cases hj
  rw [← List.getElem?_drop, kcs_drop ks i h, List.getElem?_append_left (by rw [KE.c_length]; exact hlt)]
  exact hj
theorem kcs_set {ks : List KE} {i j : Nat} {x : Value} (k' : KE) (h : i < ks.length) (hj : (ks.getD i KE.z).c.set j x = k'.c) (hlt : j < 6) : (kcs ks).set (i * 6 + j) x = kcs (ks.set i k') := by
  induction ks generalizing i with
  | nil => exact absurd h (by simp)
  | cons k r ih =>
    have e : kcs (k :: r) = k.c ++ kcs r := rfl
    cases i with
    | zero =>
      rw [e, Nat.zero_mul, Nat.zero_add, List.set_append_left _ _ (by rw [KE.c_length]; exact hlt)]
      have : k.c.set j x = k'.c := hj
      rw [this]; rfl
    | succ i =>
      rw [e, List.set_append_right _ _ (by rw [KE.c_length]; omega), show (i + 1) * 6 + j - k.c.length = i * 6 + j by rw [KE.c_length]; omega, ih (by simpa using h) hj]
      rfl
/-- The index of the first element for which something holds, or -1. -/
def idxFrom {α : Type} (p : α → Bool) : List α → Nat → Int
  | [], _ => -1
  | x :: r, i => if p x then (i : Int) else idxFrom p r (i + 1)
def idxF {α : Type} (p : α → Bool) (l : List α) : Int := idxFrom p l 0
theorem idxFrom_drop {α : Type} (p : α → Bool) (z : α) (l : List α) : ∀ i, (∀ j, j < i → p (l.getD j z) = false) → i ≤ l.length → idxFrom p l 0 = idxFrom p (l.drop i) i
  | 0, _, _ => rfl
  | i + 1, h, hi => by
    rw [idxFrom_drop p z l i (fun j hj => h j (by omega)) (by omega)]
    have e : l.drop i = l.getD i z :: l.drop (i + 1) := by
      rw [List.drop_eq_getElem_cons (by omega)]; congr 1; rw [List.getD_eq_getElem?_getD, List.getElem?_eq_getElem (by omega)]; rfl
    rw [e, idxFrom, h i (by omega)]; rfl
theorem idxF_found {α : Type} {p : α → Bool} (z : α) {l : List α} {i : Nat} (h : ∀ j, j < i → p (l.getD j z) = false) (hi : i < l.length) (hp : p (l.getD i z) = true) : idxF p l = (i : Int) := by
  rw [idxF, idxFrom_drop p z l i h (by omega)]
  have e : l.drop i = l.getD i z :: l.drop (i + 1) := by
    rw [List.drop_eq_getElem_cons (by omega)]; congr 1; rw [List.getD_eq_getElem?_getD, List.getElem?_eq_getElem (by omega)]; rfl
  rw [e, idxFrom, hp]; rfl
theorem idxF_none {α : Type} {p : α → Bool} (z : α) {l : List α} (h : ∀ j, j < l.length → p (l.getD j z) = false) : idxF p l = -1 := by
  rw [idxF, idxFrom_drop p z l l.length h (Nat.le_refl _), List.drop_length]; rfl
theorem idxFrom_spec {α : Type} (p : α → Bool) (z : α) : ∀ (l : List α) (i : Nat), (idxFrom p l i = -1 ∧ ∀ x ∈ l, p x = false) ∨ ∃ j, j < l.length ∧ idxFrom p l i = ((i + j : Nat) : Int) ∧ p (l.getD j z) = true ∧ ∀ k, k < j → p (l.getD k z) = false
  | [], i => .inl ⟨rfl, by simp⟩
  | x :: r, i => by
    rw [idxFrom]
    by_cases hx : p x = true
    · rw [if_pos hx]; exact .inr ⟨0, by simp, rfl, hx, by simp⟩
    · rw [if_neg hx]
      rcases idxFrom_spec p z r (i + 1) with ⟨h1, h2⟩ | ⟨j, h1, h2, h3, h4⟩
      · refine .inl ⟨h1, fun y hy => ?_⟩
        rcases List.mem_cons.1 hy with rfl | hy
        · simpa using hx
        · exact h2 y hy
      · refine .inr ⟨j + 1, by simpa using h1, by rw [h2]; congr 1; omega, h3, fun k hk => ?_⟩
        cases k with
        | zero => simpa using hx
        | succ k => exact h4 k (by omega)
theorem idxF_spec {α : Type} (p : α → Bool) (z : α) (l : List α) : (idxF p l = -1 ∧ ∀ x ∈ l, p x = false) ∨ ∃ j, j < l.length ∧ idxF p l = (j : Int) ∧ p (l.getD j z) = true ∧ ∀ k, k < j → p (l.getD k z) = false := by
  rcases idxFrom_spec p z l 0 with h | ⟨j, h1, h2, h3⟩
  · exact .inl h
  · exact .inr ⟨j, h1, by rw [idxF, h2, Nat.zero_add], h3⟩
abbrev isId (id : UInt32) (k : KE) : Bool := decide (k.id = id)
abbrev placeF (ks : List KE) (id : UInt32) : Int := idxF (isId id) ks
def b8 (r : Rec) : List UInt8 := [r.k, r.h, of8 (sr16 r.v 8).toNat, of8 r.v.toNat, of8 (sr32 r.id 24).toNat, of8 (sr32 r.id 16).toNat, of8 (sr32 r.id 8).toNat, of8 r.id.toNat]
def sumB (l : List UInt8) : Nat → Nat
  | 0 => 0
  | i + 1 => sumB l i + (i + 1) * (l.getD i 0).toNat
theorem sumB_le (l : List UInt8) : ∀ i, i ≤ 8 → sumB l i ≤ 2040 * i
  | 0, _ => Nat.le_refl _
  | i + 1, h => by
    have h1 := sumB_le l i (by omega)
    have h2 := (l.getD i 0).toNat_lt
    have h3 : (i + 1) * (l.getD i 0).toNat ≤ 8 * 255 := Nat.mul_le_mul (by omega) (by omega)
    rw [sumB]; omega
def recB (r : Rec) : List UInt8 := b8 r ++ [of8 ((sumB (b8 r) 8 / 2 ^ 8 : Nat) : Int), of8 ((sumB (b8 r) 8 : Nat) : Int)]
theorem recB_length (r : Rec) : (recB r).length = 10 := rfl
def recAt (bs : List UInt8) : Rec := ⟨bs.getD 0 0, bs.getD 1 0, sl16 (of16 (bs.getD 2 0).toNat) 8 ||| of16 (bs.getD 3 0).toNat,
  ((sl32 (of32 (bs.getD 4 0).toNat) 24 ||| sl32 (of32 (bs.getD 5 0).toNat) 16) ||| sl32 (of32 (bs.getD 6 0).toNat) 8) ||| of32 (bs.getD 7 0).toNat⟩
def okRec (bs : List UInt8) : Bool := decide (recB (recAt bs) = bs.take 10)
def recsN : Nat → List UInt8 → List Rec
  | 0, _ => []
  | f + 1, bs => if 10 ≤ bs.length ∧ okRec bs = true then recAt bs :: recsN f (bs.drop 10) else []
def recs (bs : List UInt8) : List Rec := recsN bs.length bs
theorem recsN_fuel : ∀ (f g : Nat) (bs : List UInt8), bs.length ≤ f → bs.length ≤ g → recsN f bs = recsN g bs
  | 0, 0, _, _, _ => rfl
  | 0, g + 1, bs, h, _ => by rw [recsN, recsN, if_neg (by omega)]
  | f + 1, 0, bs, _, h => by rw [recsN, recsN, if_neg (by omega)]
  | f + 1, g + 1, bs, h, h2 => by
    rw [recsN, recsN]
    by_cases hc : 10 ≤ bs.length ∧ okRec bs = true
    · rw [if_pos hc, if_pos hc, recsN_fuel f g _ (by rw [List.length_drop]; omega) (by rw [List.length_drop]; omega)]
    · rw [if_neg hc, if_neg hc]
theorem recs_cons {bs : List UInt8} (h : 10 ≤ bs.length) (h2 : okRec bs = true) : recs bs = recAt bs :: recs (bs.drop 10) := by
  obtain ⟨n, hn⟩ : ∃ n, bs.length = n + 1 := ⟨bs.length - 1, by omega⟩
  rw [recs, hn, recsN, if_pos ⟨h, h2⟩, recs, recsN_fuel n (bs.drop 10).length _ (by rw [List.length_drop]; omega) (Nat.le_refl _)]
theorem recs_short {bs : List UInt8} (h : bs.length < 10) : recs bs = [] := by
  rw [recs]
  cases hn : bs.length with
  | zero => rfl
  | succ n => rw [recsN, if_neg (by omega)]
theorem recs_bad {bs : List UInt8} (h : okRec bs = false) : recs bs = [] := by
  rw [recs]
  cases hn : bs.length with
  | zero => rfl
  | succ n => rw [recsN, if_neg (fun hc => by rw [h] at hc; cases hc.2)]
/-- The keys behind a record, or none: it does not fit. -/
def readF (ks : List KE) (r : Rec) : Option (List KE) :=
  if r.k = 1 then
    if 0 ≤ placeF ks r.id ∨ 8 ≤ ks.length ∨ 4 < r.h.toNat ∨ r.v ≠ 0 then none else some (ks ++ [⟨r.id, (r.h.toNat : Nat), 0, 0, 0, false⟩])
  else
    let i := (placeF ks r.id).toNat
    let k := ks.getD i KE.z
    if placeF ks r.id < 0 ∨ k.dr = true ∨ k.ht ≠ ((r.h.toNat : Nat) : Int) then none
    else if r.k = 2 then
      if ((r.v.toNat : Nat) : Int) ≤ k.ak ∨ 2 ^ r.h.toNat < r.v.toNat then none else some (ks.set i { k with nx := (r.v.toNat : Nat), du := (r.v.toNat : Nat), ak := (r.v.toNat : Nat) })
    else if r.k = 3 then
      if ((r.v.toNat : Nat) : Int) ≠ k.ak then none else some (ks.set i { k with dr := true })
    else none
def readK (ks : List KE) (r : Rec) : List KE := (readF ks r).getD ks
def scanF : List KE → List Rec → List KE × Nat
  | ks, [] => (ks, 0)
  | ks, r :: rs => match readF ks r with
    | none => (ks, 0)
    | some k' => ((scanF k' rs).1, (scanF k' rs).2 + 10)
def scanR (bs : List UInt8) : List KE × Nat := scanF [] (recs bs)
/-- Keys out of a journal. -/
def KOk (ks : List KE) : Prop := ks.length ≤ 8 ∧ ∀ k ∈ ks, 0 ≤ k.ht ∧ k.ht ≤ 4 ∧ 0 ≤ k.ak ∧ k.ak ≤ 16
theorem KOk.get {ks : List KE} (h : KOk ks) {i : Nat} (hi : i < ks.length) : 0 ≤ (ks.getD i KE.z).ht ∧ (ks.getD i KE.z).ht ≤ 4 ∧ 0 ≤ (ks.getD i KE.z).ak ∧ (ks.getD i KE.z).ak ≤ 16 := by
  refine h.2 _ ?_
  rw [List.getD_eq_getElem?_getD, List.getElem?_eq_getElem hi]; exact List.getElem_mem hi
theorem KOk.nil : KOk [] := ⟨Nat.zero_le _, by simp⟩
theorem pow_le {n : Nat} (h : n ≤ 4) : 2 ^ n ≤ 16 := Nat.le_trans (Nat.pow_le_pow_right (by omega) h) (by decide)
theorem KOk.read {ks k' : List KE} {r : Rec} (h : KOk ks) (hr : readF ks r = some k') : KOk k' := by
  unfold readF at hr
  by_cases h1 : r.k = 1
  · rw [if_pos h1] at hr
    split at hr
    · cases hr
    · rename_i hc
      cases hr
      refine ⟨by rw [List.length_append, List.length_singleton]; omega, fun k hk => ?_⟩
      rcases List.mem_append.1 hk with hk | hk
      · exact h.2 k hk
      · rw [List.mem_singleton] at hk; subst hk; dsimp only; omega
  · rw [if_neg h1] at hr
    dsimp only at hr
    split at hr
    · cases hr
    · rename_i hc
      have hsp := idxF_spec (isId r.id) KE.z ks
      rcases hsp with ⟨e, _⟩ | ⟨j, hj, e, _⟩
      · exact absurd (show placeF ks r.id < 0 by rw [placeF, e]; decide) (fun h => hc (.inl h))
      · have he : (placeF ks r.id).toNat = j := by rw [placeF, e]; rfl
        rw [he] at hr hc
        obtain ⟨g1, g2, g3, g4⟩ := h.get hj
        split at hr
        · split at hr
          · cases hr
          · rename_i hd
            cases hr
            refine ⟨by rw [List.length_set]; exact h.1, fun k hk => ?_⟩
            rcases List.mem_or_eq_of_mem_set hk with hk | rfl
            · exact h.2 k hk
            · have hp : 2 ^ r.h.toNat ≤ 16 := pow_le (by omega)
              dsimp only; omega
        · split at hr
          · split at hr
            · cases hr
            · cases hr
              refine ⟨by rw [List.length_set]; exact h.1, fun k hk => ?_⟩
              rcases List.mem_or_eq_of_mem_set hk with hk | rfl
              · exact h.2 k hk
              · exact ⟨g1, g2, g3, g4⟩
          · cases hr
theorem KOk.readK {ks : List KE} {r : Rec} (h : KOk ks) : KOk (readK ks r) := by
  unfold Go.Proofs.Ytoaeklbenmlooaa.readK
  cases hr : readF ks r with
  | none => exact h
  | some k' => exact h.read hr
theorem KOk.scanF : ∀ {ks : List KE} (h : KOk ks) (rs : List Rec), KOk (scanF ks rs).1
  | _, h, [] => h
  | ks, h, r :: rs => by
    rw [Go.Proofs.Ytoaeklbenmlooaa.scanF]
    cases hr : readF ks r with
    | none => exact h
    | some k' => exact (h.read hr).scanF rs
theorem scanR_ok (bs : List UInt8) : KOk (scanR bs).1 := KOk.nil.scanF _
theorem scanF_le : ∀ (ks : List KE) (rs : List Rec), (scanF ks rs).2 ≤ 10 * rs.length
  | ks, [] => Nat.le_refl _
  | ks, r :: rs => by
    rw [scanF]
    cases hr : readF ks r with
    | none => exact Nat.zero_le _
    | some k' => have := scanF_le k' rs; simp only [List.length_cons]; omega
theorem recs_le : ∀ (f : Nat) (bs : List UInt8), 10 * (recsN f bs).length ≤ bs.length
  | 0, _ => Nat.zero_le _
  | f + 1, bs => by
    rw [recsN]
    split
    · have := recs_le f (bs.drop 10); rw [List.length_drop] at this; simp only [List.length_cons]; omega
    · exact Nat.zero_le _
theorem scanR_le (bs : List UInt8) : (scanR bs).2 ≤ bs.length := Nat.le_trans (scanF_le _ _) (recs_le _ _)

end Go.Proofs.Ytoaeklbenmlooaa
