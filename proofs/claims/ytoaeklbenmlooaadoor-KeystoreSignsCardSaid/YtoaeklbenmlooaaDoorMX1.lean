/- What the statement reaches, in order. -/
import Derived.Test.YtoaeklbenmlooaaDoorMXPLN
import Derived.Test.YtoaeklbenmlooaaDoorMXPLL
import Derived.Test.YtoaeklbenmlooaaDoorMXTI
import Derived.Test.YtoaeklbenmlooaaDoorMXPLI
import Derived.Test.YtoaeklbenmlooaaDoorMXPLZ
import Derived.WalkKit
import Derived.ProofKit
import Derived.OpenShut
import Derived.ChangeOld
import Derived.Below
import Derived.Carry
import Derived.LaidMore
import Derived.Deep.DeepHandedRow
import Derived.Deep.DeepWitnessRowRef
import Derived.Lib.LaidTab
import Derived.Stop.Joined
set_option linter.unusedSimpArgs false
set_option linter.unusedVariables false
set_option maxRecDepth 100000
namespace Go.Proofs.YtoaeklbenmlooaaDoor
open Go Go.PL Go.RowKit
structure Rec where
  k : UInt8
  h : UInt8
  v : UInt16
  id : UInt32
def Rec.c (r : Rec) : List Value := [.int .u8 (r.k.toNat : Int), .int .u8 (r.h.toNat : Int), .int .u16 (r.v.toNat : Int), .int .u32 (r.id.toNat : Int)]
structure KE where
  id : UInt32
  ht : Int
  nx : Int
  du : Int
  ak : Int
  dr : Bool
def KE.c (k : KE) : List Value := [.int .u32 (k.id.toNat : Int), .int .i64 k.ht, .int .i64 k.nx, .int .i64 k.du, .int .i64 k.ak, .bool k.dr]
def KE.z : KE := ⟨0, 0, 0, 0, 0, false⟩
instance : DecidableEq KE := fun a b => decidable_of_iff (a.id = b.id ∧ a.ht = b.ht ∧ a.nx = b.nx ∧ a.du = b.du ∧ a.ak = b.ak ∧ a.dr = b.dr) (by cases a; cases b; simp)
abbrev kcs (ks : List KE) : List Value := (ks.map KE.c).flatten
theorem KE.c_length (k : KE) : k.c.length = 6 := rfl
theorem kcs_length (ks : List KE) : (kcs ks).length = ks.length * 6 := by
  induction ks with
  | nil => rfl
  | cons k r ih => rw [kcs, List.map_cons, List.flatten_cons, List.length_append, KE.c_length]; show 6 + (kcs r).length = _; rw [ih, List.length_cons]; omega
theorem kcs_append (a b : List KE) : kcs (a ++ b) = kcs a ++ kcs b := by simp [kcs]
theorem kcs_one (ks : List KE) : ∀ u ∈ kcs ks, u.oneCell' = true := by
  intro u hu
  obtain ⟨l, hl, hu⟩ := List.mem_flatten.1 hu
  obtain ⟨k, _, rfl⟩ := List.mem_map.1 hl
  simp only [KE.c, List.mem_cons, List.not_mem_nil, or_false] at hu
  rcases hu with rfl | rfl | rfl | rfl | rfl | rfl <;> rfl
theorem kcs_drop (ks : List KE) : ∀ i, i < ks.length → (kcs ks).drop (i * 6) = (ks.getD i KE.z).c ++ (kcs ks).drop (i * 6 + 6) := by
  induction ks with
  | nil => intro i h; exact absurd h zz50
  | cons k r ih =>
    intro i h
    have e : kcs (k :: r) = k.c ++ kcs r := rfl
    cases i with
    | zero => rw [e]; rfl
    | succ i =>
      have h1 := ih i (by simpa using h)
      rw [e, show (i + 1) * 6 = k.c.length + i * 6 by rw [KE.c_length]; omega, ← List.drop_drop, List.drop_left, show k.c.length + i * 6 + 6 = k.c.length + (i * 6 + 6) from zz16, ← List.drop_drop, List.drop_left, h1]
      rfl
theorem kcs_part {ks : List KE} {i : Nat} (h : i < ks.length) : ((kcs ks).drop (i * 6)).take 6 = (ks.getD i KE.z).c := by
  rw [kcs_drop ks i h, List.take_append_of_le_length (by rw [KE.c_length]; omega), List.take_of_length_le (by rw [KE.c_length]; omega)]
theorem kcs_get {ks : List KE} {i j : Nat} {v : Value} (h : i < ks.length) (hj : (ks.getD i KE.z).c[j]? = some v) : (kcs ks)[i * 6 + j]? = some v := by
  have hlt : j < 6 := by
    rcases Nat.lt_or_ge j 6 with h | h
    · exact h
    · rw [List.getElem?_eq_none (by rw [KE.c_length]; exact h)] at hj; cases hj
  rw [← List.getElem?_drop, kcs_drop ks i h, List.getElem?_append_left (by rw [KE.c_length]; exact hlt)]
  exact hj
theorem kcs_set {ks : List KE} {i j : Nat} {x : Value} (k' : KE) (h : i < ks.length) (hj : (ks.getD i KE.z).c.set j x = k'.c) (hlt : j < 6) : (kcs ks).set (i * 6 + j) x = kcs (ks.set i k') := by
  induction ks generalizing i with
  | nil => exact absurd h zz50
  | cons k r ih =>
    have e : kcs (k :: r) = k.c ++ kcs r := rfl
    cases i with
    | zero =>
      rw [e, Nat.zero_mul, Nat.zero_add, List.set_append_left _ _ (by rw [KE.c_length]; exact hlt)]
      have : k.c.set j x = k'.c := hj
      rw [this]; rfl
    | succ i =>
      rw [e, List.set_append_right _ _ (by rw [KE.c_length]; omega), show (i + 1) * 6 + j - k.c.length = i * 6 + j by rw [KE.c_length]; omega, ih (by simpa using h) hj]
      rfl
def idxFrom {α : Type} (p : α → Bool) : List α → Nat → Int
  | [], _ => -1
  | x :: r, i => if p x then (i : Int) else idxFrom p r (i + 1)
def idxF {α : Type} (p : α → Bool) (l : List α) : Int := idxFrom p l 0
theorem idxFrom_drop {α : Type} (p : α → Bool) (z : α) (l : List α) : ∀ i, (∀ j, j < i → p (l.getD j z) = false) → i ≤ l.length → idxFrom p l 0 = idxFrom p (l.drop i) i
  | 0, _, _ => rfl
  | i + 1, h, hi => by
    rw [idxFrom_drop p z l i (fun j hj => h j zz16) zz16]
    have e : l.drop i = l.getD i z :: l.drop (i + 1) := by
      rw [List.drop_eq_getElem_cons zz16]; congr 1; rw [List.getD_eq_getElem?_getD, List.getElem?_eq_getElem zz16]; rfl
    rw [e, idxFrom, h i zz16]; rfl
theorem idxF_found {α : Type} {p : α → Bool} (z : α) {l : List α} {i : Nat} (h : ∀ j, j < i → p (l.getD j z) = false) (hi : i < l.length) (hp : p (l.getD i z) = true) : idxF p l = (i : Int) := by
  rw [idxF, idxFrom_drop p z l i h zz16]
  have e : l.drop i = l.getD i z :: l.drop (i + 1) := by
    rw [List.drop_eq_getElem_cons zz16]; congr 1; rw [List.getD_eq_getElem?_getD, List.getElem?_eq_getElem zz16]; rfl
  rw [e, idxFrom, hp]; rfl
theorem idxF_none {α : Type} {p : α → Bool} (z : α) {l : List α} (h : ∀ j, j < l.length → p (l.getD j z) = false) : idxF p l = -1 := by
  rw [idxF, idxFrom_drop p z l l.length h (Nat.le_refl _), List.drop_length]; rfl
theorem idxFrom_spec {α : Type} (p : α → Bool) (z : α) : ∀ (l : List α) (i : Nat), (idxFrom p l i = -1 ∧ ∀ x ∈ l, p x = false) ∨ ∃ j, j < l.length ∧ idxFrom p l i = ((i + j : Nat) : Int) ∧ p (l.getD j z) = true ∧ ∀ k, k < j → p (l.getD k z) = false
  | [], i => .inl ⟨rfl, zz50⟩
  | x :: r, i => by
    rw [idxFrom]
    by_cases hx : p x = true
    · rw [if_pos hx]; exact .inr ⟨0, zz50, rfl, hx, zz50⟩
    · rw [if_neg hx]
      rcases idxFrom_spec p z r (i + 1) with ⟨h1, h2⟩ | ⟨j, h1, h2, h3, h4⟩
      · refine .inl ⟨h1, fun y hy => ?_⟩
        rcases List.mem_cons.1 hy with rfl | hy
        · simpa using hx
        · exact h2 y hy
      · refine .inr ⟨j + 1, by simpa using h1, by rw [h2]; congr 1; omega, h3, fun k hk => ?_⟩
        cases k with
        | zero => simpa using hx
        | succ k => exact h4 k zz16
theorem idxF_spec {α : Type} (p : α → Bool) (z : α) (l : List α) : (idxF p l = -1 ∧ ∀ x ∈ l, p x = false) ∨ ∃ j, j < l.length ∧ idxF p l = (j : Int) ∧ p (l.getD j z) = true ∧ ∀ k, k < j → p (l.getD k z) = false := by
  rcases idxFrom_spec p z l 0 with h | ⟨j, h1, h2, h3⟩
  · exact .inl h
  · exact .inr ⟨j, h1, by rw [idxF, h2, Nat.zero_add], h3⟩
abbrev isId (id : UInt32) (k : KE) : Bool := decide (k.id = id)
abbrev placeF (ks : List KE) (id : UInt32) : Int := idxF (isId id) ks
def b8 (r : Rec) : List UInt8 := [r.k, r.h, of8 (sr16 r.v 8).toNat, of8 r.v.toNat, of8 (sr32 r.id 24).toNat, of8 (sr32 r.id 16).toNat, of8 (sr32 r.id 8).toNat, of8 r.id.toNat]
def sumB (l : List UInt8) : Nat → Nat
  | 0 => 0
  | i + 1 => sumB l i + (i + 1) * (l.getD i 0).toNat
theorem sumB_le (l : List UInt8) : ∀ i, i ≤ 8 → sumB l i ≤ 2040 * i
  | 0, _ => Nat.le_refl _
  | i + 1, h => by
    have h1 := sumB_le l i zz16
    have h2 := (l.getD i 0).toNat_lt
    have h3 : (i + 1) * (l.getD i 0).toNat ≤ 8 * 255 := Nat.mul_le_mul zz16 zz16
    rw [sumB]; omega
def recB (r : Rec) : List UInt8 := b8 r ++ [of8 ((sumB (b8 r) 8 / 2 ^ 8 : Nat) : Int), of8 ((sumB (b8 r) 8 : Nat) : Int)]
theorem recB_length (r : Rec) : (recB r).length = 10 := rfl
def recAt (bs : List UInt8) : Rec := ⟨bs.getD 0 0, bs.getD 1 0, sl16 (of16 (bs.getD 2 0).toNat) 8 ||| of16 (bs.getD 3 0).toNat,
  ((sl32 (of32 (bs.getD 4 0).toNat) 24 ||| sl32 (of32 (bs.getD 5 0).toNat) 16) ||| sl32 (of32 (bs.getD 6 0).toNat) 8) ||| of32 (bs.getD 7 0).toNat⟩
def okRec (bs : List UInt8) : Bool := decide (recB (recAt bs) = bs.take 10)
def recsN : Nat → List UInt8 → List Rec
  | 0, _ => []
  | f + 1, bs => if 10 ≤ bs.length ∧ okRec bs = true then recAt bs :: recsN f (bs.drop 10) else []
def recs (bs : List UInt8) : List Rec := recsN bs.length bs
theorem recsN_fuel : ∀ (f g : Nat) (bs : List UInt8), bs.length ≤ f → bs.length ≤ g → recsN f bs = recsN g bs
  | 0, 0, _, _, _ => rfl
  | 0, g + 1, bs, h, _ => by rw [recsN, recsN, if_neg zz16]
  | f + 1, 0, bs, _, h => by rw [recsN, recsN, if_neg zz16]
  | f + 1, g + 1, bs, h, h2 => by
    rw [recsN, recsN]
    by_cases hc : 10 ≤ bs.length ∧ okRec bs = true
    · rw [if_pos hc, if_pos hc, recsN_fuel f g _ zz45 zz45]
    · rw [if_neg hc, if_neg hc]
theorem recs_cons {bs : List UInt8} (h : 10 ≤ bs.length) (h2 : okRec bs = true) : recs bs = recAt bs :: recs (bs.drop 10) := by
  obtain ⟨n, hn⟩ : ∃ n, bs.length = n + 1 := ⟨bs.length - 1, zz16⟩
  rw [recs, hn, recsN, if_pos ⟨h, h2⟩, recs, recsN_fuel n (bs.drop 10).length _ zz45 (Nat.le_refl _)]
theorem recs_short {bs : List UInt8} (h : bs.length < 10) : recs bs = [] := by
  rw [recs]
  cases hn : bs.length with
  | zero => rfl
  | succ n => rw [recsN, if_neg zz16]
theorem recs_bad {bs : List UInt8} (h : okRec bs = false) : recs bs = [] := by
  rw [recs]
  cases hn : bs.length with
  | zero => rfl
  | succ n => rw [recsN, if_neg (fun hc => by rw [h] at hc; cases hc.2)]
def readF (ks : List KE) (r : Rec) : Option (List KE) :=
  if r.k = 1 then
    if 0 ≤ placeF ks r.id ∨ 8 ≤ ks.length ∨ 4 < r.h.toNat ∨ r.v ≠ 0 then none else some (ks ++ [⟨r.id, (r.h.toNat : Nat), 0, 0, 0, false⟩])
  else
    let i := (placeF ks r.id).toNat
    let k := ks.getD i KE.z
    if placeF ks r.id < 0 ∨ k.dr = true ∨ k.ht ≠ ((r.h.toNat : Nat) : Int) then none
    else if r.k = 2 then
      if ((r.v.toNat : Nat) : Int) ≤ k.ak ∨ 2 ^ r.h.toNat < r.v.toNat then none else some (ks.set i { k with nx := (r.v.toNat : Nat), du := (r.v.toNat : Nat), ak := (r.v.toNat : Nat) })
    else if r.k = 3 then
      if ((r.v.toNat : Nat) : Int) ≠ k.ak then none else some (ks.set i { k with dr := true })
    else none
def readK (ks : List KE) (r : Rec) : List KE := (readF ks r).getD ks
def scanF : List KE → List Rec → List KE × Nat
  | ks, [] => (ks, 0)
  | ks, r :: rs => match readF ks r with
    | none => (ks, 0)
    | some k' => ((scanF k' rs).1, (scanF k' rs).2 + 10)
def scanR (bs : List UInt8) : List KE × Nat := scanF [] (recs bs)
def KOk (ks : List KE) : Prop := ks.length ≤ 8 ∧ ∀ k ∈ ks, 0 ≤ k.ht ∧ k.ht ≤ 4 ∧ 0 ≤ k.ak ∧ k.ak ≤ 16
theorem KOk.get {ks : List KE} (h : KOk ks) {i : Nat} (hi : i < ks.length) : 0 ≤ (ks.getD i KE.z).ht ∧ (ks.getD i KE.z).ht ≤ 4 ∧ 0 ≤ (ks.getD i KE.z).ak ∧ (ks.getD i KE.z).ak ≤ 16 := by
  refine h.2 _ ?_
  rw [List.getD_eq_getElem?_getD, List.getElem?_eq_getElem hi]; exact List.getElem_mem hi
theorem KOk.nil : KOk [] := ⟨Nat.zero_le _, zz50⟩
theorem pow_le {n : Nat} (h : n ≤ 4) : 2 ^ n ≤ 16 := Nat.le_trans (Nat.pow_le_pow_right zz16 h) zz27
theorem KOk.read {ks k' : List KE} {r : Rec} (h : KOk ks) (hr : readF ks r = some k') : KOk k' := by
  unfold readF at hr
  by_cases h1 : r.k = 1
  · rw [if_pos h1] at hr
    split at hr
    · cases hr
    · rename_i hc
      cases hr
      refine ⟨by rw [List.length_append, List.length_singleton]; omega, fun k hk => ?_⟩
      rcases List.mem_append.1 hk with hk | hk
      · exact h.2 k hk
      · rw [List.mem_singleton] at hk; subst hk; dsimp only; omega
  · rw [if_neg h1] at hr
    dsimp only at hr
    split at hr
    · cases hr
    · rename_i hc
      have hsp := idxF_spec (isId r.id) KE.z ks
      rcases hsp with ⟨e, _⟩ | ⟨j, hj, e, _⟩
      · exact absurd (show placeF ks r.id < 0 by rw [placeF, e]; decide) (fun h => hc (.inl h))
      · have he : (placeF ks r.id).toNat = j := by rw [placeF, e]; rfl
        rw [he] at hr hc
        obtain ⟨g1, g2, g3, g4⟩ := h.get hj
        split at hr
        · split at hr
          · cases hr
          · rename_i hd
            cases hr
            refine ⟨by rw [List.length_set]; exact h.1, fun k hk => ?_⟩
            rcases List.mem_or_eq_of_mem_set hk with hk | rfl
            · exact h.2 k hk
            · have hp : 2 ^ r.h.toNat ≤ 16 := pow_le zz16
              dsimp only; omega
        · split at hr
          · split at hr
            · cases hr
            · cases hr
              refine ⟨by rw [List.length_set]; exact h.1, fun k hk => ?_⟩
              rcases List.mem_or_eq_of_mem_set hk with hk | rfl
              · exact h.2 k hk
              · exact ⟨g1, g2, g3, g4⟩
          · cases hr
theorem KOk.scanF : ∀ {ks : List KE} (h : KOk ks) (rs : List Rec), KOk (scanF ks rs).1
  | _, h, [] => h
  | ks, h, r :: rs => by
    rw [Go.Proofs.YtoaeklbenmlooaaDoor.scanF]
    cases hr : readF ks r with
    | none => exact h
    | some k' => exact (h.read hr).scanF rs
theorem scanR_ok (bs : List UInt8) : KOk (scanR bs).1 := KOk.nil.scanF _
theorem recs_le : ∀ (f : Nat) (bs : List UInt8), 10 * (recsN f bs).length ≤ bs.length
  | 0, _ => Nat.zero_le _
  | f + 1, bs => by
    rw [recsN]
    split
    · have := recs_le f (bs.drop 10); rw [List.length_drop] at this; simp only [List.length_cons]; omega
    · exact Nat.zero_le _
end Go.Proofs.YtoaeklbenmlooaaDoor
namespace Go.Proofs.YtoaeklbenmlooaaDoor
open Go Go.PL Go.RowKit
theorem same_stepK {α : Type} [Inhabited α] (xs ys : List α) (z : α) (i : Nat) (h : xs.take i = ys.take i) (h1 : i < xs.length) (h2 : i < ys.length) (he : xs.getD i z = ys.getD i z) : xs.take (i + 1) = ys.take (i + 1) := by
  rw [List.take_add_one, List.take_add_one, h]
  congr 1
  rw [List.getD_eq_getElem?_getD, List.getD_eq_getElem?_getD, List.getElem?_eq_getElem h1, List.getElem?_eq_getElem h2] at he
  rw [List.getElem?_eq_getElem h1, List.getElem?_eq_getElem h2]
  simpa using he
theorem recBytes (r : Rec) (w : World)   :
    Calls Tryd.prog 35 [.agg r.c.toArray].toArray w (GivesP w (fun v => SV v 10) (fun v => v) (fun v => [.row v 10 5 1 (v8s (recB r))]) (fun _ => [])) := by
  refine enter (m := 57) (R := Mem w [] [] []) Tryd.func35 rfl rfl (Nat.le_of_ble_eq_true rfl) (Mem.start w) ?_
  refine wpc_seq <| wpc_region ?_
  refine wpl_t (t_box rfl r.c rfl) rfl (fun b1 => ?_)
  refine wpl_q (q_pure rfl) rfl <| wpl_nil <| ex_then <| wpc_seq <| wpc_region <| wpl_q (q_field Tryd.underlying61 rfl Tryd.ti5 rfl rfl _ rfl) rfl ?_
  refine wpl_q (q_ld Tryd.underlying5 rfl rfl zz34) rfl ?_
  refine wpl_q (q_field Tryd.underlying61 rfl Tryd.ti5 rfl rfl _ rfl) rfl ?_
  refine wpl_q (q_ld Tryd.underlying5 rfl rfl zz34) rfl ?_
  refine wpl_q (q_field Tryd.underlying61 rfl Tryd.ti59 rfl rfl _ rfl) rfl ?_
  refine wpl_q (q_ld Tryd.underlying59 rfl rfl (by first | exact v16s_get zz5 | rfl)) rfl ?_
  refine wpl_q (q16_shr rfl rfl zz32 8 rfl) rfl ?_
  refine wpl_q (q8_conv Tryd.underlying59 Tryd.underlying5 rfl) rfl <| wpl_q (q_field Tryd.underlying61 rfl Tryd.ti59 rfl rfl _ rfl) rfl ?_
  refine wpl_q (q_ld Tryd.underlying59 rfl rfl (by first | exact v16s_get zz5 | rfl)) rfl ?_
  refine wpl_q (q8_conv Tryd.underlying59 Tryd.underlying5 rfl) rfl <| wpl_q (q_field Tryd.underlying61 rfl Tryd.ti25 rfl rfl _ rfl) rfl ?_
  refine wpl_q (q_ld Tryd.underlying25 rfl rfl zz42) rfl ?_
  refine wpl_q (q32_shr rfl rfl zz32 24 rfl) rfl ?_
  refine wpl_q (q8_conv Tryd.underlying25 Tryd.underlying5 rfl) rfl <| wpl_q (q_field Tryd.underlying61 rfl Tryd.ti25 rfl rfl _ rfl) rfl ?_
  refine wpl_q (q_ld Tryd.underlying25 rfl rfl zz42) rfl ?_
  refine wpl_q (q32_shr rfl rfl zz32 16 rfl) rfl ?_
  refine wpl_q (q8_conv Tryd.underlying25 Tryd.underlying5 rfl) rfl <| wpl_q (q_field Tryd.underlying61 rfl Tryd.ti25 rfl rfl _ rfl) rfl ?_
  refine wpl_q (q_ld Tryd.underlying25 rfl rfl zz42) rfl ?_
  refine wpl_q (q32_shr rfl rfl zz32 8 rfl) rfl ?_
  refine wpl_q (q8_conv Tryd.underlying25 Tryd.underlying5 rfl) rfl <| wpl_q (q_field Tryd.underlying61 rfl Tryd.ti25 rfl rfl _ rfl) rfl ?_
  refine wpl_q (q_ld Tryd.underlying25 rfl rfl zz42) rfl ?_
  refine wpl_q (q8_conv Tryd.underlying25 Tryd.underlying5 rfl) rfl ?_
  refine wpl_tp (t_bsV (v8s (b8 r)) Tryd.underlying22 Tryd.ti5 rfl rfl zz27 zz27 rfl (v8s_one _)) rfl (fun b33 p33 => ?_)
  refine wpl_q (q_pure rfl) rfl <| wpl_nil <| ex_then <| wpc_seq <| wpc_region <| wpl_q (q_pure rfl) rfl <| wpl_nil <| ex_then <| wpc_seq <| wpc_seq <| wpc_region <| wpl_q (q_pure rfl) rfl ?_
  refine wpl_q (q_lenW Tryd.underlying22 rfl zz3) rfl ?_
  refine wpl_q (q_pure rfl) rfl <| wpl_nil <| ex_then <| wpc_block ?_
  refine wpc_loopc (ι := { x : Nat // (x ≤ 8) }) [(3, _), (34, _), (35, _)] (fun x Lc => (36, .int .i64 ((x.1 : Nat) : Int)) :: (4, .int .i64 ((sumB (b8 r) x.1 : Nat) : Int)) :: Lc) (fun x => Mem w [] [.row b33 8 5 1 (v8s (b8 r)), .blk b1 61 r.c] []) (fun x => 8 - x.1) ⟨0, zz30⟩ zz14 ?_ ?_
  ·
   exact fun w h => h
  ·
   rintro ⟨i, hi0⟩; try dsimp only
   have hi0 : i ≤ 8 := hi0
   have hsl := sumB_le (b8 r) i hi0
   have h8 : (b8 r).length = 8 := rfl
   refine wpc_seq <| wpc_region <| wpl_q (q_pure rfl) rfl <| wpl_nil <| ex_then <| wpc_seq ?_
   refine wpc_cond rfl (fun hc37 => ?_) (fun hc37 => ?_)
   ·
    simp only [decide_eq_true_eq] at hc37
    have hx := ((b8 r).getD i 0).toNat_lt
    have hm : (i + 1) * ((b8 r).getD i 0).toNat ≤ 8 * 255 := Nat.mul_le_mul zz16 zz16
    refine wpc_skip <| ex_then <| wpc_seq <| wpc_block <| wpc_seq <| wpc_region <| wpl_q (q_pure rfl) rfl ?_
    refine wpl_q (q_idxW1 Tryd.underlying22 Tryd.ti5 rfl rfl zz3 zz1) rfl ?_
    refine wpl_q (q_ldW Tryd.underlying5 rfl rfl (fun w h => zz9) zz34) rfl ?_
    refine wpl_q (q_pure rfl) rfl <| wpl_q (q_pure rfl) rfl <| wpl_nil <| ex_then <| wpc_region <| wpl_q (q_pure rfl) rfl <| wpl_q (q_pure rfl) rfl ?_
    refine wpl_q (q_addN (b := 1) rfl rfl zz1) rfl ?_
    refine wpl_q (q_pure rfl) rfl <| wpl_q (q8_int Tryd.underlying5 Tryd.underlying3 rfl) rfl ?_
    refine wpl_q (q_mulN rfl rfl zz1) rfl ?_
    refine wpl_q (q_addN rfl rfl zz1) rfl ?_
    refine wpl_q (q_pure rfl) rfl <| wpl_nil <| ex_block <| ex_then <| wpc_region ?_
    refine wpl_q (q_addN (b := 1) rfl rfl zz1) rfl ?_
    refine wpl_q (q_pure rfl) rfl <| wpl_nil ?_
    refine ex_again ⟨i + 1, zz30⟩ ?_ ?_ ?_
    ·
     exact zz14
    ·
     exact fun w h => by first | exact h | exact h.sub SubC.h SubC.h | exact h.sub zz8 zz8
    ·
     (show 8 - (i + 1) < 8 - i); omega
   ·
    simp only [decide_eq_false_iff_not] at hc37
    obtain rfl : i = 8 := by omega
    refine wpc_exit ?_
    refine ex_then_exit ?_
    refine ex_then_exit ?_
    refine ex_block_hit ?_
    refine ex_then <| wpc_seq <| wpc_region <| wpl_q (q_pure rfl) rfl <| wpl_q (q_pure rfl) rfl ?_
    refine wpl_q (q_shrN (b := 8) rfl rfl zz32) rfl ?_
    refine wpl_q (q8_conv Tryd.underlying3 Tryd.underlying5 rfl) rfl <| wpl_q (q_pure rfl) rfl <| wpl_q (q8_conv Tryd.underlying3 Tryd.underlying5 rfl) rfl ?_
    refine wpl_tp (t_bsV (v8s [of8 ((sumB (b8 r) 8 / 2 ^ 8 : Nat) : Int), of8 ((sumB (b8 r) 8 : Nat) : Int)]) Tryd.underlying22 Tryd.ti5 rfl rfl zz27 zz27 rfl (v8s_one _)) rfl (fun b55 p55 => ?_)
    refine wpl_tp (t_apW Tryd.underlying22 Tryd.ti5 rfl zz27 rfl rfl (fun w h => zz9) (v8s_one _) zz1 zz1 (v8s (recB r)) zz19) rfl (fun b56 p56 => ?_)
    refine wpl_q (q_pure rfl) rfl <| wpl_nil <| ex_then <| wpc_ret ?_
    refine ret1 (.inl rfl) rfl rfl ?_
    exact fun w h => ⟨b56, p56, rfl, h.below, h.made SubC.h .nil⟩
theorem equalB (av : Value) (xs : List UInt8) (bv : Value) (ys : List UInt8) (w : World) (hav : Seen w.cell? av xs.length 1 (v8s xs)) (hbv : Seen w.cell? bv ys.length 1 (v8s ys))  :
    Calls Tryd.prog 34 [av, bv].toArray w (Pur w (.bool (decide (xs = ys)))) := by
  have sav := hav.sv
  have lav := sav.le
  simp only [maxLen] at lav
  have sbv := hbv.sv
  have lbv := sbv.le
  simp only [maxLen] at lbv
  refine enter (m := 26) (R := Mem w [] [] []) Tryd.func34 rfl rfl (Nat.le_of_ble_eq_true rfl) (Mem.start w) ?_
  refine wpc_seq <| wpc_region <| wpl_q (q_pure rfl) rfl <| wpl_nil <| ex_then <| wpc_seq <| wpc_seq <| wpc_region <| wpl_q (q_pure rfl) rfl ?_
  refine wpl_q (q_lenW Tryd.underlying22 rfl zz3) rfl ?_
  refine wpl_q (q_pure rfl) rfl ?_
  refine wpl_q (q_lenW Tryd.underlying22 rfl zz3) rfl ?_
  refine wpl_q (q_pure rfl) rfl <| wpl_nil <| ex_then ?_
  refine wpc_cond rfl (fun hc10 => ?_) (fun hc10 => ?_)
  ·
   simp only [decide_eq_true_eq, bne_iff_ne, ne_eq] at hc10
   have hne : xs ≠ ys := fun e => hc10 (by rw [e])
   refine wpc_seq <| wpc_region <| wpl_q (q_pure rfl) rfl <| wpl_nil <| ex_then <| wpc_ret ?_
   refine ex_then_ret ?_
   refine ret1 (.inl rfl) rfl rfl ?_
   exact fun w h => ⟨by simp [hne], h.below⟩
  ·
   simp only [bne_eq_false_iff_eq] at hc10
   have hl : xs.length = ys.length := by omega
   refine wpc_skip <| ex_then <| wpc_seq <| wpc_seq <| wpc_region <| wpl_q (q_pure rfl) rfl ?_
   refine wpl_q (q_lenW Tryd.underlying22 rfl zz3) rfl ?_
   refine wpl_q (q_pure rfl) rfl <| wpl_nil <| ex_then <| wpc_block ?_
   refine wpc_loopc (ι := { x : Nat // (x ≤ xs.length) ∧ (xs.take x = ys.take x) }) [(0, _), (1, _), (12, _)] (fun x Lc => (13, .int .i64 ((x.1 : Nat) : Int)) :: Lc) (fun x => Mem w [] [] []) (fun x => xs.length - x.1) ⟨0, ⟨Nat.zero_le _, rfl⟩⟩ zz14 ?_ ?_
   ·
    exact fun w h => h
   ·
    rintro ⟨i, ⟨hi0, hi1⟩⟩; try dsimp only
    have hi0 : i ≤ xs.length := hi0; have hi1 : xs.take i = ys.take i := hi1
    refine wpc_seq <| wpc_region <| wpl_q (q_pure rfl) rfl <| wpl_nil <| ex_then <| wpc_seq ?_
    refine wpc_cond rfl (fun hc14 => ?_) (fun hc14 => ?_)
    ·
     try simp only [decide_eq_true_eq, decide_eq_false_iff_not, Bool.and_eq_true, Bool.or_eq_true, beq_iff_eq, bne_iff_ne, ne_eq, Bool.not_eq_true', Bool.not_eq_false', Decidable.not_not] at hc14
     refine wpc_skip <| ex_then <| wpc_seq <| wpc_block <| wpc_seq <| wpc_region <| wpl_q (q_pure rfl) rfl <| wpl_q (q_pure rfl) rfl <| wpl_nil <| ex_then <| wpc_seq ?_
     refine wpc_draw 9 zz6 (fun _ h => h.drew) ?_
     refine wpd_p 0 rfl zz6 trivial (q_pure rfl) rfl sk0 ?_
     refine wpd_p 1 rfl zz6 trivial (q_pure rfl) rfl sk0 ?_
     refine wpd_p 2 rfl zz6 trivial (q_idxW1 Tryd.underlying22 Tryd.ti5 rfl rfl zz3 zz1) rfl sk0 ?_
     refine wpd_q 3 rfl zz6 trivial (q_ldW Tryd.underlying5 rfl rfl (fun w h => zz9) zz34) rfl (fun _ h => h) ?_
     refine wpd_p 4 rfl zz6 trivial (q_pure rfl) rfl sk0 ?_
     refine wpd_p 5 rfl zz6 trivial (q_pure rfl) rfl sk0 ?_
     refine wpd_p 6 rfl zz6 trivial (q_idxW1 Tryd.underlying22 Tryd.ti5 rfl rfl zz3 zz1) rfl sk0 ?_
     refine wpd_q 7 rfl zz6 trivial (q_ldW Tryd.underlying5 rfl rfl (fun w h => zz9) zz34) rfl (fun _ h => h) ?_
     refine wpd_p 8 rfl zz6 trivial (q8_neq rfl rfl) rfl sk0 ?_
     refine wpd_done zz6 ?_
     refine ex_then ?_
     refine wpc_cond rfl (fun hc24 => ?_) (fun hc24 => ?_)
     ·
      simp only [Bool.not_eq_true', decide_eq_false_iff_not] at hc24
      have hne : xs ≠ ys := fun e => hc24 (by rw [e])
      refine wpc_seq <| wpc_region <| wpl_q (q_pure rfl) rfl <| wpl_nil <| ex_then <| wpc_ret ?_
      refine ex_block_ret ?_
      refine ex_then_ret ?_
      refine ex_then_ret ?_
      refine ex_block_ret ?_
      refine ex_then_ret ?_
      refine ret1 (.inl rfl) rfl rfl ?_
      exact fun w h => ⟨by simp [hne], h.below⟩
     ·
      simp only [Bool.not_eq_false', decide_eq_true_eq] at hc24
      refine wpc_skip <| ex_block <| ex_then <| wpc_region ?_
      refine wpl_q (q_addN (b := 1) rfl rfl zz1) rfl ?_
      refine wpl_q (q_pure rfl) rfl <| wpl_nil ?_
      refine ex_again ⟨i + 1, ⟨zz16, same_stepK xs ys 0 i hi1 zz16 zz16 hc24⟩⟩ ?_ ?_ ?_
      ·
       exact zz14
      ·
       exact fun w h => by first | exact h | exact h.sub SubC.h SubC.h | exact h.sub zz8 zz8
      ·
       (show xs.length - (i + 1) < xs.length - i); omega
    ·
     simp only [decide_eq_false_iff_not] at hc14
     obtain rfl : i = xs.length := by omega
     have heq : xs = ys := by rw [List.take_length, hl, List.take_length] at hi1; exact hi1
     refine wpc_exit ?_
     refine ex_then_exit ?_
     refine ex_then_exit ?_
     refine ex_block_hit ?_
     refine ex_then <| wpc_seq <| wpc_region <| wpl_q (q_pure rfl) rfl <| wpl_nil <| ex_then <| wpc_ret ?_
     refine ret1 (.inl rfl) rfl rfl ?_
     exact fun w h => ⟨by simp [heq], h.below⟩
theorem refSameB (av : Value) (xs : List UInt8) (bv : Value) (ys : List UInt8) (w : World) (hav : Seen w.cell? av xs.length 1 (v8s xs)) (hbv : Seen w.cell? bv ys.length 1 (v8s ys))  :
    Calls Tryd.prog 20 [av, bv].toArray w (Pur w (.bool (decide (xs = ys)))) := by
  have sav := hav.sv
  have lav := sav.le
  simp only [maxLen] at lav
  have sbv := hbv.sv
  have lbv := sbv.le
  simp only [maxLen] at lbv
  refine enter (m := 26) (R := Mem w [] [] []) Tryd.func20 rfl rfl (Nat.le_of_ble_eq_true rfl) (Mem.start w) ?_
  refine wpc_seq <| wpc_region <| wpl_q (q_pure rfl) rfl <| wpl_nil <| ex_then <| wpc_seq <| wpc_seq <| wpc_region <| wpl_q (q_pure rfl) rfl ?_
  refine wpl_q (q_lenW Tryd.underlying22 rfl zz3) rfl ?_
  refine wpl_q (q_pure rfl) rfl ?_
  refine wpl_q (q_lenW Tryd.underlying22 rfl zz3) rfl ?_
  refine wpl_q (q_pure rfl) rfl <| wpl_nil <| ex_then ?_
  refine wpc_cond rfl (fun hc10 => ?_) (fun hc10 => ?_)
  ·
   simp only [decide_eq_true_eq, bne_iff_ne, ne_eq] at hc10
   have hne : xs ≠ ys := fun e => hc10 (by rw [e])
   refine wpc_seq <| wpc_region <| wpl_q (q_pure rfl) rfl <| wpl_nil <| ex_then <| wpc_ret ?_
   refine ex_then_ret ?_
   refine ret1 (.inl rfl) rfl rfl ?_
   exact fun w h => ⟨by simp [hne], h.below⟩
  ·
   simp only [bne_eq_false_iff_eq] at hc10
   have hl : xs.length = ys.length := by omega
   refine wpc_skip <| ex_then <| wpc_seq <| wpc_seq <| wpc_region <| wpl_q (q_pure rfl) rfl <| wpl_nil <| ex_then <| wpc_block ?_
   refine wpc_loopc (ι := { x : Nat // (x ≤ xs.length) ∧ (xs.take x = ys.take x) }) [(0, _), (1, _)] (fun x Lc => (5, .int .i64 ((x.1 : Nat) : Int)) :: Lc) (fun x => Mem w [] [] []) (fun x => xs.length - x.1) ⟨0, ⟨Nat.zero_le _, rfl⟩⟩ zz14 ?_ ?_
   ·
    exact fun w h => h
   ·
    rintro ⟨i, ⟨hi0, hi1⟩⟩; try dsimp only
    have hi0 : i ≤ xs.length := hi0; have hi1 : xs.take i = ys.take i := hi1
    refine wpc_seq <| wpc_seq <| wpc_region <| wpl_q (q_pure rfl) rfl <| wpl_q (q_pure rfl) rfl ?_
    refine wpl_q (q_lenW Tryd.underlying22 rfl zz3) rfl ?_
    refine wpl_q (q_pure rfl) rfl <| wpl_nil <| ex_then ?_
    refine wpc_cond rfl (fun hc14 => ?_) (fun hc14 => ?_)
    ·
     try simp only [decide_eq_true_eq, decide_eq_false_iff_not, Bool.and_eq_true, Bool.or_eq_true, beq_iff_eq, bne_iff_ne, ne_eq, Bool.not_eq_true', Bool.not_eq_false', Decidable.not_not] at hc14
     refine wpc_skip <| ex_then <| wpc_seq <| wpc_block <| wpc_seq ?_
     refine wpc_draw 9 zz6 (fun _ h => h.drew) ?_
     refine wpd_p 0 rfl zz6 trivial (q_pure rfl) rfl sk0 ?_
     refine wpd_p 1 rfl zz6 trivial (q_pure rfl) rfl sk0 ?_
     refine wpd_p 2 rfl zz6 trivial (q_idxW1 Tryd.underlying22 Tryd.ti5 rfl rfl zz3 zz1) rfl sk0 ?_
     refine wpd_q 3 rfl zz6 trivial (q_ldW Tryd.underlying5 rfl rfl (fun w h => zz9) zz34) rfl (fun _ h => h) ?_
     refine wpd_p 4 rfl zz6 trivial (q_pure rfl) rfl sk0 ?_
     refine wpd_p 5 rfl zz6 trivial (q_pure rfl) rfl sk0 ?_
     refine wpd_p 6 rfl zz6 trivial (q_idxW1 Tryd.underlying22 Tryd.ti5 rfl rfl zz3 zz1) rfl sk0 ?_
     refine wpd_q 7 rfl zz6 trivial (q_ldW Tryd.underlying5 rfl rfl (fun w h => zz9) zz34) rfl (fun _ h => h) ?_
     refine wpd_p 8 rfl zz6 trivial (q8_neq rfl rfl) rfl sk0 ?_
     refine wpd_done zz6 ?_
     refine ex_then ?_
     refine wpc_cond rfl (fun hc25 => ?_) (fun hc25 => ?_)
     ·
      simp only [Bool.not_eq_true', decide_eq_false_iff_not] at hc25
      have hne : xs ≠ ys := fun e => hc25 (by rw [e])
      refine wpc_seq <| wpc_region <| wpl_q (q_pure rfl) rfl <| wpl_nil <| ex_then <| wpc_ret ?_
      refine ex_block_ret ?_
      refine ex_then_ret ?_
      refine ex_then_ret ?_
      refine ex_block_ret ?_
      refine ex_then_ret ?_
      refine ret1 (.inl rfl) rfl rfl ?_
      exact fun w h => ⟨by simp [hne], h.below⟩
     ·
      simp only [Bool.not_eq_false', decide_eq_true_eq] at hc25
      refine wpc_skip <| ex_block <| ex_then <| wpc_region <| wpl_q (q_pure rfl) rfl ?_
      refine wpl_q (q_addN (b := 1) rfl rfl zz1) rfl ?_
      refine wpl_q (q_pure rfl) rfl <| wpl_nil ?_
      refine ex_again ⟨i + 1, ⟨zz16, same_stepK xs ys 0 i hi1 zz16 zz16 hc25⟩⟩ ?_ ?_ ?_
      ·
       exact zz14
      ·
       exact fun w h => by first | exact h | exact h.sub SubC.h SubC.h | exact h.sub zz8 zz8
      ·
       (show xs.length - (i + 1) < xs.length - i); omega
    ·
     simp only [decide_eq_false_iff_not] at hc14
     obtain rfl : i = xs.length := by omega
     have heq : xs = ys := by rw [List.take_length, hl, List.take_length] at hi1; exact hi1
     refine wpc_exit ?_
     refine ex_then_exit ?_
     refine ex_then_exit ?_
     refine ex_block_hit ?_
     refine ex_then <| wpc_seq <| wpc_region <| wpl_q (q_pure rfl) rfl <| wpl_nil <| ex_then <| wpc_ret ?_
     refine ret1 (.inl rfl) rfl rfl ?_
     exact fun w h => ⟨by simp [heq], h.below⟩
theorem indexFunc (kv : Value) (ks : List KE) (fid : FuncId) (cap : Array Value) (p : KE → Bool) (w : World) (hkv : Seen w.cell? kv ks.length 6 (kcs ks)) (hfb : HasBody Tryd.prog fid) (hf : ∀ w', (∀ a v, w.cell? a = some v → w'.cell? a = some v) → ∀ k : KE, Calls Tryd.prog fid (#[.agg k.c.toArray] ++ cap) w' (Pur w' (.bool (p k))))  :
    Calls Tryd.prog 61 [kv, .func (.func fid) #[] cap].toArray w (Pur w (.int .i64 (idxF p ks))) := by
  have skv := hkv.sv
  have lkv := skv.le
  simp only [maxLen] at lkv
  refine enter (m := 19) (R := Mem w [] [] []) Tryd.func61 rfl rfl (Nat.le_of_ble_eq_true rfl) (Mem.start w) ?_
  refine wpc_seq <| wpc_region <| wpl_q (q_pure rfl) rfl <| wpl_nil <| ex_then <| wpc_seq <| wpc_seq <| wpc_region <| wpl_q (q_pure rfl) rfl ?_
  refine wpl_q (q_lenW Tryd.underlying26 rfl zz3) rfl ?_
  refine wpl_q (q_pure rfl) rfl <| wpl_nil <| ex_then <| wpc_block ?_
  refine wpc_loopc (ι := { x : Nat // (x ≤ ks.length) ∧ (∀ j, j < x → p (ks.getD j KE.z) = false) }) [(0, _), (1, _), (7, _)] (fun x Lc => (8, .int .i64 ((x.1 : Nat) : Int)) :: Lc) (fun x => Mem w [] [] []) (fun x => ks.length - x.1) ⟨0, ⟨Nat.zero_le _, fun j hj => absurd hj (Nat.not_lt_zero _)⟩⟩ zz14 ?_ ?_
  ·
   exact fun w h => h
  ·
   rintro ⟨i, ⟨hi0, hi1⟩⟩; try dsimp only
   have hi0 : i ≤ ks.length := hi0; have hi1 : ∀ j, j < i → p (ks.getD j KE.z) = false := hi1
   refine wpc_seq <| wpc_region <| wpl_q (q_pure rfl) rfl <| wpl_nil <| ex_then <| wpc_seq ?_
   refine wpc_cond rfl (fun hc9 => ?_) (fun hc9 => ?_)
   ·
    simp only [decide_eq_true_eq] at hc9
    have hlt : i < ks.length := by omega
    refine wpc_skip <| ex_then <| wpc_seq <| wpc_block <| wpc_seq <| wpc_region <| wpl_q (q_pure rfl) rfl <| wpl_q (q_pure rfl) rfl <| wpl_nil <| ex_then <| wpc_seq <| wpc_region ?_
    refine wpl_q (q_pure rfl) rfl <| wpl_q (q_pure rfl) rfl <| wpl_q (q_pure rfl) rfl ?_
    refine wpl_q (q_idxW Tryd.underlying26 Tryd.ti40 rfl rfl zz3 zz1) rfl ?_
    refine wpl_q (q_ldWN Tryd.underlying40 rfl Tryd.ti40 rfl (fun w h => h.seen_old hkv) (ks.getD i KE.z).c (kcs_part hlt) rfl) rfl ?_
    refine wpl_t (t_purV (v := .bool (p (ks.getD i KE.z))) rfl hfb rfl fun w2 h => hf w2 (fun a v hv => h.cell_old hv) _) rfl (fun b16 => ?_)
    refine wpl_nil <| ex_then ?_
    refine wpc_cond rfl (fun hc16 => ?_) (fun hc16 => ?_)
    ·
     refine wpc_seq <| wpc_region <| wpl_q (q_pure rfl) rfl <| wpl_q (q_pure rfl) rfl <| wpl_nil <| ex_then <| wpc_ret ?_
     refine ex_block_ret ?_
     refine ex_then_ret ?_
     refine ex_then_ret ?_
     refine ex_block_ret ?_
     refine ex_then_ret ?_
     refine ret1 (.inl rfl) rfl rfl ?_
     exact fun w h => ⟨by rw [idxF_found KE.z hi1 hlt hc16], h.below⟩
    ·
     refine wpc_skip <| ex_block <| ex_then <| wpc_region ?_
     refine wpl_q (q_addN (b := 1) rfl rfl zz1) rfl ?_
     refine wpl_q (q_pure rfl) rfl <| wpl_nil ?_
     refine ex_again ⟨i + 1, ⟨zz16, fun j hj => by rcases Nat.lt_succ_iff_lt_or_eq.1 hj with h | rfl; exact hi1 j h; exact hc16⟩⟩ ?_ ?_ ?_
     ·
      exact zz14
     ·
      exact fun w h => by first | exact h | exact h.sub SubC.h SubC.h | exact h.sub zz8 zz8
     ·
      (show ks.length - (i + 1) < ks.length - i); omega
   ·
    simp only [decide_eq_false_iff_not] at hc9
    obtain rfl : i = ks.length := by omega
    refine wpc_exit ?_
    refine ex_then_exit ?_
    refine ex_then_exit ?_
    refine ex_block_hit ?_
    refine ex_then <| wpc_seq <| wpc_region <| wpl_q (q_pure rfl) rfl <| wpl_nil <| ex_then <| wpc_ret ?_
    refine ret1 (.inl rfl) rfl rfl ?_
    exact fun w h => ⟨by rw [idxF_none KE.z hi1], h.below⟩
theorem find_ (kv : Value) (ks : List KE) (fid : FuncId) (cap : Array Value) (p : KE → Bool) (w : World) (hkv : Seen w.cell? kv ks.length 6 (kcs ks)) (hfb : HasBody Tryd.prog fid) (hf : ∀ w', (∀ a v, w.cell? a = some v → w'.cell? a = some v) → ∀ k : KE, Calls Tryd.prog fid (#[.agg k.c.toArray] ++ cap) w' (Pur w' (.bool (p k))))  :
    Calls Tryd.prog 41 [kv, .func (.func fid) #[] cap].toArray w (Pur w (.int .i64 (idxF p ks))) := by
  have skv := hkv.sv
  have lkv := skv.le
  simp only [maxLen] at lkv
  refine enter (m := 8) (R := Mem w [] [] []) Tryd.func41 rfl rfl (Nat.le_of_ble_eq_true rfl) (Mem.start w) ?_
  refine wpc_seq <| wpc_region <| wpl_q (q_pure rfl) rfl <| wpl_nil <| ex_then <| wpc_seq <| wpc_region <| wpl_q (q_pure rfl) rfl <| wpl_q (q_pure rfl) rfl ?_
  refine wpl_t (t_pur Tryd.hb61 rfl fun w2 h => indexFunc kv ks fid cap p w2 (h.seen_old hkv) hfb fun w3 h3 => hf w3 fun a v hv => h3 a v (h.cell_old hv)) rfl (fun b7 => ?_)
  refine wpl_q (q_pure rfl) rfl <| wpl_nil <| ex_then <| wpc_ret ?_
  refine ret1 (.inl rfl) rfl rfl ?_
  exact fun w h => ⟨rfl, h.below⟩
theorem place1 (k : KE) (b : Nat) (id : UInt32) (w : World) (hb : w.cell? ⟨b, 0, none⟩ = some (.int .u32 (id.toNat : Int)))  :
    Calls Tryd.prog 49 [.agg k.c.toArray, .pointer (some ⟨b, 0, none⟩)].toArray w (Pur w (.bool (isId id k))) := by
  refine enter (m := 8) (R := Mem w [] [] []) Tryd.func49 rfl rfl (Nat.le_of_ble_eq_true rfl) (Mem.start w) ?_
  refine wpc_seq <| wpc_region ?_
  refine wpl_t (t_box rfl k.c rfl) rfl (fun b2 => ?_)
  refine wpl_q (q_pure rfl) rfl <| wpl_nil <| ex_then <| wpc_seq <| wpc_region <| wpl_q (q_field Tryd.underlying40 rfl Tryd.ti25 rfl rfl _ rfl) rfl ?_
  refine wpl_q (q_ld Tryd.underlying25 rfl rfl zz42) rfl ?_
  refine wpl_q (q_load1 Tryd.underlying25 rfl rfl (fun w h => h.cell_old hb)) rfl ?_
  refine wpl_q (q32_eql rfl rfl) rfl <| wpl_q (q_pure rfl) rfl <| wpl_nil <| ex_then <| wpc_ret ?_
  refine ret1 (.inl rfl) rfl rfl ?_
  exact fun w h => ⟨rfl, h.below⟩
abbrev isTh (id : UInt32) (k : KE) : Bool := decide (k.id = id) && !k.dr
theorem there1 (k : KE) (b : Nat) (id : UInt32) (w : World) (hb : w.cell? ⟨b, 0, none⟩ = some (.int .u32 (id.toNat : Int)))  :
    Calls Tryd.prog 42 [.agg k.c.toArray, .pointer (some ⟨b, 0, none⟩)].toArray w (Pur w (.bool (isTh id k))) := by
  refine enter (m := 13) (R := Mem w [] [] []) Tryd.func42 rfl rfl (Nat.le_of_ble_eq_true rfl) (Mem.start w) ?_
  refine wpc_seq <| wpc_region ?_
  refine wpl_t (t_box rfl k.c rfl) rfl (fun b2 => ?_)
  refine wpl_q (q_pure rfl) rfl <| wpl_nil <| ex_then <| wpc_seq <| wpc_region <| wpl_q (q_field Tryd.underlying40 rfl Tryd.ti25 rfl rfl _ rfl) rfl ?_
  refine wpl_q (q_ld Tryd.underlying25 rfl rfl zz42) rfl ?_
  refine wpl_q (q_load1 Tryd.underlying25 rfl rfl (fun w h => h.cell_old hb)) rfl ?_
  refine wpl_q (q32_eql rfl rfl) rfl <| wpl_q (q_pure rfl) rfl ?_
  refine wpl_bool2 8 7 rfl rfl (fun hb8 => ?_) (fun hb8 => ?_)
  ·
   try simp only [decide_eq_true_eq] at hb8
   refine wpl_on rfl rfl <| wpl_q (q_field Tryd.underlying40 rfl Tryd.ti4 rfl rfl _ rfl) rfl <| wpl_on rfl rfl ?_
   refine wpl_q (q_ld Tryd.underlying4 rfl rfl (by first | exact vbs_get zz5 | rfl)) rfl ?_
   refine wpl_on rfl rfl <| wpl_q (q_pure rfl) rfl <| wpl_q (q_pure rfl) rfl <| wpl_q (q_pure rfl) rfl <| wpl_nil <| ex_then <| wpc_ret ?_
   refine ret1 (.inl rfl) rfl rfl ?_
   exact fun w h => ⟨by simp [isTh, hb8], h.below⟩
  ·
   try simp only [decide_eq_false_iff_not] at hb8
   refine wpl_off rfl rfl rfl rfl <| wpl_off rfl rfl rfl rfl <| wpl_off rfl rfl rfl rfl <| wpl_q (q_pure rfl) rfl <| wpl_q (q_pure rfl) rfl <| wpl_nil <| ex_then <| wpc_ret ?_
   refine ret1 (.inl rfl) rfl rfl ?_
   exact fun w h => ⟨by simp [isTh, hb8], h.below⟩
theorem place (kv : Value) (ks : List KE) (id : UInt32) (w : World) (hkv : Seen w.cell? kv ks.length 6 (kcs ks))  :
    Calls Tryd.prog 30 [kv, .int .u32 id.toNat].toArray w (Pur w (.int .i64 (placeF ks id))) := by
  have skv := hkv.sv
  have lkv := skv.le
  simp only [maxLen] at lkv
  refine enter (m := 8) (R := Mem w [] [] []) Tryd.func30 rfl rfl (Nat.le_of_ble_eq_true rfl) (Mem.start w) ?_
  refine wpc_seq <| wpc_region ?_
  refine wpl_t (t_box rfl [.int .u32 (id.toNat : Int)] rfl) rfl (fun b3 => ?_)
  refine wpl_q (q_pure rfl) rfl <| wpl_nil <| ex_then <| wpc_seq <| wpc_region <| wpl_q (q_pure rfl) rfl ?_
  refine wpl_q (q_fn (us := []) (vs := [.pointer (some ⟨b3, 0, none⟩)]) rfl rfl) rfl ?_
  refine wpl_t (t_pur Tryd.hb41 rfl fun w2 h => find_ kv ks 49 _ (isId id) w2 (h.seen_old hkv) Tryd.hb49 fun w3 h3 k => place1 k b3 id w3 (h3 _ _ (h.cell_blk zz7 rfl))) rfl (fun b7 => ?_)
  refine wpl_q (q_pure rfl) rfl <| wpl_nil <| ex_then <| wpc_ret ?_
  refine ret1 (.inl rfl) rfl rfl ?_
  exact fun w h => ⟨rfl, h.below⟩
theorem refPlace (kv : Value) (ks : List KE) (id : UInt32) (w : World) (hkv : Seen w.cell? kv ks.length 6 (kcs ks))  :
    Calls Tryd.prog 12 [kv, .int .u32 id.toNat].toArray w (Pur w (.int .i64 (placeF ks id))) := by
  have skv := hkv.sv
  have lkv := skv.le
  simp only [maxLen] at lkv
  refine enter (m := 20) (R := Mem w [] [] []) Tryd.func12 rfl rfl (Nat.le_of_ble_eq_true rfl) (Mem.start w) ?_
  refine wpc_seq <| wpc_region <| wpl_q (q_pure rfl) rfl <| wpl_nil <| ex_then <| wpc_seq <| wpc_seq <| wpc_region <| wpl_q (q_pure rfl) rfl <| wpl_nil <| ex_then <| wpc_block ?_
  refine wpc_loopc (ι := { x : Nat // (x ≤ ks.length) ∧ (∀ j, j < x → isId id (ks.getD j KE.z) = false) }) [(0, _), (1, _)] (fun x Lc => (5, .int .i64 ((x.1 : Nat) : Int)) :: Lc) (fun x => Mem w [] [] []) (fun x => ks.length - x.1) ⟨0, ⟨Nat.zero_le _, fun j hj => absurd hj (Nat.not_lt_zero _)⟩⟩ zz14 ?_ ?_
  ·
   exact fun w h => h
  ·
   rintro ⟨i, ⟨hi0, hi1⟩⟩; try dsimp only
   have hi0 : i ≤ ks.length := hi0; have hi1 : ∀ j, j < i → isId id (ks.getD j KE.z) = false := hi1
   refine wpc_seq <| wpc_seq <| wpc_region <| wpl_q (q_pure rfl) rfl <| wpl_q (q_pure rfl) rfl ?_
   refine wpl_q (q_lenW Tryd.underlying26 rfl zz3) rfl ?_
   refine wpl_q (q_pure rfl) rfl <| wpl_nil <| ex_then ?_
   refine wpc_cond rfl (fun hc9 => ?_) (fun hc9 => ?_)
   ·
    simp only [decide_eq_true_eq] at hc9
    have hlt : i < ks.length := by omega
    refine wpc_skip <| ex_then <| wpc_seq <| wpc_block <| wpc_seq <| wpc_region <| wpl_q (q_pure rfl) rfl <| wpl_q (q_pure rfl) rfl ?_
    refine wpl_q (q_idxW Tryd.underlying26 Tryd.ti40 rfl rfl zz3 zz1) rfl ?_
    refine wpl_q (q_fieldPo 0 Tryd.underlying40 rfl Tryd.ti25 rfl rfl rfl) rfl ?_
    refine wpl_q (q_ldWF Tryd.underlying25 rfl rfl (fun w h => h.seen_old hkv) (kcs_get hlt rfl)) rfl ?_
    refine wpl_q (q_pure rfl) rfl <| wpl_q (q32_eql rfl rfl) rfl <| wpl_nil <| ex_then ?_
    refine wpc_cond rfl (fun hc18 => ?_) (fun hc18 => ?_)
    ·
     refine wpc_seq <| wpc_region <| wpl_q (q_pure rfl) rfl <| wpl_q (q_pure rfl) rfl <| wpl_nil <| ex_then <| wpc_ret ?_
     refine ex_block_ret ?_
     refine ex_then_ret ?_
     refine ex_then_ret ?_
     refine ex_block_ret ?_
     refine ex_then_ret ?_
     refine ret1 (.inl rfl) rfl rfl ?_
     exact fun w h => ⟨by rw [placeF, idxF_found KE.z hi1 hlt hc18], h.below⟩
    ·
     refine wpc_skip <| ex_block <| ex_then <| wpc_region <| wpl_q (q_pure rfl) rfl ?_
     refine wpl_q (q_addN (b := 1) rfl rfl zz1) rfl ?_
     refine wpl_q (q_pure rfl) rfl <| wpl_nil ?_
     refine ex_again ⟨i + 1, ⟨zz16, fun j hj => by rcases Nat.lt_succ_iff_lt_or_eq.1 hj with h | rfl; exact hi1 j h; exact hc18⟩⟩ ?_ ?_ ?_
     ·
      exact zz14
     ·
      exact fun w h => by first | exact h | exact h.sub SubC.h SubC.h | exact h.sub zz8 zz8
     ·
      (show ks.length - (i + 1) < ks.length - i); omega
   ·
    simp only [decide_eq_false_iff_not] at hc9
    obtain rfl : i = ks.length := by omega
    refine wpc_exit ?_
    refine ex_then_exit ?_
    refine ex_then_exit ?_
    refine ex_block_hit ?_
    refine ex_then <| wpc_seq <| wpc_region <| wpl_q (q_pure rfl) rfl <| wpl_nil <| ex_then <| wpc_ret ?_
    refine ret1 (.inl rfl) rfl rfl ?_
    exact fun w h => ⟨by rw [placeF, idxF_none KE.z hi1], h.below⟩
end Go.Proofs.YtoaeklbenmlooaaDoor
namespace Go.Proofs.YtoaeklbenmlooaaDoor
open Go Go.PL Go.RowKit
theorem built_rec (r : Rec) : Tryd.prog.built 61 [(0, .int .u8 (r.k.toNat : Int)), (1, .int .u8 (r.h.toNat : Int)), (2, .int .u16 (r.v.toNat : Int)), (3, .int .u32 (r.id.toNat : Int))] = some r.c.toArray := by kernel_rfl
theorem built_key (id : UInt32) (ht : Int) : Tryd.prog.built 40 [(0, .int .u32 (id.toNat : Int)), (1, .int .i64 ht)] = some (KE.mk id ht 0 0 0 false).c.toArray := by kernel_rfl
theorem rec_one (r : Rec) : ∀ u ∈ r.c, u.oneCell' = true := by
  intro u hu
  simp only [Rec.c, List.mem_cons, List.not_mem_nil, or_false] at hu
  rcases hu with rfl | rfl | rfl | rfl <;> rfl
def encR (r : Rec) (_ : Unit) : Array Value := #[.agg r.c.toArray]
def AtR (_ : List Nat) (_ : Rec) (_ : Unit) (_ : World) : Prop := True
theorem records (bv : Value) (bs : List UInt8) (w : World) (hbv : Seen w.cell? bv bs.length 1 (v8s bs))  :
    Calls Tryd.prog 18 [bv].toArray w (Gives w (fun pb : Nat => .func (.func 33) #[] #[.pointer (some ⟨pb, 0, none⟩)]) (fun pb => [.blk pb 22 [bv]]) (fun _ => [])) := by
  have sbv := hbv.sv
  have lbv := sbv.le
  simp only [maxLen] at lbv
  refine enter (m := 4) (R := Mem w [] [] []) Tryd.func18 rfl rfl (Nat.le_of_ble_eq_true rfl) (Mem.start w) ?_
  refine wpc_seq <| wpc_region ?_
  refine wpl_t (t_box rfl [bv] sbv.cells) rfl (fun b1 => ?_)
  refine wpl_q (q_pure rfl) rfl <| wpl_nil <| ex_then <| wpc_seq <| wpc_region ?_
  refine wpl_q (q_fn (us := []) (vs := [.pointer (some ⟨b1, 0, none⟩)]) rfl rfl) rfl ?_
  refine wpl_q (q_pure rfl) rfl <| wpl_nil <| ex_then <| wpc_ret ?_
  refine ret1 (.inl rfl) rfl rfl ?_
  exact fun w h => ⟨b1, rfl, h.below, h.made SubC.h .nil⟩
theorem recsIter (l : Nat) (pb : Nat) (bv : Value) (bs : List UInt8) (J : List Nat → List Rec → World → Prop) (K : World → Prop) (w : World)  (hst : StabJ J) (hinv : ∀ T pre w1, J T pre w1 → Seen w1.cell? bv bs.length 1 (v8s bs)) (hsk : StabK K) (hy : YieldS Tryd.prog l encR AtR (recs bs) J K) (hJ0 : J [pb] [] w) (hpb : w.heap[pb]? = some (.cells #[bv] 22 (0, 0))) :
    Calls Tryd.prog 33 [.func (.yield l) #[] #[], .pointer (some ⟨pb, 0, none⟩)].toArray w (IterPost J K (recs bs)) := by
  refine enter (m := 60) (R := Mem w [pb] [.blk pb 22 [bv]] []) Tryd.func33 rfl rfl (Nat.le_of_ble_eq_true rfl) (Mem.start1 w hpb) ?_
  refine wpc_block ?_
  refine wpc_loopc (ι := { x : List Rec × Nat × Value × World × List Nat // (x.2.1 ≤ bs.length) ∧ (J x.2.2.2.2 x.1 x.2.2.2.1) ∧ (recs bs = x.1 ++ recs (bs.drop x.2.1)) ∧ ((∀ r : Rd, Seen r bv bs.length 1 (v8s bs) → Seen r x.2.2.1 (bs.drop x.2.1).length 1 (v8s (bs.drop x.2.1)))) }) [(0, _), (1, _)] (fun x Lc => Lc) (fun x => Mem x.1.2.2.2.1 x.1.2.2.2.2 [.blk pb 22 [x.1.2.2.1]] []) (fun x => bs.length - x.1.2.1) ⟨([], 0, bv, w, [pb]), ⟨Nat.zero_le _, hJ0, rfl, fun r h => h⟩⟩ zz14 ?_ ?_
  ·
   exact fun w h => h
  ·
   rintro ⟨⟨pre, n, u, wb, T⟩, ⟨hi0, hi1, hi2, hi3⟩⟩; try dsimp only
   have hi0 : n ≤ bs.length := hi0; have hi1 : J T pre wb := hi1; have hi2 : recs bs = pre ++ recs (bs.drop n) := hi2; have hi3 : (∀ r : Rd, Seen r bv bs.length 1 (v8s bs) → Seen r u (bs.drop n).length 1 (v8s (bs.drop n))) := hi3
   have hsee : ∀ {M : List Ent} {S : List Fact} {w : World}, Mem wb T M S w → Seen w.cell? u (bs.drop n).length 1 (v8s (bs.drop n)) := fun h => hi3 _ (hinv _ _ _ (hst _ _ _ _ _ hi1 (h.sub .nil .nil) (nums_lt h)))
   have su : SV u (bs.drop n).length := (hi3 _ (hinv _ _ _ hi1)).sv
   have hdl : (bs.drop n).length = bs.length - n := List.length_drop
   refine wpc_seq <| wpc_seq <| wpc_region <| wpl_q (q_ld Tryd.underlying22 rfl rfl rfl) rfl ?_
   refine wpl_q (q_lenW Tryd.underlying22 rfl zz3) rfl ?_
   refine wpl_q (q_pure rfl) rfl <| wpl_nil <| ex_then ?_
   refine wpc_cond rfl (fun hc6 => ?_) (fun hc6 => ?_)
   ·
    simp only [decide_eq_true_eq, ge_iff_le] at hc6
    have hlen : 10 ≤ (bs.drop n).length := by omega
    refine wpc_skip <| ex_then <| wpc_block <| wpc_seq ?_
    refine wpc_draw 40 zz6 (fun _ h => h.drew) ?_
    refine wpd_q 0 rfl zz6 trivial (q_ld Tryd.underlying22 rfl rfl rfl) rfl (fun _ h => h) ?_
    refine wpd_p 1 rfl zz6 trivial (q_idxW1 (j := 0) Tryd.underlying22 Tryd.ti5 rfl rfl zz3 zz1) rfl sk0 ?_
    refine wpd_q 2 rfl zz6 trivial (q_ldW Tryd.underlying5 rfl rfl (fun w h => hsee h) zz34) rfl (fun _ h => h) ?_
    refine wpd_q 3 rfl zz6 trivial (q_ld Tryd.underlying22 rfl rfl rfl) rfl (fun _ h => h) ?_
    refine wpd_p 4 rfl zz6 trivial (q_idxW1 (j := 1) Tryd.underlying22 Tryd.ti5 rfl rfl zz3 zz1) rfl sk0 ?_
    refine wpd_q 5 rfl zz6 trivial (q_ldW Tryd.underlying5 rfl rfl (fun w h => hsee h) zz34) rfl (fun _ h => h) ?_
    refine wpd_q 6 rfl zz6 trivial (q_ld Tryd.underlying22 rfl rfl rfl) rfl (fun _ h => h) ?_
    refine wpd_p 7 rfl zz6 trivial (q_idxW1 (j := 2) Tryd.underlying22 Tryd.ti5 rfl rfl zz3 zz1) rfl sk0 ?_
    refine wpd_q 8 rfl zz6 trivial (q_ldW Tryd.underlying5 rfl rfl (fun w h => hsee h) zz34) rfl (fun _ h => h) ?_
    refine wpd_p 9 rfl zz6 trivial (q16_conv Tryd.underlying5 Tryd.underlying59 rfl) rfl sk0 ?_
    refine wpd_p 10 rfl zz6 trivial (q16_shl rfl rfl zz32 8 rfl) rfl sk0 ?_
    refine wpd_q 11 rfl zz6 trivial (q_ld Tryd.underlying22 rfl rfl rfl) rfl (fun _ h => h) ?_
    refine wpd_p 12 rfl zz6 trivial (q_idxW1 (j := 3) Tryd.underlying22 Tryd.ti5 rfl rfl zz3 zz1) rfl sk0 ?_
    refine wpd_q 13 rfl zz6 trivial (q_ldW Tryd.underlying5 rfl rfl (fun w h => hsee h) zz34) rfl (fun _ h => h) ?_
    refine wpd_p 14 rfl zz6 trivial (q16_conv Tryd.underlying5 Tryd.underlying59 rfl) rfl sk0 ?_
    refine wpd_p 15 rfl zz6 trivial (q16_or rfl rfl) rfl sk0 ?_
    refine wpd_q 16 rfl zz6 trivial (q_ld Tryd.underlying22 rfl rfl rfl) rfl (fun _ h => h) ?_
    refine wpd_p 17 rfl zz6 trivial (q_idxW1 (j := 4) Tryd.underlying22 Tryd.ti5 rfl rfl zz3 zz1) rfl sk0 ?_
    refine wpd_q 18 rfl zz6 trivial (q_ldW Tryd.underlying5 rfl rfl (fun w h => hsee h) zz34) rfl (fun _ h => h) ?_
    refine wpd_p 19 rfl zz6 trivial (q32_conv Tryd.underlying5 Tryd.underlying25 rfl) rfl sk0 ?_
    refine wpd_p 20 rfl zz6 trivial (q32_shl rfl rfl zz32 24 rfl) rfl sk0 ?_
    refine wpd_q 21 rfl zz6 trivial (q_ld Tryd.underlying22 rfl rfl rfl) rfl (fun _ h => h) ?_
    refine wpd_p 22 rfl zz6 trivial (q_idxW1 (j := 5) Tryd.underlying22 Tryd.ti5 rfl rfl zz3 zz1) rfl sk0 ?_
    refine wpd_q 23 rfl zz6 trivial (q_ldW Tryd.underlying5 rfl rfl (fun w h => hsee h) zz34) rfl (fun _ h => h) ?_
    refine wpd_p 24 rfl zz6 trivial (q32_conv Tryd.underlying5 Tryd.underlying25 rfl) rfl sk0 ?_
    refine wpd_p 25 rfl zz6 trivial (q32_shl rfl rfl zz32 16 rfl) rfl sk0 ?_
    refine wpd_p 26 rfl zz6 trivial (q32_or rfl rfl) rfl sk0 ?_
    refine wpd_q 27 rfl zz6 trivial (q_ld Tryd.underlying22 rfl rfl rfl) rfl (fun _ h => h) ?_
    refine wpd_p 28 rfl zz6 trivial (q_idxW1 (j := 6) Tryd.underlying22 Tryd.ti5 rfl rfl zz3 zz1) rfl sk0 ?_
    refine wpd_q 29 rfl zz6 trivial (q_ldW Tryd.underlying5 rfl rfl (fun w h => hsee h) zz34) rfl (fun _ h => h) ?_
    refine wpd_p 30 rfl zz6 trivial (q32_conv Tryd.underlying5 Tryd.underlying25 rfl) rfl sk0 ?_
    refine wpd_p 31 rfl zz6 trivial (q32_shl rfl rfl zz32 8 rfl) rfl sk0 ?_
    refine wpd_p 32 rfl zz6 trivial (q32_or rfl rfl) rfl sk0 ?_
    refine wpd_q 33 rfl zz6 trivial (q_ld Tryd.underlying22 rfl rfl rfl) rfl (fun _ h => h) ?_
    refine wpd_p 34 rfl zz6 trivial (q_idxW1 (j := 7) Tryd.underlying22 Tryd.ti5 rfl rfl zz3 zz1) rfl sk0 ?_
    refine wpd_q 35 rfl zz6 trivial (q_ldW Tryd.underlying5 rfl rfl (fun w h => hsee h) zz34) rfl (fun _ h => h) ?_
    refine wpd_p 36 rfl zz6 trivial (q32_conv Tryd.underlying5 Tryd.underlying25 rfl) rfl sk0 ?_
    refine wpd_p 37 rfl zz6 trivial (q32_or rfl rfl) rfl sk0 ?_
    refine wpd_p 38 rfl zz6 trivial (q_build (cs := (recAt (bs.drop n)).c) rfl (built_rec (recAt (bs.drop n)))) rfl sk0 ?_
    refine wpd_t 39 rfl zz6 trivial (t_alloc Tryd.ti61 _ rfl) rfl (fun _ => (fun w h => .inr (h.sub SubC.h SubC.h))) (fun b3 => ?_)
    refine wpd_t0 40 rfl zz6 trivial (t_stA Tryd.ti61 rfl rfl zz0 (rec_one _) zz0) (fun _ => skk rfl) (fun _ => ?_)
    refine wpd_done zz6 ?_
    refine ex_then <| wpc_seq <| wpc_seq ?_
    refine wpc_draw_y 9 zz6 (fun _ h => h.drew) ?_
    refine wid_qB 0 [1, 4, 5, 6, 7, 8, 9] rfl zz6 trivial (q_ldN Tryd.underlying61 rfl Tryd.ti61 rfl zz0) rfl (fun _ h => h) ?_
    refine wid_qB 2 [3, 4, 5, 6, 7, 8, 9] rfl zz6 trivial (q_ld Tryd.underlying22 rfl rfl rfl) rfl (fun _ h => h) ?_
    refine wid_p 3 rfl zz6 trivial (q_slWh (k' := 10) Tryd.underlying22 Tryd.ti5 rfl rfl zz3 zz16) rfl sk0 ?_
    refine wid_tp 1 rfl zz6 trivial (t_callP1 Tryd.hb35 rfl fun w h => recBytes (recAt (bs.drop n)) w) rfl (fun _ => (fun w h => .inr (h.sub SubC.h SubC.h))) (fun b47 p47 => ?_)
    refine wid_t 4 rfl zz6 trivial (t_pur (v := .bool (okRec (bs.drop n))) Tryd.hb34 rfl fun w h => equalB b47 (recB (recAt (bs.drop n))) (slv u 0 10 1) (((bs.drop n).drop 0).take (10 - 0)) w (h.seenV (m := 10)) (Seen.re8 ((hsee h).slv8 0 10 zz16 hlen))) rfl (fun _ => (fun w h => .inr (h.sub SubC.h SubC.h))) (fun b50 => ?_)
    refine wid_p 5 rfl zz6 trivial (q_pure rfl) rfl (fun w h => .inr (h.sub SubC.h SubC.h)) ?_
    have hkk := b50
    refine wid_p 6 rfl zz6 trivial (q_pure rfl) rfl (fun w h => .inr (h.sub SubC.h SubC.h)) ?_
    refine wid_bool2 52 51 rfl rfl (fun hb52 => ?_) (fun hb52 => ?_)
    ·
     have hk : okRec (bs.drop n) = false := by simpa using hb52
     have hrb := recs_bad hk
     rw [hrb, List.append_nil] at hi2
     refine wid_off 7 rfl zz6 ⟨_, _, rfl, rfl, rfl⟩ rfl (fun w h => .inr (h.sub SubC.h SubC.h)) ?_
     refine wid_off 8 rfl zz6 ⟨_, _, rfl, rfl, rfl⟩ rfl (fun w h => .inr (h.sub SubC.h SubC.h)) ?_
     refine wid_off1 9 rfl zz6 ⟨_, _, rfl, rfl, rfl⟩ rfl (skk rfl) ?_
     refine wid_off 10 rfl zz6 ⟨_, _, rfl, rfl, rfl⟩ rfl (skk rfl) ?_
     refine wid_p 11 rfl zz6 trivial (q_pure rfl) rfl (skk rfl) ?_
     refine wid_done zz6 ?_
     refine ex_then ?_
     refine wpc_cond_t rfl ?_
     refine wpc_ret ?_
     refine ex_then_ret ?_
     refine ex_block_ret ?_
     refine ex_then_ret ?_
     refine ex_block_ret ?_
     refine ret0 (.inl rfl) rfl ?_
     exact fun w h => iter_done hst (hi2 ▸ hi1) h
    ·
     have hk : okRec (bs.drop n) = true := by simpa using hb52
     have hrc := recs_cons hlen hk
     have hpf : (pre ++ [recAt (bs.drop n)]) <+: recs bs := by rw [hi2, hrc]; exact ⟨recs ((bs.drop n).drop 10), by rw [List.append_assoc]; rfl⟩
     rw [List.drop_drop] at hrc
     have hnx : ∀ r : Rd, Seen r bv bs.length 1 (v8s bs) → Seen r (slv u 10 (bs.drop n).length 1) (bs.drop (n + 10)).length 1 (v8s (bs.drop (n + 10))) := fun r hr => by
       have h2 := (hi3 r hr).slv8 10 (bs.drop n).length hlen (Nat.le_refl _)
       rw [List.take_of_length_le (by rw [List.length_drop]; exact Nat.le_refl _), List.drop_drop] at h2
       exact h2.re8
     refine wid_p 7 rfl zz6 ⟨_, rfl, rfl⟩ (q_pure rfl) rfl (fun w h => .inr (h.sub SubC.h SubC.h)) ?_
     refine wid_q 8 rfl zz6 ⟨_, rfl, rfl⟩ (q_ldN Tryd.underlying61 rfl Tryd.ti61 rfl zz0) rfl (fun w h => h.sub SubC.h SubC.h) ?_
     refine wid_yieldS 9 (recAt (bs.drop n)) (()) rfl zz6 ⟨_, rfl, rfl⟩ rfl rfl hst hy hi1 hpf rfl (fun _ _ => trivial) rfl rfl ?_ ?_
     ·
      intro u55 hu55
      refine wid_p 10 rfl zz6 ⟨_, rfl, rfl⟩ (q_pure rfl) rfl (skk rfl) ?_
      refine wid_p 11 rfl zz6 trivial (q_pure rfl) rfl (skk rfl) ?_
      refine wid_done zz6 ?_
      refine ex_then ?_
      refine wpc_cond_f rfl ?_
      refine wpc_skip <| ex_then <| wpc_region <| wpl_q (q_ld Tryd.underlying22 rfl rfl rfl) rfl ?_
      refine wpl_q (q_slWl (l' := 10) Tryd.underlying22 Tryd.ti5 rfl rfl zz3 zz16) rfl ?_
      refine wpl_t0 (t_st1 Tryd.ti22 rfl rfl (SV.one zz3) zz5 _ rfl) (fun _ => ?_)
      refine wpl_nil <| ex_block ?_
      refine ex_again ⟨(pre ++ [recAt (bs.drop n)], n + 10, slv u 10 (bs.drop n).length 1, u55, nums (.row b47 10 5 1 (v8s (recB (recAt (bs.drop n)))) :: [.blk b3 61 (recAt (bs.drop n)).c, .blk pb 22 [u]])), ⟨by show n + 10 ≤ bs.length; omega, hu55, by rw [hi2, hrc, List.append_assoc]; rfl, hnx⟩⟩ ?_ ?_ ?_
      ·
       exact zz14
      ·
       exact fun w h => by first | exact h | exact h.sub SubC.h SubC.h | exact h.sub zz8 zz8
      ·
       (show bs.length - (n + 10) < bs.length - n); omega
     ·
      intro u55 hu55
      refine wid_p 10 rfl zz6 ⟨_, rfl, rfl⟩ (q_pure rfl) rfl (skk rfl) ?_
      refine wid_p 11 rfl zz6 trivial (q_pure rfl) rfl (skk rfl) ?_
      refine wid_done zz6 ?_
      refine ex_then ?_
      refine wpc_cond_t rfl ?_
      refine wpc_ret ?_
      refine ex_then_ret ?_
      refine ex_block_ret ?_
      refine ex_then_ret ?_
      refine ex_block_ret ?_
      refine ret0 (.inl rfl) rfl ?_
      exact fun w h => iter_stop hsk hu55 h
   ·
    simp only [decide_eq_false_iff_not, ge_iff_le] at hc6
    have hrs := recs_short (bs := (bs.drop n)) zz16
    rw [hrs, List.append_nil] at hi2
    rw [← hi2] at hi1
    refine wpc_exit ?_
    refine ex_then_exit ?_
    refine ex_then_exit ?_
    refine ex_block_hit ?_
    refine ret0 (.inr rfl) rfl ?_
    exact fun w h => iter_done hst (hi2 ▸ hi1) h
end Go.Proofs.YtoaeklbenmlooaaDoor
namespace Go.Proofs.YtoaeklbenmlooaaDoor
open Go Go.PL Go.RowKit
abbrev kRow (v : Value) (ks : List KE) : Ent := .row v ks.length 40 6 (kcs ks)
abbrev ReadPost (w : World) (kv : Value) (ks : List KE) (r : Rec) : Ending → World → Prop :=
  GivesA w [kRow kv ks] (fun v' => SV v' (readK ks r).length ∧ (readF ks r = none → v' = kv)) (fun v' => .tuple #[v', .bool (readF ks r).isSome]) (fun v' => [kRow v' (readK ks r)])
theorem read_none {w0 w : World} {kv : Value} {ks : List KE} {r : Rec} (hn : readF ks r = none) (skv : SV kv ks.length) (h : Mem w0 (nums [kRow kv ks]) [kRow kv ks] [] w) : ReadPost w0 kv ks r (.returned (.tuple #[kv, .bool false])) w := by
  have e : readK ks r = ks := by rw [readK, hn]; rfl
  refine ⟨kv, ⟨by rw [e]; exact skv, fun _ => rfl⟩, by rw [hn]; rfl, ?_⟩
  rw [e]; exact h
theorem read_some {w0 w : World} {kv v : Value} {ks k' : List KE} {r : Rec} {m : Nat} {xs : List Value} (hn : readF ks r = some k') (hm : k'.length = m) (hc : xs = kcs k') (sv : SV v m) (h : Mem w0 (nums [kRow kv ks]) [.row v m 40 6 xs] [] w) : ReadPost w0 kv ks r (.returned (.tuple #[v, .bool true])) w := by
  subst hm hc
  have e : readK ks r = k' := by rw [readK, hn]; rfl
  refine ⟨v, ⟨by rw [e]; exact sv, fun h => by rw [hn] at h; cases h⟩, by rw [hn]; rfl, ?_⟩
  rw [e]; exact h
theorem ke_one (k : KE) : ∀ u ∈ k.c, u.oneCell' = true := by
  intro u hu
  simp only [KE.c, List.mem_cons, List.not_mem_nil, or_false] at hu
  rcases hu with rfl | rfl | rfl | rfl | rfl | rfl <;> rfl
theorem kcs_snoc (ks : List KE) (k : KE) : kcs ks ++ k.c = kcs (ks ++ [k]) := by rw [kcs_append]; simp [kcs]
theorem getD_set_self (ks : List KE) (k : KE) {j : Nat} (h : j < ks.length) : (ks.set j k).getD j KE.z = k := by
  rw [List.getD_eq_getElem?_getD, List.getElem?_set_self h]; rfl
theorem kcs_upd {ks : List KE} {j : Nat} (n : Int) (h : j < ks.length) : (((kcs ks).set (j * 6 + 2) (.int .i64 n)).set (j * 6 + 3) (.int .i64 n)).set (j * 6 + 4) (.int .i64 n) = kcs (ks.set j { ks.getD j KE.z with nx := n, du := n, ak := n }) := by
  rw [kcs_set { ks.getD j KE.z with nx := n } h rfl zz27, kcs_set { ks.getD j KE.z with nx := n, du := n } (by rw [List.length_set]; exact h) (by rw [getD_set_self _ _ h]; rfl) zz27, List.set_set,
    kcs_set { ks.getD j KE.z with nx := n, du := n, ak := n } (by rw [List.length_set]; exact h) (by rw [getD_set_self _ _ h]; rfl) zz27, List.set_set]
theorem kcs_drp {ks : List KE} {j : Nat} (h : j < ks.length) : (kcs ks).set (j * 6 + 5) (.bool true) = kcs (ks.set j { ks.getD j KE.z with dr := true }) := kcs_set _ h rfl zz27
theorem readF_1 {ks : List KE} {r : Rec} (h1 : r.k = 1) (h2 : ¬ (0 ≤ placeF ks r.id ∨ 8 ≤ ks.length ∨ 4 < r.h.toNat ∨ r.v ≠ 0)) : readF ks r = some (ks ++ [⟨r.id, ((r.h.toNat : Nat) : Int), 0, 0, 0, false⟩]) := by
  unfold readF; rw [if_pos h1, if_neg h2]
theorem readF_1n {ks : List KE} {r : Rec} (h1 : r.k = 1) (h2 : 0 ≤ placeF ks r.id ∨ 8 ≤ ks.length ∨ 4 < r.h.toNat ∨ r.v ≠ 0) : readF ks r = none := by
  unfold readF; rw [if_pos h1, if_pos h2]
theorem readF_0n {ks : List KE} {r : Rec} (h1 : r.k ≠ 1) (h2 : placeF ks r.id < 0) : readF ks r = none := by
  unfold readF; rw [if_neg h1, if_pos (.inl h2)]
theorem readF_j {ks : List KE} {r : Rec} {j : Nat} (h1 : r.k ≠ 1) (h2 : placeF ks r.id = (j : Int)) : readF ks r =
    if (ks.getD j KE.z).dr = true ∨ (ks.getD j KE.z).ht ≠ ((r.h.toNat : Nat) : Int) then none
    else if r.k = 2 then
      if ((r.v.toNat : Nat) : Int) ≤ (ks.getD j KE.z).ak ∨ 2 ^ r.h.toNat < r.v.toNat then none else some (ks.set j { ks.getD j KE.z with nx := (r.v.toNat : Nat), du := (r.v.toNat : Nat), ak := (r.v.toNat : Nat) })
    else if r.k = 3 then
      if ((r.v.toNat : Nat) : Int) ≠ (ks.getD j KE.z).ak then none else some (ks.set j { ks.getD j KE.z with dr := true })
    else none := by
  unfold readF
  rw [if_neg h1, h2]
  dsimp only
  rw [show ((j : Nat) : Int).toNat = j from Int.toNat_natCast j]
  by_cases hc : (ks.getD j KE.z).dr = true ∨ (ks.getD j KE.z).ht ≠ ((r.h.toNat : Nat) : Int)
  · rw [if_pos (.inr hc), if_pos hc]
  · rw [if_neg (fun h => by rcases h with h | h; omega; exact hc h), if_neg hc]
theorem read_ (kv : Value) (ks : List KE) (r : Rec) (w : World) (hb : Mem w (nums [kRow kv ks]) [kRow kv ks] [] w) (skv : SV kv ks.length) (hko : KOk ks)  :
    Calls Tryd.prog 19 [kv, .agg r.c.toArray].toArray w (ReadPost w kv ks r) := by
  have lkv := skv.le
  simp only [maxLen] at lkv
  have hk8 := hko.1
  have hkl := kcs_length ks
  refine enter (m := 116) (R := Mem w (nums [kRow kv ks]) [kRow kv ks] []) Tryd.func19 rfl rfl (Nat.le_of_ble_eq_true rfl) hb ?_
  refine wpc_seq <| wpc_region ?_
  refine wpl_t (t_box rfl r.c rfl) rfl (fun b3 => ?_)
  refine wpl_q (q_pure rfl) rfl <| wpl_q (q_pure rfl) rfl <| wpl_nil <| ex_then <| wpc_seq <| wpc_region <| wpl_q (q_pure rfl) rfl <| wpl_q (q_field Tryd.underlying61 rfl Tryd.ti25 rfl rfl _ rfl) rfl ?_
  refine wpl_q (q_ld Tryd.underlying25 rfl rfl zz42) rfl ?_
  refine wpl_t (t_pur Tryd.hb30 rfl fun w h => place _ _ _ w zz15) rfl (fun b12 => ?_)
  refine wpl_q (q_pure rfl) rfl <| wpl_nil <| ex_then <| wpc_seq <| wpc_seq <| wpc_region <| wpl_q (q_field Tryd.underlying61 rfl Tryd.ti5 rfl rfl _ rfl) rfl ?_
  refine wpl_q (q_ld Tryd.underlying5 rfl rfl zz34) rfl ?_
  refine wpl_q (q8_eql (b := (1 : UInt8)) rfl rfl) rfl ?_
  refine wpl_nil <| ex_then ?_
  refine wpc_cond rfl (fun hc15 => ?_) (fun hc15 => ?_)
  ·
   simp only [decide_eq_true_eq] at hc15
   refine wpc_seq <| wpc_seq <| wpc_region <| wpl_q (q_pure rfl) rfl <| wpl_q (q_pure rfl) rfl <| wpl_q (q_pure rfl) rfl ?_
   refine wpl_bool2 18 17 rfl rfl (fun hb18 => ?_) (fun hb18 => ?_)
   ·
    try simp only [decide_eq_true_eq, decide_eq_false_iff_not, Bool.and_eq_true, Bool.or_eq_true, beq_iff_eq, bne_iff_ne, ne_eq, Bool.not_eq_true', Bool.not_eq_false', Decidable.not_not] at hb18
    refine wpl_off rfl rfl rfl rfl <| wpl_off rfl rfl rfl rfl <| wpl_off rfl rfl rfl rfl <| wpl_q (q_pure rfl) rfl <| wpl_q (q_pure rfl) rfl <| wpl_off rfl rfl rfl rfl <| wpl_off rfl rfl rfl rfl <| wpl_off rfl rfl rfl rfl <| wpl_q (q_pure rfl) rfl <| wpl_q (q_pure rfl) rfl <| wpl_off rfl rfl rfl rfl <| wpl_off rfl rfl rfl rfl ?_
    refine wpl_off rfl rfl rfl rfl <| wpl_q (q_pure rfl) rfl <| wpl_nil <| ex_then ?_
    refine wpc_cond_t rfl ?_
    refine wpc_seq <| wpc_region <| wpl_q (q_pure rfl) rfl <| wpl_q (q_pure rfl) rfl <| wpl_q (q_pure rfl) rfl <| wpl_nil <| ex_then <| wpc_ret ?_
    refine ex_then_ret ?_
    refine ex_then_ret ?_
    refine ret2 (.inl rfl) rfl rfl rfl ?_
    exact fun w h => read_none (readF_1n hc15 zz43) skv (h.sub SubC.h .nil)
   ·
    try simp only [decide_eq_true_eq, decide_eq_false_iff_not, Bool.and_eq_true, Bool.or_eq_true, beq_iff_eq, bne_iff_ne, ne_eq, Bool.not_eq_true', Bool.not_eq_false', Decidable.not_not] at hb18
    refine wpl_on rfl rfl <| wpl_q (q_pure rfl) rfl <| wpl_on rfl rfl ?_
    refine wpl_q (q_lenW Tryd.underlying26 rfl zz3) rfl ?_
    refine wpl_on rfl rfl <| wpl_q (q_pure rfl) rfl <| wpl_q (q_pure rfl) rfl <| wpl_q (q_pure rfl) rfl ?_
    refine wpl_bool2 23 21 rfl rfl (fun hb23 => ?_) (fun hb23 => ?_)
    ·
     try simp only [decide_eq_true_eq, decide_eq_false_iff_not, Bool.and_eq_true, Bool.or_eq_true, beq_iff_eq, bne_iff_ne, ne_eq, Bool.not_eq_true', Bool.not_eq_false', Decidable.not_not] at hb23
     refine wpl_off rfl rfl rfl rfl <| wpl_off rfl rfl rfl rfl <| wpl_off rfl rfl rfl rfl <| wpl_q (q_pure rfl) rfl <| wpl_q (q_pure rfl) rfl <| wpl_off rfl rfl rfl rfl <| wpl_off rfl rfl rfl rfl <| wpl_off rfl rfl rfl rfl <| wpl_q (q_pure rfl) rfl <| wpl_nil <| ex_then ?_
     refine wpc_cond_t rfl ?_
     refine wpc_seq <| wpc_region <| wpl_q (q_pure rfl) rfl <| wpl_q (q_pure rfl) rfl <| wpl_q (q_pure rfl) rfl <| wpl_nil <| ex_then <| wpc_ret ?_
     refine ex_then_ret ?_
     refine ex_then_ret ?_
     refine ret2 (.inl rfl) rfl rfl rfl ?_
     exact fun w h => read_none (readF_1n hc15 zz43) skv (h.sub SubC.h .nil)
    ·
     try simp only [decide_eq_true_eq, decide_eq_false_iff_not, Bool.and_eq_true, Bool.or_eq_true, beq_iff_eq, bne_iff_ne, ne_eq, Bool.not_eq_true', Bool.not_eq_false', Decidable.not_not] at hb23
     refine wpl_on rfl rfl <| wpl_q (q_field Tryd.underlying61 rfl Tryd.ti5 rfl rfl _ rfl) rfl <| wpl_on rfl rfl ?_
     refine wpl_q (q_ld Tryd.underlying5 rfl rfl zz34) rfl ?_
     refine wpl_on rfl rfl <| wpl_q (q_pure rfl) rfl <| wpl_q (q_pure rfl) rfl <| wpl_q (q_pure rfl) rfl ?_
     refine wpl_bool2 28 26 rfl rfl (fun hb28 => ?_) (fun hb28 => ?_)
     ·
      try simp only [decide_eq_true_eq, decide_eq_false_iff_not, Bool.and_eq_true, Bool.or_eq_true, beq_iff_eq, bne_iff_ne, ne_eq, Bool.not_eq_true', Bool.not_eq_false', Decidable.not_not] at hb28
      refine wpl_off rfl rfl rfl rfl <| wpl_off rfl rfl rfl rfl <| wpl_off rfl rfl rfl rfl <| wpl_q (q_pure rfl) rfl <| wpl_nil <| ex_then ?_
      refine wpc_cond_t rfl ?_
      refine wpc_seq <| wpc_region <| wpl_q (q_pure rfl) rfl <| wpl_q (q_pure rfl) rfl <| wpl_q (q_pure rfl) rfl <| wpl_nil <| ex_then <| wpc_ret ?_
      refine ex_then_ret ?_
      refine ex_then_ret ?_
      refine ret2 (.inl rfl) rfl rfl rfl ?_
      exact fun w h => read_none (readF_1n hc15 zz43) skv (h.sub SubC.h .nil)
     ·
      try simp only [decide_eq_true_eq, decide_eq_false_iff_not, Bool.and_eq_true, Bool.or_eq_true, beq_iff_eq, bne_iff_ne, ne_eq, Bool.not_eq_true', Bool.not_eq_false', Decidable.not_not] at hb28
      refine wpl_on rfl rfl <| wpl_q (q_field Tryd.underlying61 rfl Tryd.ti59 rfl rfl _ rfl) rfl <| wpl_on rfl rfl ?_
      refine wpl_q (q_ld Tryd.underlying59 rfl rfl (by first | exact v16s_get zz5 | rfl)) rfl ?_
      refine wpl_on rfl rfl ?_
      refine wpl_q (q16_neq (b := (0 : UInt16)) rfl rfl) rfl ?_
      refine wpl_q (q_pure rfl) rfl <| wpl_nil <| ex_then ?_
      refine wpc_cond rfl (fun hc32 => ?_) (fun hc32 => ?_)
      ·
       simp only [Bool.not_eq_true', decide_eq_false_iff_not] at hc32
       refine wpc_seq <| wpc_region <| wpl_q (q_pure rfl) rfl <| wpl_q (q_pure rfl) rfl <| wpl_q (q_pure rfl) rfl <| wpl_nil <| ex_then <| wpc_ret ?_
       refine ex_then_ret ?_
       refine ex_then_ret ?_
       refine ret2 (.inl rfl) rfl rfl rfl ?_
       exact fun w h => read_none (readF_1n hc15 zz43) skv (h.sub SubC.h .nil)
      ·
       simp only [Bool.not_eq_false', decide_eq_true_eq] at hc32
       refine wpc_skip <| ex_then <| wpc_seq <| wpc_region <| wpl_q (q_pure rfl) rfl <| wpl_q (q_field Tryd.underlying61 rfl Tryd.ti25 rfl rfl _ rfl) rfl ?_
       refine wpl_q (q_ld Tryd.underlying25 rfl rfl zz42) rfl ?_
       refine wpl_q (q_field Tryd.underlying61 rfl Tryd.ti5 rfl rfl _ rfl) rfl ?_
       refine wpl_q (q_ld Tryd.underlying5 rfl rfl zz34) rfl ?_
       refine wpl_q (q8_int Tryd.underlying5 Tryd.underlying3 rfl) rfl ?_
       refine wpl_q (q_build (cs := (KE.mk r.id ((r.h.toNat : Nat) : Int) 0 0 0 false).c) rfl (built_key r.id ((r.h.toNat : Nat) : Int))) rfl ?_
       refine wpl_tp (t_bsG [.agg (KE.mk r.id ((r.h.toNat : Nat) : Int) 0 0 0 false).c.toArray] (KE.mk r.id ((r.h.toNat : Nat) : Int) 0 0 0 false).c Tryd.underlying26 Tryd.ti40 rfl zz27 rfl zz27 zz27 rfl (by intro v hv; rw [List.mem_singleton] at hv; subst hv; rfl) (List.append_nil _)) rfl (fun b41 p41 => ?_)
       refine wpl_tp (t_apW Tryd.underlying26 Tryd.ti40 rfl zz27 rfl rfl (fun w h => zz9) (ke_one _) zz1 zz1 (kcs (ks ++ [(KE.mk r.id ((r.h.toNat : Nat) : Int) 0 0 0 false)])) (kcs_snoc _ _)) rfl (fun b42 p42 => ?_)
       refine wpl_q (q_pure rfl) rfl <| wpl_q (q_pure rfl) rfl <| wpl_nil <| ex_then <| wpc_ret ?_
       refine ex_then_ret ?_
       refine ret2 (.inl rfl) rfl rfl rfl ?_
       exact fun w h => read_some (readF_1 hc15 (fun hh => by rcases hh with hh | hh | hh | hh; omega; omega; omega; exact absurd hc32 hh)) (List.length_append) rfl p42 (h.sub SubC.h .nil)
  ·
   simp only [decide_eq_false_iff_not] at hc15
   have hk1 : r.k ≠ 1 := hc15
   refine wpc_skip <| ex_then <| wpc_seq <| wpc_seq ?_
   refine wpc_draw 20 zz6 (fun _ h => h.drew) ?_
   refine wpd_p 0 rfl zz6 trivial (q_pure rfl) rfl sk0 ?_
   refine wpd_p 1 rfl zz6 trivial (q_pure rfl) rfl sk0 ?_
   refine wpd_p 2 rfl zz6 trivial (q_pure rfl) rfl sk0 ?_
   refine wpd_bool2 45 44 rfl rfl (fun hb45 => ?_) (fun hb45 => ?_)
   ·
    simp only [decide_eq_true_eq] at hb45
    have hnn := readF_0n hk1 hb45
    refine wpd_off 3 rfl zz6 ⟨_, _, rfl, rfl, rfl⟩ rfl sk0 ?_
    refine wpd_off 4 rfl zz6 ⟨_, _, rfl, rfl, rfl⟩ rfl sk0 ?_
    refine wpd_off 5 rfl zz6 ⟨_, _, rfl, rfl, rfl⟩ rfl sk0 ?_
    refine wpd_off 6 rfl zz6 ⟨_, _, rfl, rfl, rfl⟩ rfl sk0 ?_
    refine wpd_off 7 rfl zz6 ⟨_, _, rfl, rfl, rfl⟩ rfl sk0 ?_
    refine wpd_p 8 rfl zz6 trivial (q_pure rfl) rfl sk0 ?_
    refine wpd_p 9 rfl zz6 trivial (q_pure rfl) rfl sk0 ?_
    refine wpd_off 10 rfl zz6 ⟨_, _, rfl, rfl, rfl⟩ rfl sk0 ?_
    refine wpd_off 11 rfl zz6 ⟨_, _, rfl, rfl, rfl⟩ rfl sk0 ?_
    refine wpd_off 12 rfl zz6 ⟨_, _, rfl, rfl, rfl⟩ rfl sk0 ?_
    refine wpd_off 13 rfl zz6 ⟨_, _, rfl, rfl, rfl⟩ rfl sk0 ?_
    refine wpd_off 14 rfl zz6 ⟨_, _, rfl, rfl, rfl⟩ rfl sk0 ?_
    refine wpd_off 15 rfl zz6 ⟨_, _, rfl, rfl, rfl⟩ rfl sk0 ?_
    refine wpd_off 16 rfl zz6 ⟨_, _, rfl, rfl, rfl⟩ rfl sk0 ?_
    refine wpd_off 17 rfl zz6 ⟨_, _, rfl, rfl, rfl⟩ rfl sk0 ?_
    refine wpd_off 18 rfl zz6 ⟨_, _, rfl, rfl, rfl⟩ rfl sk0 ?_
    refine wpd_p 19 rfl zz6 trivial (q_pure rfl) rfl sk0 ?_
    refine wpd_done zz6 ?_
    refine ex_then ?_
    refine wpc_cond_t rfl ?_
    refine wpc_seq <| wpc_region <| wpl_q (q_pure rfl) rfl <| wpl_q (q_pure rfl) rfl <| wpl_q (q_pure rfl) rfl <| wpl_nil <| ex_then <| wpc_ret ?_
    refine ex_then_ret ?_
    refine ret2 (.inl rfl) rfl rfl rfl ?_
    exact fun w h => read_none hnn skv (h.sub SubC.h .nil)
   ·
    simp only [decide_eq_false_iff_not] at hb45
    obtain ⟨j, hjl, hej⟩ : ∃ j, j < ks.length ∧ placeF ks r.id = (j : Int) := by
      rcases idxF_spec (isId r.id) KE.z ks with ⟨e, _⟩ | ⟨j, h1, h2, _⟩
      · exact absurd (show placeF ks r.id < 0 by rw [placeF, e]; decide) hb45
      · exact ⟨j, h1, h2⟩
    have hgo := hko.get hjl
    refine wpd_re 6 rfl (congrArg (Value.int .i64) hej) ?_
    refine wpd_p 3 rfl zz6 ⟨_, rfl, rfl⟩ (q_pure rfl) rfl sk0 ?_
    refine wpd_p 4 rfl zz6 ⟨_, rfl, rfl⟩ (q_pure rfl) rfl sk0 ?_
    refine wpd_p 5 rfl zz6 ⟨_, rfl, rfl⟩ (q_idxW Tryd.underlying26 Tryd.ti40 rfl rfl zz3 zz1) rfl sk0 ?_
    refine wpd_p 6 rfl zz6 ⟨_, rfl, rfl⟩ (q_fieldPo 5 Tryd.underlying40 rfl Tryd.ti4 rfl rfl rfl) rfl sk0 ?_
    refine wpd_q 7 rfl zz6 ⟨_, rfl, rfl⟩ (q_ldWF Tryd.underlying4 rfl rfl (fun w h => zz9) (kcs_get hjl rfl)) rfl (fun _ h => h) ?_
    refine wpd_p 8 rfl zz6 trivial (q_pure rfl) rfl sk0 ?_
    refine wpd_p 9 rfl zz6 trivial (q_pure rfl) rfl sk0 ?_
    refine wpd_bool2 52 50 rfl rfl (fun hb52 => ?_) (fun hb52 => ?_)
    ·
     refine wpd_off 10 rfl zz6 ⟨_, _, rfl, rfl, rfl⟩ rfl sk0 ?_
     refine wpd_off 11 rfl zz6 ⟨_, _, rfl, rfl, rfl⟩ rfl sk0 ?_
     refine wpd_off 12 rfl zz6 ⟨_, _, rfl, rfl, rfl⟩ rfl sk0 ?_
     refine wpd_off 13 rfl zz6 ⟨_, _, rfl, rfl, rfl⟩ rfl sk0 ?_
     refine wpd_off 14 rfl zz6 ⟨_, _, rfl, rfl, rfl⟩ rfl sk0 ?_
     refine wpd_off 15 rfl zz6 ⟨_, _, rfl, rfl, rfl⟩ rfl sk0 ?_
     refine wpd_off 16 rfl zz6 ⟨_, _, rfl, rfl, rfl⟩ rfl sk0 ?_
     refine wpd_off 17 rfl zz6 ⟨_, _, rfl, rfl, rfl⟩ rfl sk0 ?_
     refine wpd_off 18 rfl zz6 ⟨_, _, rfl, rfl, rfl⟩ rfl sk0 ?_
     refine wpd_p 19 rfl zz6 trivial (q_pure rfl) rfl sk0 ?_
     refine wpd_done zz6 ?_
     refine ex_then ?_
     refine wpc_cond_t rfl ?_
     refine wpc_seq <| wpc_region <| wpl_q (q_pure rfl) rfl <| wpl_q (q_pure rfl) rfl <| wpl_q (q_pure rfl) rfl <| wpl_nil <| ex_then <| wpc_ret ?_
     refine ex_then_ret ?_
     refine ret2 (.inl rfl) rfl rfl rfl ?_
     exact fun w h => read_none (by rw [readF_j hk1 hej]; rw [if_pos (.inl hb52)]) skv (h.sub SubC.h .nil)
    ·
     refine wpd_p 10 rfl zz6 ⟨_, rfl, rfl⟩ (q_pure rfl) rfl sk0 ?_
     refine wpd_p 11 rfl zz6 ⟨_, rfl, rfl⟩ (q_pure rfl) rfl sk0 ?_
     refine wpd_p 12 rfl zz6 ⟨_, rfl, rfl⟩ (q_idxW Tryd.underlying26 Tryd.ti40 rfl rfl zz3 zz1) rfl sk0 ?_
     refine wpd_p 13 rfl zz6 ⟨_, rfl, rfl⟩ (q_fieldPo 1 Tryd.underlying40 rfl Tryd.ti3 rfl rfl rfl) rfl sk0 ?_
     refine wpd_q 14 rfl zz6 ⟨_, rfl, rfl⟩ (q_ldWF Tryd.underlying3 rfl rfl (fun w h => zz9) (kcs_get hjl rfl)) rfl (fun _ h => h) ?_
     refine wpd_p 15 rfl zz6 ⟨_, rfl, rfl⟩ (q_field Tryd.underlying61 rfl Tryd.ti5 rfl rfl _ rfl) rfl sk0 ?_
     refine wpd_q 16 rfl zz6 ⟨_, rfl, rfl⟩ (q_ld Tryd.underlying5 rfl rfl zz34) rfl (fun _ h => h) ?_
     refine wpd_p 17 rfl zz6 ⟨_, rfl, rfl⟩ (q8_int Tryd.underlying5 Tryd.underlying3 rfl) rfl sk0 ?_
     refine wpd_p 18 rfl zz6 ⟨_, rfl, rfl⟩ (q_pure rfl) rfl sk0 ?_
     refine wpd_p 19 rfl zz6 trivial (q_pure rfl) rfl sk0 ?_
     refine wpd_done zz6 ?_
     refine ex_then ?_
     refine wpc_cond rfl (fun hc62 => ?_) (fun hc62 => ?_)
     ·
      simp only [bne_iff_ne, ne_eq] at hc62
      refine wpc_seq <| wpc_region <| wpl_q (q_pure rfl) rfl <| wpl_q (q_pure rfl) rfl <| wpl_q (q_pure rfl) rfl <| wpl_nil <| ex_then <| wpc_ret ?_
      refine ex_then_ret ?_
      refine ret2 (.inl rfl) rfl rfl rfl ?_
      exact fun w h => read_none (by rw [readF_j hk1 hej]; rw [if_pos (.inr hc62)]) skv (h.sub SubC.h .nil)
     ·
      simp only [bne_eq_false_iff_eq] at hc62
      have hht : (ks.getD j KE.z).ht = ((r.h.toNat : Nat) : Int) := hc62
      have hdr : (ks.getD j KE.z).dr = false := hb52
      have hh4 : r.h.toNat ≤ 4 := by omega
      have hpw := pow_le hh4
      have hvl := r.v.toNat_lt
      have hng : ¬ ((ks.getD j KE.z).dr = true ∨ (ks.getD j KE.z).ht ≠ ((r.h.toNat : Nat) : Int)) := fun hh => by rcases hh with hh | hh; rw [hdr] at hh; cases hh; exact hh hht
      refine wpc_skip <| ex_then <| wpc_seq ?_
      refine wpc_draw 8 zz6 (fun _ h => h.drew) ?_
      refine wpd_p 0 rfl zz6 trivial (q_pure rfl) rfl sk0 ?_
      refine wpd_p 1 rfl zz6 trivial (q_pure rfl) rfl sk0 ?_
      refine wpd_p 2 rfl zz6 trivial (q_idxW Tryd.underlying26 Tryd.ti40 rfl rfl zz3 zz1) rfl sk0 ?_
      refine wpd_p 3 rfl zz6 trivial (q_field Tryd.underlying61 rfl Tryd.ti59 rfl rfl _ rfl) rfl sk0 ?_
      refine wpd_q 4 rfl zz6 trivial (q_ld Tryd.underlying59 rfl rfl (by first | exact v16s_get zz5 | rfl)) rfl (fun _ h => h) ?_
      refine wpd_p 5 rfl zz6 trivial (q16_int Tryd.underlying59 Tryd.underlying3 rfl) rfl sk0 ?_
      refine wpd_p 6 rfl zz6 trivial (q_pure rfl) rfl sk0 ?_
      refine wpd_p 7 rfl zz6 trivial (q_pure rfl) rfl sk0 ?_
      refine wpd_done zz6 ?_
      refine ex_then <| wpc_seq <| wpc_seq <| wpc_region <| wpl_q (q_field Tryd.underlying61 rfl Tryd.ti5 rfl rfl _ rfl) rfl ?_
      refine wpl_q (q_ld Tryd.underlying5 rfl rfl zz34) rfl ?_
      refine wpl_nil <| ex_then <| wpc_block <| wpc_seq <| wpc_region ?_
      refine wpl_q (q8_eql (b := (2 : UInt8)) rfl rfl) rfl ?_
      refine wpl_q (q_pure rfl) rfl <| wpl_nil <| ex_then ?_
      refine wpc_cond rfl (fun hc73 => ?_) (fun hc73 => ?_)
      ·
       simp only [decide_eq_true_eq] at hc73
       refine wpc_seq <| wpc_seq <| wpc_region <| wpl_q (q_pure rfl) rfl <| wpl_q (q_pure rfl) rfl <| wpl_q (q_pure rfl) rfl <| wpl_q (q_fieldPo 4 Tryd.underlying40 rfl Tryd.ti3 rfl rfl rfl) rfl ?_
       refine wpl_q (q_ldWF Tryd.underlying3 rfl rfl (fun w h => zz9) (kcs_get hjl rfl)) rfl ?_
       refine wpl_q (q_pure rfl) rfl <| wpl_q (q_pure rfl) rfl ?_
       refine wpl_bool2 81 80 rfl rfl (fun hb81 => ?_) (fun hb81 => ?_)
       ·
        try simp only [decide_eq_true_eq] at hb81
        refine wpl_off rfl rfl rfl rfl <| wpl_off rfl rfl rfl rfl <| wpl_off rfl rfl rfl rfl <| wpl_off rfl rfl rfl rfl <| wpl_off rfl rfl rfl rfl <| wpl_off rfl rfl rfl rfl <| wpl_off rfl rfl rfl rfl <| wpl_q (q_pure rfl) rfl <| wpl_nil <| ex_then ?_
        refine wpc_cond_t rfl ?_
        refine wpc_seq <| wpc_region <| wpl_q (q_pure rfl) rfl <| wpl_q (q_pure rfl) rfl <| wpl_q (q_pure rfl) rfl <| wpl_nil <| ex_then <| wpc_ret ?_
        refine ex_then_ret ?_
        refine ex_block_ret ?_
        refine ex_then_ret ?_
        refine ret2 (.inl rfl) rfl rfl rfl ?_
        exact fun w h => read_none (by rw [readF_j hk1 hej]; rw [if_neg hng, if_pos hc73, if_pos (by first | (exact .inl zz16) | (exact .inr zz16))]) skv (h.sub SubC.h .nil)
       ·
        try simp only [decide_eq_false_iff_not] at hb81
        refine wpl_on rfl rfl <| wpl_q (q_pure rfl) rfl <| wpl_on rfl rfl <| wpl_q (q_pure rfl) rfl <| wpl_on rfl rfl <| wpl_q (q_pure rfl) rfl <| wpl_on rfl rfl <| wpl_q (q_fieldPo 1 Tryd.underlying40 rfl Tryd.ti3 rfl rfl rfl) rfl <| wpl_on rfl rfl ?_
        refine wpl_q (q_ldWF Tryd.underlying3 rfl rfl (fun w h => zz9) (kcs_get hjl rfl)) rfl ?_
        refine wpl_re 86 rfl (congrArg (Value.int .i64) hht) ?_
        refine wpl_on rfl rfl ?_
        refine wpl_q (q_shlN (a := 1) rfl rfl zz32 zz16) rfl ?_
        refine wpl_on rfl rfl <| wpl_q (q_pure rfl) rfl <| wpl_q (q_pure rfl) rfl <| wpl_nil <| ex_then ?_
        refine wpc_cond rfl (fun hc89 => ?_) (fun hc89 => ?_)
        ·
         simp only [decide_eq_true_eq] at hc89
         refine wpc_seq <| wpc_region <| wpl_q (q_pure rfl) rfl <| wpl_q (q_pure rfl) rfl <| wpl_q (q_pure rfl) rfl <| wpl_nil <| ex_then <| wpc_ret ?_
         refine ex_then_ret ?_
         refine ex_block_ret ?_
         refine ex_then_ret ?_
         refine ret2 (.inl rfl) rfl rfl rfl ?_
         exact fun w h => read_none (by rw [readF_j hk1 hej]; rw [if_neg hng, if_pos hc73, if_pos (by first | (exact .inl zz16) | (exact .inr zz16))]) skv (h.sub SubC.h .nil)
        ·
         simp only [decide_eq_false_iff_not] at hc89
         refine wpc_skip <| ex_then <| wpc_region <| wpl_q (q_pure rfl) rfl <| wpl_q (q_pure rfl) rfl <| wpl_q (q_pure rfl) rfl <| wpl_q (q_pure rfl) rfl <| wpl_q (q_pure rfl) rfl <| wpl_q (q_pure rfl) rfl <| wpl_q (q_pure rfl) rfl <| wpl_q (q_fieldPo 2 Tryd.underlying40 rfl Tryd.ti3 rfl rfl rfl) rfl ?_
         refine wpl_t0 (t_stWF Tryd.ti3 rfl rfl rfl (by (try simp only [List.length_set]); omega) _ rfl) (fun _ => ?_)
         refine wpl_q (q_pure rfl) rfl <| wpl_q (q_fieldPo 3 Tryd.underlying40 rfl Tryd.ti3 rfl rfl rfl) rfl ?_
         refine wpl_t0 (t_stWF Tryd.ti3 rfl rfl rfl (by (try simp only [List.length_set]); omega) _ rfl) (fun _ => ?_)
         refine wpl_q (q_pure rfl) rfl <| wpl_q (q_fieldPo 4 Tryd.underlying40 rfl Tryd.ti3 rfl rfl rfl) rfl ?_
         refine wpl_t0 (t_stWF Tryd.ti3 rfl rfl rfl (by (try simp only [List.length_set]); omega) _ rfl) (fun _ => ?_)
         refine wpl_nil <| ex_block <| ex_then <| wpc_seq <| wpc_region <| wpl_q (q_pure rfl) rfl <| wpl_q (q_pure rfl) rfl <| wpl_q (q_pure rfl) rfl <| wpl_nil <| ex_then <| wpc_ret ?_
         refine ret2 (.inl rfl) rfl rfl rfl ?_
         exact fun w h => read_some (by rw [readF_j hk1 hej, if_neg hng, if_pos hc73, if_neg (fun hh => by rcases hh with hh | hh <;> omega)]) List.length_set (kcs_upd _ hjl) skv (h.sub SubC.h .nil)
      ·
       simp only [decide_eq_false_iff_not] at hc73
       refine wpc_seq <| wpc_region ?_
       refine wpl_q (q8_eql (b := (3 : UInt8)) rfl rfl) rfl ?_
       refine wpl_q (q_pure rfl) rfl <| wpl_nil <| ex_then ?_
       refine wpc_cond rfl (fun hc103 => ?_) (fun hc103 => ?_)
       ·
        simp only [decide_eq_true_eq] at hc103
        refine wpc_seq <| wpc_seq <| wpc_region <| wpl_q (q_pure rfl) rfl <| wpl_q (q_pure rfl) rfl <| wpl_q (q_pure rfl) rfl <| wpl_q (q_fieldPo 4 Tryd.underlying40 rfl Tryd.ti3 rfl rfl rfl) rfl ?_
        refine wpl_q (q_ldWF Tryd.underlying3 rfl rfl (fun w h => zz9) (kcs_get hjl rfl)) rfl ?_
        refine wpl_q (q_pure rfl) rfl <| wpl_nil <| ex_then ?_
        refine wpc_cond rfl (fun hc110 => ?_) (fun hc110 => ?_)
        ·
         simp only [bne_iff_ne, ne_eq] at hc110
         refine wpc_seq <| wpc_region <| wpl_q (q_pure rfl) rfl <| wpl_q (q_pure rfl) rfl <| wpl_q (q_pure rfl) rfl <| wpl_nil <| ex_then <| wpc_ret ?_
         refine ex_then_ret ?_
         refine ex_block_ret ?_
         refine ex_then_ret ?_
         refine ret2 (.inl rfl) rfl rfl rfl ?_
         exact fun w h => read_none (by rw [readF_j hk1 hej]; rw [if_neg hng, if_neg hc73, if_pos hc103, if_pos hc110]) skv (h.sub SubC.h .nil)
        ·
         simp only [bne_eq_false_iff_eq] at hc110
         refine wpc_skip <| ex_then <| wpc_region <| wpl_q (q_pure rfl) rfl <| wpl_q (q_pure rfl) rfl <| wpl_q (q_fieldPo 5 Tryd.underlying40 rfl Tryd.ti4 rfl rfl rfl) rfl ?_
         refine wpl_t0 (t_stWF Tryd.ti4 rfl rfl rfl (by (try simp only [List.length_set]); omega) _ rfl) (fun _ => ?_)
         refine wpl_nil <| ex_block <| ex_then <| wpc_seq <| wpc_region <| wpl_q (q_pure rfl) rfl <| wpl_q (q_pure rfl) rfl <| wpl_q (q_pure rfl) rfl <| wpl_nil <| ex_then <| wpc_ret ?_
         refine ret2 (.inl rfl) rfl rfl rfl ?_
         exact fun w h => read_some (by rw [readF_j hk1 hej, if_neg hng, if_neg hc73, if_pos hc103, if_neg (fun hh => hh hc110)]) List.length_set (kcs_drp hjl) skv (h.sub SubC.h .nil)
       ·
        simp only [decide_eq_false_iff_not] at hc103
        refine wpc_seq <| wpc_region <| wpl_q (q_pure rfl) rfl <| wpl_q (q_pure rfl) rfl <| wpl_q (q_pure rfl) rfl <| wpl_nil <| ex_then <| wpc_ret ?_
        refine ex_block_ret ?_
        refine ex_then_ret ?_
        refine ret2 (.inl rfl) rfl rfl rfl ?_
        exact fun w h => read_none (by rw [readF_j hk1 hej]; rw [if_neg hng, if_neg hc73, if_neg hc103]) skv (h.sub SubC.h .nil)
end Go.Proofs.YtoaeklbenmlooaaDoor
namespace Go.Proofs.YtoaeklbenmlooaaDoor
open Go Go.PL Go.RowKit
def accK (rs : List Rec) : Option (List KE) := rs.foldl (fun o r => o.bind fun ks => readF ks r) (some [])
theorem accK_snoc {pre : List Rec} {ks : List KE} (h : accK pre = some ks) (r : Rec) : accK (pre ++ [r]) = readF ks r := by
  unfold accK at *
  rw [List.foldl_append, h]; rfl
theorem scan_splitG : ∀ (pre : List Rec) (k0 ks : List KE) (rs : List Rec), pre.foldl (fun o r => o.bind fun ks => readF ks r) (some k0) = some ks → scanF k0 (pre ++ rs) = ((scanF ks rs).1, (scanF ks rs).2 + 10 * pre.length)
  | [], k0, ks, rs, h => by cases h; rfl
  | r :: pre, k0, ks, rs, h => by
    rw [List.foldl_cons] at h
    rw [List.cons_append, scanF]
    cases hr : readF k0 r with
    | none =>
      rw [show (some k0).bind (fun ks => readF ks r) = none from hr] at h
      have : ∀ l : List Rec, l.foldl (fun o r => o.bind fun ks => readF ks r) (none : Option (List KE)) = none := fun l => by induction l with
        | nil => rfl
        | cons a l ih => exact ih
      rw [this] at h; cases h
    | some k' =>
      rw [show (some k0).bind (fun ks => readF ks r) = some k' from hr] at h
      have h1 := scan_splitG pre k' ks rs h
      dsimp only
      rw [h1, List.length_cons]
      simp only [Prod.mk.injEq, true_and]; omega
theorem scan_split {pre : List Rec} {ks : List KE} (h : accK pre = some ks) (rs : List Rec) : scanF [] (pre ++ rs) = ((scanF ks rs).1, (scanF ks rs).2 + 10 * pre.length) := scan_splitG pre [] ks rs h
theorem scan_all {bs : List UInt8} {ks : List KE} (h : accK (recs bs) = some ks) : scanR bs = (ks, 10 * (recs bs).length) := by
  have := scan_split h []
  rw [List.append_nil, scanF] at this
  rw [scanR, this]; simp
theorem scan_stop {bs : List UInt8} {pre : List Rec} {x : Rec} {ks : List KE} (h : accK pre = some ks) (hn : readF ks x = none) (hp : (pre ++ [x]) <+: recs bs) : scanR bs = (ks, 10 * pre.length) := by
  obtain ⟨t, ht⟩ := hp
  rw [List.append_assoc] at ht
  rw [scanR, ← ht, scan_split h, List.singleton_append, scanF, hn]; simp
theorem accK_okG : ∀ (pre : List Rec) (k0 ks : List KE), KOk k0 → pre.foldl (fun o r => o.bind fun ks => readF ks r) (some k0) = some ks → KOk ks
  | [], k0, ks, h0, h => by cases h; exact h0
  | r :: pre, k0, ks, h0, h => by
    rw [List.foldl_cons] at h
    cases hr : readF k0 r with
    | none =>
      rw [show (some k0).bind (fun ks => readF ks r) = none from hr] at h
      have : ∀ l : List Rec, l.foldl (fun o r => o.bind fun ks => readF ks r) (none : Option (List KE)) = none := fun l => by induction l with
        | nil => rfl
        | cons a l ih => exact ih
      rw [this] at h; cases h
    | some k' =>
      rw [show (some k0).bind (fun ks => readF ks r) = some k' from hr] at h
      exact accK_okG pre k' ks (h0.read hr) h
theorem accK_ok {pre : List Rec} {ks : List KE} (h : accK pre = some ks) : KOk ks := accK_okG pre [] ks KOk.nil h
theorem recs_it (bv : Value) (bs : List UInt8) (pb : Nat) (w : World) (hpb : w.heap[pb]? = some (.cells #[bv] 22 (0, 0))) : IterStop Tryd.prog 33 #[.pointer (some ⟨pb, 0, none⟩)] encR AtR (fun w => Seen w.cell? bv bs.length 1 (v8s bs)) (recs bs) [pb] w :=
  fun l J K hst hinv hsk hy hJ0 => recsIter l pb bv bs J K w hst hinv hsk hy hJ0 hpb
abbrev scM (b3 b2 : Nat) (s : Value × List KE × Nat) : List Ent := [.blk b3 3 [.int .i64 ((s.2.2 : Nat) : Int)], .blk b2 26 [s.1], kRow s.1 s.2.1]
theorem sc_start {w0 w : World} {b8 b3 b2 : Nat} {bv : Value} (h : Mem w0 [] [.blk b8 22 [bv], .blk b3 3 [.int .i64 0], .blk b2 26 [.slice none 0 0]] [] w) : Mem w0 [] ([.blk b8 22 [bv]] ++ scM b3 b2 (.slice none 0 0, [], 0)) [] w :=
  (h.nilRow 40 6).perm (List.perm_append_comm (l₁ := [kRow (.slice none 0 0) []]) (l₂ := [.blk b8 22 [bv], .blk b3 3 [.int .i64 0], .blk b2 26 [.slice none 0 0]]))
def scG (pre : List Rec) (s : Value × List KE × Nat) : Prop := SV s.1 s.2.1.length ∧ accK pre = some s.2.1 ∧ s.2.2 = 10 * pre.length
theorem scan (bv : Value) (bs : List UInt8) (w : World) (hbv : Seen w.cell? bv bs.length 1 (v8s bs))  :
    Calls Tryd.prog 5 [bv].toArray w (GivesP w (fun v => SV v (scanR bs).1.length) (fun v => .tuple #[v, .int .i64 (((scanR bs).2 : Nat) : Int)]) (fun v => [kRow v (scanR bs).1]) (fun _ => [])) := by
  have sbv := hbv.sv
  have lbv := sbv.le
  simp only [maxLen] at lbv
  refine enterN (m := 23) (R := Mem w [] [] []) Tryd.func5 rfl rfl (Nat.le_of_ble_eq_true rfl) (Mem.start w) ?_
  refine wpc_seq <| wpc_region ?_
  refine wpl_t (t_alloc Tryd.ti26 _ rfl) rfl (fun b2 => ?_)
  refine wpl_t (t_alloc Tryd.ti3 _ rfl) rfl (fun b3 => ?_)
  refine wpl_nil <| ex_then <| wpc_seq <| wpc_seq <| wpc_region <| wpl_q (q_pure rfl) rfl ?_
  refine wpl_t (t_call (N := fun pb => [.blk pb 22 [bv]]) (T := fun _ => []) Tryd.hb18 rfl fun w h => records bv bs w zz15) rfl (fun b8 => ?_)
  refine wpl_nil <| ex_then <| wpc_block ?_
  refine wpc_mono (R' := Mem w [] ([.blk b8 22 [bv]] ++ scM b3 b2 (.slice none 0 0, [], 0)) []) (fun w h => sc_start h) ?_
  refine wpc_rangeS (encs := encR) (At := AtR) (Inv := (fun w => Seen w.cell? bv bs.length 1 (v8s bs))) (xs := recs bs) (ρ := Value × List KE × Nat) (β := Nat) [.blk b8 22 [bv]] (scM b3 b2) scG (.slice none 0 0, [], 0) (fun r => SV r.1 r.2.1.length ∧ scanR bs = (r.2.1, r.2.2)) (fun _ => .exit 0) (scM b3 b2) (fun x _ b => [.blk b 61 x.c]) (fun x i b => [(4, .pointer (some ⟨b, 0, none⟩)), (2, .pointer (some ⟨b2, 0, none⟩)), (3, .pointer (some ⟨b3, 0, none⟩))]) rfl Tryd.hb33 ⟨SV.nil, rfl, rfl⟩ (fun w h k hk => by rw [show k = b8 by simpa [nums, Ent.num] using hk]; exact (h.new (.blk b8 22 [bv]) zz50 b8 rfl).resolve_right zz50) (fun w h => recs_it bv bs b8 w (h.own (.blk b8 22 [bv]) zz50)) (fun _ _ _ _ h => h.seen_old hbv) (fun _ _ _ _ _ _ _ => trivial) (fun _ _ => rfl) zz27 ?_ ?_ ?_ ?_
  ·
   intro l x i w1 K hK
   refine wic_region ?_
   refine wil_t (t_alloc Tryd.ti61 _ rfl) rfl (fun b4 => ?_)
   refine wil_t0 (t_stA Tryd.ti61 rfl rfl zz0 (rec_one _) zz0) (fun _ => ?_)
   refine wil_nil ?_
   exact fun a w hs h => hK b4 a w (hs.weaken (subs_get zz14)) h
  ·
   intro l pre x i s b w1 T hgs hpre hm hat hT
   obtain ⟨v, ks, m⟩ := s
   obtain ⟨hg1, hg2, hg3⟩ := hgs
   have hg1 : SV v ks.length := hg1
   have hg2 : accK pre = some ks := hg2
   have hg3 : m = 10 * pre.length := hg3
   have hko := accK_ok hg2
   have hrl := recs_le bs.length bs
   have hpl : (pre ++ [x]).length ≤ (recs bs).length := hpre.length_le
   rw [List.length_append, List.length_singleton] at hpl
   have hrl : 10 * (recs bs).length ≤ bs.length := hrl
   show WPCI _ _ _ _ (Mem w1 (nums [.blk b 61 x.c, .blk b3 3 [.int .i64 ((m : Nat) : Int)], .blk b2 26 [v], kRow v ks]) [.blk b 61 x.c, .blk b3 3 [.int .i64 ((m : Nat) : Int)], .blk b2 26 [v], kRow v ks] []) _ _
   refine wic_block ?_
   refine wic_seq ?_
   refine wic_region ?_
   refine wil_q (q_ld Tryd.underlying26 rfl rfl rfl) rfl ?_
   refine wil_q (q_ldN Tryd.underlying61 rfl Tryd.ti61 rfl zz0) rfl ?_
   refine wil_tp (t_callS [.blk b 61 x.c, .blk b3 3 [.int .i64 ((m : Nat) : Int)], .blk b2 26 [v]] [kRow v ks] (fun v2 => [.blk b 61 x.c, .blk b3 3 [.int .i64 ((m : Nat) : Int)], .blk b2 26 [v], kRow v2 (readK ks x)]) rfl (fun _ => rfl) Tryd.hb19 rfl fun w2 h h2 => read_ v ks x w2 h2 hg1 hko) rfl (fun b13 p13 => ?_)
   refine wil_q (q_pure rfl) rfl ?_
   refine wil_q (q_pure rfl) rfl ?_
   refine wil_q (q_pure rfl) rfl ?_
   refine wil_q (q_pure rfl) rfl ?_
   refine wil_q (q_pure rfl) rfl ?_
   refine wil_nil ?_
   refine eix_then ?_
   refine wic_seq ?_
   refine wic_seq ?_
   refine wic_region ?_
   refine wil_q (q_pure rfl) rfl ?_
   refine wil_q (q_pure rfl) rfl ?_
   refine wil_nil ?_
   refine eix_then ?_
   refine wic_cond rfl (fun hc17 => ?_) (fun hc17 => ?_)
   ·
    have hnn : readF ks x = none := by simpa using hc17
    obtain rfl := p13.2 hnn
    have hkk : readK ks x = ks := by rw [readK, hnn]; rfl
    rw [hkk]
    refine wic_exit ?_
    refine ex_then_exit ?_
    refine ex_block_miss rfl ?_
    refine ex_roundE ?_
    exact fun w h => ⟨(b13, ks, m), ⟨hg1, by rw [hg3]; exact scan_stop hg2 hnn hpre⟩, rfl, h.sub zz8 .nil⟩
   ·
    obtain ⟨k', hk'⟩ : ∃ k', readF ks x = some k' := Option.isSome_iff_exists.1 (by simpa using hc17)
    have hsm : readF ks x = some (readK ks x) := by rw [readK, hk']; rfl
    refine wic_skip ?_
    refine eix_then ?_
    refine wic_drawM [.blk b3 3 [.int .i64 ((m : Nat) : Int)]] 4 zz6 zz8 ?_
    refine wid_p 0 rfl zz6 trivial (q_pure rfl) rfl (fun w h => .inr (h.sub SubC.h SubC.h)) ?_
    refine wid_q 1 rfl zz6 trivial (q_ld Tryd.underlying3 rfl rfl zz38) rfl (fun w h => h.sub SubC.h SubC.h) ?_
    refine wid_p 2 rfl zz6 trivial (q_addN (b := 10) rfl rfl zz1) rfl (fun w h => .inr (h.sub SubC.h SubC.h)) ?_
    refine wid_t0 3 rfl zz6 trivial (t_st1 Tryd.ti26 rfl rfl (SV.one (show SV b13 _ from p13.1)) zz5 _ rfl) (fun _ => (fun w h => .inr (h.sub SubC.h SubC.h))) (fun _ => ?_)
    refine wid_t0 4 rfl zz6 trivial (t_st1 Tryd.ti3 rfl rfl rfl zz5 _ (by first | exact vns_set _ | rfl)) (fun _ => skk rfl) (fun _ => ?_)
    refine wid_done zz6 ?_
    refine ex_block ?_
    refine ex_roundN ?_
    exact fun w h => ⟨(b13, readK ks x, m + 10), ⟨p13.1, by rw [accK_snoc hg2, hsm], by show m + 10 = 10 * (pre ++ [x]).length; rw [List.length_append, List.length_singleton]; omega⟩, h.sub zz8 .nil⟩
  ·
   intro D s hgs
   obtain ⟨v, ks, m⟩ := s
   obtain ⟨hg1, hg2, hg3⟩ := hgs
   have hg1 : SV v ks.length := hg1
   have hg2 : accK (recs bs) = some ks := hg2
   have hg3 : m = 10 * (recs bs).length := hg3
   have hsc : scanR bs = (ks, m) := by rw [hg3]; exact scan_all hg2
   refine ex_weaken (R1 := Mem w [] [.obj D (.deferred (some [])), .blk b3 3 [.int .i64 ((m : Nat) : Int)], .blk b2 26 [v], kRow v ks] []) (L1 := [(2, .pointer (some ⟨b2, 0, none⟩)), (3, .pointer (some ⟨b3, 0, none⟩))]) zz14 (fun w h => h) ?_
   refine ex_block <| ex_then <| wpc_seq ?_
   refine wpc_draw 3 zz6 (fun _ h => h.drew) ?_
   refine wpd_q 0 rfl zz6 trivial (q_ld Tryd.underlying26 rfl rfl rfl) rfl (fun _ h => h) ?_
   refine wpd_q 1 rfl zz6 trivial (q_ld Tryd.underlying3 rfl rfl zz38) rfl (fun _ h => h) ?_
   refine wpd_t0 2 rfl zz6 trivial (t_st1 Tryd.ti26 rfl rfl (SV.one hg1) zz5 [v] rfl) (fun _ => (fun w h => .inr (h.sub SubC.h SubC.h))) (fun _ => ?_)
   refine wpd_t0 3 rfl zz6 trivial (t_st1 Tryd.ti3 rfl rfl rfl zz5 [.int .i64 ((m : Nat) : Int)] rfl) (fun _ => skk rfl) (fun _ => ?_)
   refine wpd_done zz6 ?_
   refine ex_then <| wpc_ret ?_
   refine ex_markN (.inl rfl) .here ?_
   refine retv2 (.inl rfl) rfl (rv_one Tryd.underlying26 rfl rfl (fun w h => h.cell_blk zz7 rfl)) (rv_one Tryd.underlying3 rfl rfl (fun w h => h.cell_blk zz7 rfl)) ?_
   exact fun w h => ⟨v, by rw [hsc]; exact hg1, by rw [hsc], h.below, by rw [hsc]; exact h.made SubC.h .nil⟩
  ·
   intro D r hr
   obtain ⟨v, ks, m⟩ := r
   obtain ⟨hg1, hsc⟩ := hr
   have hg1 : SV v ks.length := hg1
   have hsc : scanR bs = (ks, m) := hsc
   refine wpc_weaken (R1 := Mem w [] [.obj D (.deferred (some [])), .blk b3 3 [.int .i64 ((m : Nat) : Int)], .blk b2 26 [v], kRow v ks] []) (L1 := [(2, .pointer (some ⟨b2, 0, none⟩)), (3, .pointer (some ⟨b3, 0, none⟩))]) zz14 (fun w h => h) ?_
   refine wpc_exit ?_
   refine ex_block_hit ?_
   refine ex_then <| wpc_seq ?_
   refine wpc_draw 3 zz6 (fun _ h => h.drew) ?_
   refine wpd_q 0 rfl zz6 trivial (q_ld Tryd.underlying26 rfl rfl rfl) rfl (fun _ h => h) ?_
   refine wpd_q 1 rfl zz6 trivial (q_ld Tryd.underlying3 rfl rfl zz38) rfl (fun _ h => h) ?_
   refine wpd_t0 2 rfl zz6 trivial (t_st1 Tryd.ti26 rfl rfl (SV.one hg1) zz5 [v] rfl) (fun _ => (fun w h => .inr (h.sub SubC.h SubC.h))) (fun _ => ?_)
   refine wpd_t0 3 rfl zz6 trivial (t_st1 Tryd.ti3 rfl rfl rfl zz5 [.int .i64 ((m : Nat) : Int)] rfl) (fun _ => skk rfl) (fun _ => ?_)
   refine wpd_done zz6 ?_
   refine ex_then <| wpc_ret ?_
   refine ex_markN (.inl rfl) .here ?_
   refine retv2 (.inl rfl) rfl (rv_one Tryd.underlying26 rfl rfl (fun w h => h.cell_blk zz7 rfl)) (rv_one Tryd.underlying3 rfl rfl (fun w h => h.cell_blk zz7 rfl)) ?_
   exact fun w h => ⟨v, by rw [hsc]; exact hg1, by rw [hsc], h.below, by rw [hsc]; exact h.made SubC.h .nil⟩
end Go.Proofs.YtoaeklbenmlooaaDoor
namespace Go.Proofs.YtoaeklbenmlooaaDoor
open Go Go.PL Go.RowKit
theorem place_nat {ks : List KE} {id : UInt32} (h : 0 ≤ placeF ks id) : (placeF ks id).toNat < ks.length ∧ placeF ks id = (((placeF ks id).toNat : Nat) : Int) := by
  rcases idxF_spec (isId id) KE.z ks with ⟨e, _⟩ | ⟨j, h1, h2, _⟩
  · rw [placeF, e] at h; exact absurd h zz27
  · rw [placeF, h2, Int.toNat_natCast]; exact ⟨h1, rfl⟩
end Go.Proofs.YtoaeklbenmlooaaDoor
namespace Go.Proofs.YtoaeklbenmlooaaDoor
open Go Go.PL Go.RowKit
instance : Inhabited KE := ⟨KE.z⟩
theorem KE.c_inj {a b : KE} (h : a.c = b.c) : a = b := by
  cases a; cases b
  simp only [KE.c, List.cons.injEq, Value.int.injEq, Value.bool.injEq, true_and, and_true] at h
  obtain ⟨h1, rfl, rfl, rfl, rfl, rfl⟩ := h
  have := UInt32.toNat_inj.1 (Int.ofNat.inj h1)
  subst this; rfl
def KEw (cs : List Value) : Prop := IntCell .u32 ((cs.drop 0).take 1) ∧ IntCell .i64 ((cs.drop 1).take 1) ∧ IntCell .i64 ((cs.drop 2).take 1) ∧ IntCell .i64 ((cs.drop 3).take 1) ∧ IntCell .i64 ((cs.drop 4).take 1) ∧ BoolCell ((cs.drop 5).take 1) ∧ True
theorem eqKE : EqC Tryd.prog 2 40 true 6 (fun cs => cs.length = 6 ∧ KEw cs) := by
  refine eqc_struct Tryd.underlying40 Tryd.ti40 zz6 ?_
  refine EqFs.cons (sz := 1) (W := IntCell .u32) zz6 rfl (eqc_int Tryd.underlying25 Tryd.ti25) ?_
  refine EqFs.cons (sz := 1) (W := IntCell .i64) zz6 rfl (eqc_int Tryd.underlying3 Tryd.ti3) ?_
  refine EqFs.cons (sz := 1) (W := IntCell .i64) zz6 rfl (eqc_int Tryd.underlying3 Tryd.ti3) ?_
  refine EqFs.cons (sz := 1) (W := IntCell .i64) zz6 rfl (eqc_int Tryd.underlying3 Tryd.ti3) ?_
  refine EqFs.cons (sz := 1) (W := IntCell .i64) zz6 rfl (eqc_int Tryd.underlying3 Tryd.ti3) ?_
  refine EqFs.cons (sz := 1) (W := BoolCell) zz6 rfl (eqc_bool Tryd.underlying4 Tryd.ti4) ?_
  exact EqFs.nil _
theorem wKE (k : KE) : k.c.length = 6 ∧ KEw k.c := ⟨rfl, ⟨_, rfl⟩, ⟨_, rfl⟩, ⟨_, rfl⟩, ⟨_, rfl⟩, ⟨_, rfl⟩, ⟨_, rfl⟩, trivial⟩
theorem q_neKE {n : Cx} {R : World → Prop} {L : Slots} {t' : TypeId} {x y : Operand} {a b : KE} (hx : ev L x = some (.agg a.c.toArray)) (hy : ev L y = some (.agg b.c.toArray)) : QOp Tryd.prog n R L (.binOp .neq 40 x y t') (.bool (!decide (a = b))) :=
  q_neA eqKE zz27 zz6 hx hy (wKE a) (wKE b) _ (by
    simp only [Bool.not_eq_true', decide_eq_false_iff_not]; exact ⟨fun h e => h (KE.c_inj e), fun h e => h (by rw [e])⟩)
theorem sameKeys (av : Value) (xs : List KE) (bv : Value) (ys : List KE) (w : World) (hav : Seen w.cell? av xs.length 6 (kcs xs)) (hbv : Seen w.cell? bv ys.length 6 (kcs ys))  :
    Calls Tryd.prog 7 [av, bv].toArray w (Pur w (.bool (decide (xs = ys)))) := by
  have sav := hav.sv
  have lav := sav.le
  simp only [maxLen] at lav
  have sbv := hbv.sv
  have lbv := sbv.le
  simp only [maxLen] at lbv
  refine enter (m := 26) (R := Mem w [] [] []) Tryd.func7 rfl rfl (Nat.le_of_ble_eq_true rfl) (Mem.start w) ?_
  refine wpc_seq <| wpc_region <| wpl_q (q_pure rfl) rfl <| wpl_nil <| ex_then <| wpc_seq <| wpc_seq <| wpc_region <| wpl_q (q_pure rfl) rfl ?_
  refine wpl_q (q_lenW Tryd.underlying26 rfl zz3) rfl ?_
  refine wpl_q (q_pure rfl) rfl ?_
  refine wpl_q (q_lenW Tryd.underlying26 rfl zz3) rfl ?_
  refine wpl_q (q_pure rfl) rfl <| wpl_nil <| ex_then ?_
  refine wpc_cond rfl (fun hc10 => ?_) (fun hc10 => ?_)
  ·
   simp only [decide_eq_true_eq, bne_iff_ne, ne_eq] at hc10
   have hne : xs ≠ ys := fun e => hc10 (by rw [e])
   refine wpc_seq <| wpc_region <| wpl_q (q_pure rfl) rfl <| wpl_nil <| ex_then <| wpc_ret ?_
   refine ex_then_ret ?_
   refine ret1 (.inl rfl) rfl rfl ?_
   exact fun w h => ⟨by simp [hne], h.below⟩
  ·
   simp only [bne_eq_false_iff_eq] at hc10
   have hl : xs.length = ys.length := by omega
   refine wpc_skip <| ex_then <| wpc_seq <| wpc_seq <| wpc_region <| wpl_q (q_pure rfl) rfl <| wpl_nil <| ex_then <| wpc_block ?_
   refine wpc_loopc (ι := { x : Nat // (x ≤ xs.length) ∧ (xs.take x = ys.take x) }) [(0, _), (1, _)] (fun x Lc => (5, .int .i64 ((x.1 : Nat) : Int)) :: Lc) (fun x => Mem w [] [] []) (fun x => xs.length - x.1) ⟨0, ⟨Nat.zero_le _, rfl⟩⟩ zz14 ?_ ?_
   ·
    exact fun w h => h
   ·
    rintro ⟨i, ⟨hi0, hi1⟩⟩; try dsimp only
    have hi0 : i ≤ xs.length := hi0; have hi1 : xs.take i = ys.take i := hi1
    refine wpc_seq <| wpc_seq <| wpc_region <| wpl_q (q_pure rfl) rfl <| wpl_q (q_pure rfl) rfl ?_
    refine wpl_q (q_lenW Tryd.underlying26 rfl zz3) rfl ?_
    refine wpl_q (q_pure rfl) rfl <| wpl_nil <| ex_then ?_
    refine wpc_cond rfl (fun hc14 => ?_) (fun hc14 => ?_)
    ·
     simp only [decide_eq_true_eq] at hc14
     have hlx : i < xs.length := by omega
     have hly : i < ys.length := by omega
     refine wpc_skip <| ex_then <| wpc_seq <| wpc_block <| wpc_seq ?_
     refine wpc_draw 9 zz6 (fun _ h => h.drew) ?_
     refine wpd_p 0 rfl zz6 trivial (q_pure rfl) rfl sk0 ?_
     refine wpd_p 1 rfl zz6 trivial (q_pure rfl) rfl sk0 ?_
     refine wpd_p 2 rfl zz6 trivial (q_idxW Tryd.underlying26 Tryd.ti40 rfl rfl zz3 zz1) rfl sk0 ?_
     refine wpd_q 3 rfl zz6 trivial (q_ldWN Tryd.underlying40 rfl Tryd.ti40 rfl (fun w h => h.seen_old hav) (xs.getD i KE.z).c (kcs_part hlx) rfl) rfl (fun _ h => h) ?_
     refine wpd_p 4 rfl zz6 trivial (q_pure rfl) rfl sk0 ?_
     refine wpd_p 5 rfl zz6 trivial (q_pure rfl) rfl sk0 ?_
     refine wpd_p 6 rfl zz6 trivial (q_idxW Tryd.underlying26 Tryd.ti40 rfl rfl zz3 zz1) rfl sk0 ?_
     refine wpd_q 7 rfl zz6 trivial (q_ldWN Tryd.underlying40 rfl Tryd.ti40 rfl (fun w h => h.seen_old hbv) (ys.getD i KE.z).c (kcs_part hly) rfl) rfl (fun _ h => h) ?_
     refine wpd_q 8 rfl zz6 trivial (q_neKE rfl rfl) rfl (fun _ h => h) ?_
     refine wpd_done zz6 ?_
     refine ex_then ?_
     refine wpc_cond rfl (fun hc25 => ?_) (fun hc25 => ?_)
     ·
      simp only [Bool.not_eq_true', decide_eq_false_iff_not] at hc25
      have hne : xs ≠ ys := fun e => hc25 (by rw [e])
      refine wpc_seq <| wpc_region <| wpl_q (q_pure rfl) rfl <| wpl_nil <| ex_then <| wpc_ret ?_
      refine ex_block_ret ?_
      refine ex_then_ret ?_
      refine ex_then_ret ?_
      refine ex_block_ret ?_
      refine ex_then_ret ?_
      refine ret1 (.inl rfl) rfl rfl ?_
      exact fun w h => ⟨by simp [hne], h.below⟩
     ·
      simp only [Bool.not_eq_false', decide_eq_true_eq] at hc25
      refine wpc_skip <| ex_block <| ex_then <| wpc_region <| wpl_q (q_pure rfl) rfl ?_
      refine wpl_q (q_addN (b := 1) rfl rfl zz1) rfl ?_
      refine wpl_q (q_pure rfl) rfl <| wpl_nil ?_
      refine ex_again ⟨i + 1, ⟨zz16, same_stepK xs ys KE.z i hi1 zz16 zz16 hc25⟩⟩ ?_ ?_ ?_
      ·
       exact zz14
      ·
       exact fun w h => by first | exact h | exact h.sub SubC.h SubC.h | exact h.sub zz8 zz8
      ·
       (show xs.length - (i + 1) < xs.length - i); omega
    ·
     simp only [decide_eq_false_iff_not] at hc14
     obtain rfl : i = xs.length := by omega
     have heq : xs = ys := by rw [List.take_length, hl, List.take_length] at hi1; exact hi1
     refine wpc_exit ?_
     refine ex_then_exit ?_
     refine ex_then_exit ?_
     refine ex_block_hit ?_
     refine ex_then <| wpc_seq <| wpc_region <| wpl_q (q_pure rfl) rfl <| wpl_nil <| ex_then <| wpc_ret ?_
     refine ret1 (.inl rfl) rfl rfl ?_
     exact fun w h => ⟨by simp [heq], h.below⟩
end Go.Proofs.YtoaeklbenmlooaaDoor
namespace Go.Proofs.YtoaeklbenmlooaaDoor
open Go Go.PL Go.RowKit
theorem mem_trim0 {w0 w : World} {Ln : List Nat} {M : List Ent} {v : Value} {m : Nat} {e : TypeId} {sz : Nat} {xs : List Value} (h : Mem w0 Ln (.row v m e sz xs :: M) [] w) (hm : 0 < m) : Mem w0 Ln (.row (slv v 0 0 sz) 0 e sz [] :: M) [] w := by
  have ho := h.own _ (List.mem_cons_self ..)
  obtain ⟨hl, ho | ⟨g, cap, cur, rfl, hb, hg, hn, hc, hs, ht⟩⟩ := ho
  · omega
  have e1 : slv (.slice (some ⟨g, 0, none⟩) m cap) 0 0 sz = .slice (some ⟨g, 0, none⟩) 0 cap := by simp [slv, sliced]; intro _; rfl
  rw [e1]
  refine ⟨h.os, h.tape, h.output, h.size, h.old, fun e he => ?_, fun e he => ?_, ?_, zz50⟩
  · rcases List.mem_cons.1 he with rfl | he
    · exact ⟨zz50, .inr ⟨g, cap, cur, rfl, hb, hg, Nat.zero_le _, hc, hs, zz50⟩⟩
    · exact h.own _ (List.mem_cons_of_mem _ he)
  · rcases List.mem_cons.1 he with rfl | he
    · exact fun k hk => h.new (.row (.slice (some ⟨g, 0, none⟩) m cap) m e sz xs) (List.mem_cons_self ..) k hk
    · exact h.new _ (List.mem_cons_of_mem _ he)
  · have := h.apart
    rw [List.pairwise_cons] at this ⊢
    exact ⟨fun f hf k hk => this.1 f hf k hk, this.2⟩
def PartsK (r : Rd) (v : Value) (ps : List (Value × List UInt8)) : Prop := Seen r v ps.length 1 (ps.map Prod.fst) ∧ ∀ q ∈ ps, Seen r q.1 q.2.length 1 (v8s q.2)
def flatK (ps : List (Value × List UInt8)) (i : Nat) : List UInt8 := ((ps.take i).map Prod.snd).flatten
theorem flatK_succ (ps : List (Value × List UInt8)) (i : Nat) (h : i < ps.length) : flatK ps (i + 1) = flatK ps i ++ (ps.getD i (undef, [])).2 := by
  unfold flatK
  rw [List.take_add_one, List.getD_eq_getElem?_getD, List.getElem?_eq_getElem h, List.map_append, List.flatten_append]
  show _ ++ ([(ps[i]).2] : List (List UInt8)).flatten = _ ++ (ps[i]).2
  simp
theorem flatK_le (ps : List (Value × List UInt8)) (i : Nat) (h : i < ps.length) : (flatK ps i).length + (ps.getD i (undef, [])).2.length ≤ (flatK ps ps.length).length := by
  have e : flatK ps ps.length = flatK ps (i + 1) ++ ((ps.drop (i + 1)).map Prod.snd).flatten := by
    unfold flatK
    rw [← List.flatten_append, ← List.map_append, List.take_append_drop, List.take_length]
  rw [e, flatK_succ ps i h, List.length_append, List.length_append]; omega
theorem flatK_2 (a b : Value × List UInt8) : flatK [a, b] [a, b].length = a.2 ++ b.2 := by simp [flatK]
theorem getD_memK (ps : List (Value × List UInt8)) (i : Nat) (h : i < ps.length) : ps.getD i (undef, []) ∈ ps := by
  rw [List.getD_eq_getElem?_getD, List.getElem?_eq_getElem h]; exact List.getElem_mem h
theorem fst_get (ps : List (Value × List UInt8)) (i : Nat) (h : i < ps.length) : (ps.map Prod.fst)[i]? = some (ps.getD i (undef, [])).1 := by
  rw [List.getElem?_map, List.getD_eq_getElem?_getD, List.getElem?_eq_getElem h]; rfl
theorem grow (n : Nat) (w : World)  (hn : n ≤ 100000) :
    Calls Tryd.prog 84 [.slice none 0 0, .int .i64 ((n : Nat) : Int)].toArray w (GivesP w (fun v => SV v 0) (fun v => v) (fun v => [.row v 0 5 1 []]) (fun _ => [])) := by
  refine enter (m := 27) (R := Mem w [] [] []) Tryd.func84 rfl rfl (Nat.le_of_ble_eq_true rfl) (Mem.start w) ?_
  refine wpc_seq <| wpc_region <| wpl_q (q_pure rfl) rfl <| wpl_nil <| ex_then <| wpc_seq <| wpc_seq <| wpc_region <| wpl_q (q_pure rfl) rfl <| wpl_q (q_pure rfl) rfl <| wpl_nil <| ex_then ?_
  refine wpc_cond rfl (fun hc6 => ?_) (fun hc6 => ?_)
  ·
   simp only [decide_eq_true_eq] at hc6; omega
  ·
   refine wpc_skip <| ex_then <| wpc_seq <| wpc_seq <| wpc_region <| wpl_q (q_pure rfl) rfl <| wpl_q (q_pure rfl) rfl <| wpl_q (q_capW Tryd.underlying22 rfl) rfl <| wpl_q (q_pure rfl) rfl ?_
   refine wpl_q (q_lenW Tryd.underlying22 rfl zz3) rfl ?_
   first | refine wpl_q (qop_eq (q_pure rfl) (congrArg (Value.int .i64) (wk_i64 zz16 zz16))) rfl ?_ | refine wpl_q (q_pure rfl) rfl ?_
   first | refine wpl_q (qop_eq (q_pure rfl) (congrArg (Value.int .i64) (wk_i64 zz16 zz16))) rfl ?_ | refine wpl_q (q_pure rfl) rfl ?_
   refine wpl_q (q_pure rfl) rfl ?_
   refine wpl_re 1 rfl (show _ = Value.int .i64 ((n : Nat) : Int) from congrArg (Value.int .i64) zz16) ?_
   refine wpl_nil <| ex_then <| wpc_seq <| wpc_region <| wpl_q (q_pure rfl) rfl <| wpl_q (q_pure rfl) rfl <| wpl_nil <| ex_then ?_
   refine wpc_cond rfl (fun hc16 => ?_) (fun hc16 => ?_)
   ·
    simp only [decide_eq_true_eq, gt_iff_lt] at hc16
    have h0 : 0 < n := by omega
    refine wpc_region <| wpl_q (q_pure rfl) rfl <| wpl_q (q_pure rfl) rfl <| wpl_q (q_capW Tryd.underlying22 rfl) rfl ?_
    refine wpl_q (q_slWh Tryd.underlying22 Tryd.ti5 rfl rfl zz3 zz16) rfl ?_
    refine wpl_q (q_pure rfl) rfl ?_
    refine wpl_tp (t_apZ Tryd.underlying22 Tryd.underlying3 Tryd.ti5 rfl zz27 rfl rfl h0 (by simp only [maxLen]; omega) zz16 _ rfl) rfl (fun b22 p22 => ?_)
    refine wpl_q (q_pure rfl) rfl ?_
    refine wpl_q (q_lenW Tryd.underlying22 rfl zz3) rfl ?_
    refine wpl_q (q_slWh Tryd.underlying22 Tryd.ti5 rfl rfl zz3 zz16) rfl ?_
    refine wpl_q (q_pure rfl) rfl <| wpl_nil <| ex_then <| wpc_seq <| wpc_region <| wpl_q (q_pure rfl) rfl <| wpl_q (q_pure rfl) rfl <| wpl_nil <| ex_then <| wpc_ret ?_
    refine ret1 (.inl rfl) rfl rfl ?_
    exact fun w h => ⟨slv b22 0 0 1, SV.slv (l := 0) (k := 0) (sz := 1) p22 zz16 zz16, rfl, h.below, (mem_trim0 h h0).made SubC.h .nil⟩
   ·
    simp only [decide_eq_false_iff_not, gt_iff_lt] at hc16
    refine wpc_skip <| ex_then <| wpc_seq <| wpc_region <| wpl_q (q_pure rfl) rfl <| wpl_q (q_pure rfl) rfl <| wpl_nil <| ex_then <| wpc_ret ?_
    refine ret1 (.inl rfl) rfl rfl ?_
    exact fun w h => ⟨.slice none 0 0, SV.nil, rfl, h.below, (h.nilRow 5 1).made zz8 .nil⟩
theorem concat (pv : Value) (ps : List (Value × List UInt8)) (w : World) (hP : PartsK w.cell? pv ps) (hlim : (flatK ps ps.length).length ≤ 100000) :
    Calls Tryd.prog 79 [pv].toArray w (GivesP w (fun v => SV v (flatK ps ps.length).length) (fun v => v) (fun v => [.row v (flatK ps ps.length).length 5 1 (v8s (flatK ps ps.length))]) (fun _ => [])) := by
  have spv := hP.1.sv
  have lpv := spv.le
  simp only [maxLen] at lpv
  refine enter (m := 36) (R := Mem w [] [] []) Tryd.func79 rfl rfl (Nat.le_of_ble_eq_true rfl) (Mem.start w) ?_
  refine wpc_seq <| wpc_region <| wpl_q (q_pure rfl) rfl <| wpl_nil <| ex_then <| wpc_seq <| wpc_region <| wpl_q (q_pure rfl) rfl ?_
  first | refine wpl_re 3 rfl (congrArg (fun n : Nat => Value.int .i64 (n : Int)) hfs) ?_ | skip
  refine wpl_nil <| ex_then <| wpc_seq <| wpc_seq <| wpc_region <| wpl_q (q_pure rfl) rfl ?_
  refine wpl_q (q_lenW Tryd.underlying111 rfl zz3) rfl ?_
  refine wpl_q (q_pure rfl) rfl <| wpl_nil <| ex_then <| wpc_block ?_
  refine wpc_loopc (ι := { x : Nat // (x ≤ ps.length) }) [(0, _), (9, _), (10, _)] (fun x Lc => (11, .int .i64 ((x.1 : Nat) : Int)) :: (3, .int .i64 (((flatK ps x.1).length : Nat) : Int)) :: Lc) (fun x => Mem w [] [] []) (fun x => ps.length - x.1) ⟨0, zz30⟩ zz14 ?_ ?_
  ·
   exact fun w h => h
  ·
   rintro ⟨i, hi0⟩; try dsimp only
   have hi0 : i ≤ ps.length := hi0
   refine wpc_seq <| wpc_region <| wpl_q (q_pure rfl) rfl <| wpl_nil <| ex_then <| wpc_seq ?_
   refine wpc_cond rfl (fun hc12 => ?_) (fun hc12 => ?_)
   ·
    simp only [decide_eq_true_eq] at hc12
    have hi : i < ps.length := by omega
    have hle := flatK_le ps i hi
    have hsq := hP.2 _ (getD_memK ps i hi)
    have ssq := hsq.sv
    have hfs : (flatK ps i).length + (ps.getD i (undef, [])).2.length = (flatK ps (i + 1)).length := by rw [flatK_succ ps i hi, List.length_append]
    refine wpc_skip <| ex_then <| wpc_seq <| wpc_block <| wpc_seq <| wpc_region ?_
    refine wpl_q (q_idxW1 Tryd.underlying111 Tryd.ti22 rfl rfl zz3 zz1) rfl ?_
    refine wpl_q (q_ldW Tryd.underlying22 rfl rfl (fun w h => h.seen_old hP.1) (fst_get ps i hi)) rfl ?_
    refine wpl_q (q_pure rfl) rfl <| wpl_nil <| ex_then <| wpc_seq <| wpc_region <| wpl_q (q_pure rfl) rfl <| wpl_q (q_pure rfl) rfl ?_
    refine wpl_q (q_lenW Tryd.underlying22 rfl zz3) rfl ?_
    refine wpl_q (q_addN rfl rfl zz1) rfl ?_
    refine wpl_q (q_pure rfl) rfl ?_
    first | refine wpl_re 3 rfl (congrArg (fun n : Nat => Value.int .i64 (n : Int)) hfs) ?_ | skip
    refine wpl_nil <| ex_then <| wpc_seq <| wpc_region <| wpl_q (q_pure rfl) rfl <| wpl_q (q_pure rfl) rfl <| wpl_nil <| ex_then ?_
    refine wpc_cond rfl (fun hc20 => ?_) (fun hc20 => ?_)
    ·
     simp only [decide_eq_true_eq] at hc20; omega
    ·
     refine wpc_skip <| ex_block <| ex_then <| wpc_region ?_
     refine wpl_q (q_addN (b := 1) rfl rfl zz1) rfl ?_
     refine wpl_q (q_pure rfl) rfl <| wpl_nil ?_
     refine ex_again ⟨i + 1, zz30⟩ ?_ ?_ ?_
     ·
      exact zz14
     ·
      exact fun w h => by first | exact h | exact h.sub SubC.h SubC.h | exact h.sub zz8 zz8
     ·
      (show ps.length - (i + 1) < ps.length - i); omega
   ·
    simp only [decide_eq_false_iff_not] at hc12
    obtain rfl : i = ps.length := by omega
    refine wpc_exit ?_
    refine ex_then_exit ?_
    refine ex_then_exit ?_
    refine ex_block_hit ?_
    refine ex_then <| wpc_seq <| wpc_region <| wpl_q (q_pure rfl) rfl ?_
    refine wpl_tp (t_callP1 Tryd.hb84 rfl fun w h => grow _ w hlim) rfl (fun b24 p24 => ?_)
    refine wpl_q (q_pure rfl) rfl <| wpl_nil <| ex_then <| wpc_seq <| wpc_seq <| wpc_region <| wpl_q (q_pure rfl) rfl ?_
    refine wpl_q (q_lenW Tryd.underlying111 rfl zz3) rfl ?_
    refine wpl_q (q_pure rfl) rfl <| wpl_nil <| ex_then <| wpc_block ?_
    refine wpc_loopc (ι := { x : Nat × Value // (x.1 ≤ ps.length) ∧ (SV x.2 (flatK ps x.1).length) }) [(25, _), (26, _)] (fun x Lc => (27, .int .i64 ((x.1.1 : Nat) : Int)) :: (6, x.1.2) :: Lc) (fun x => Mem w [] [.row x.1.2 (flatK ps x.1.1).length 5 1 (v8s (flatK ps x.1.1))] []) (fun x => ps.length - x.1.1) ⟨(0, b24), ⟨Nat.zero_le _, p24⟩⟩ zz14 ?_ ?_
    ·
     exact fun w h => h
    ·
     rintro ⟨⟨i, v⟩, ⟨hi0, hi1⟩⟩; try dsimp only
     have hi0 : i ≤ ps.length := hi0; have hi1 : SV v (flatK ps i).length := hi1
     refine wpc_seq <| wpc_region <| wpl_q (q_pure rfl) rfl <| wpl_nil <| ex_then <| wpc_seq ?_
     refine wpc_cond rfl (fun hc28 => ?_) (fun hc28 => ?_)
     ·
      simp only [decide_eq_true_eq] at hc28
      have hi : i < ps.length := by omega
      have hle := flatK_le ps i hi
      have hsq := hP.2 _ (getD_memK ps i hi)
      have ssq := hsq.sv
      refine wpc_skip <| ex_then <| wpc_seq <| wpc_block <| wpc_seq <| wpc_region ?_
      refine wpl_q (q_idxW1 Tryd.underlying111 Tryd.ti22 rfl rfl zz3 zz1) rfl ?_
      refine wpl_q (q_ldW Tryd.underlying22 rfl rfl (fun w h => h.seen_old hP.1) (fst_get ps i hi)) rfl ?_
      refine wpl_q (q_pure rfl) rfl <| wpl_nil <| ex_then <| wpc_region <| wpl_q (q_pure rfl) rfl <| wpl_q (q_pure rfl) rfl ?_
      refine wpl_tp (t_apW Tryd.underlying22 Tryd.ti5 rfl zz27 rfl rfl (fun w h => h.seen_old hsq) (v8s_one _) zz1 zz1 (v8s (flatK ps i ++ (ps.getD i (undef, [])).2)) (by rw [v8s_append])) rfl (fun b33 p33 => ?_)
      refine wpl_q (q_pure rfl) rfl <| wpl_nil <| ex_block <| ex_then <| wpc_region ?_
      refine wpl_q (q_addN (b := 1) rfl rfl zz1) rfl ?_
      refine wpl_q (q_pure rfl) rfl <| wpl_nil ?_
      refine ex_again ⟨(i + 1, b33), ⟨zz16, by rw [flatK_succ ps i hi, List.length_append]; exact p33⟩⟩ ?_ ?_ ?_
      ·
       exact zz14
      ·
       exact fun w h => by dsimp only; rw [flatK_succ ps i hi, List.length_append]; exact h.sub SubC.h SubC.h
      ·
       (show ps.length - (i + 1) < ps.length - i); omega
     ·
      simp only [decide_eq_false_iff_not] at hc28
      obtain rfl : i = ps.length := by omega
      refine wpc_exit ?_
      refine ex_then_exit ?_
      refine ex_then_exit ?_
      refine ex_block_hit ?_
      refine ex_then <| wpc_seq <| wpc_region <| wpl_q (q_pure rfl) rfl <| wpl_q (q_pure rfl) rfl <| wpl_nil <| ex_then <| wpc_ret ?_
      refine ret1 (.inl rfl) rfl rfl ?_
      exact fun w h => ⟨v, hi1, rfl, h.below, h.made SubC.h .nil⟩
end Go.Proofs.YtoaeklbenmlooaaDoor
namespace Go.Proofs.YtoaeklbenmlooaaDoor
open Go Go.PL Go.RowKit
structure St where
  ms : List UInt8
  bt : Int
  up : Bool
  dk : List UInt8
  pd : List UInt8
  ks : List KE
def St.c (s : St) (dv pv kv : Value) : List Value := v8s s.ms ++ [.int .i64 s.bt, .bool s.up, dv, pv, kv]
section
variable {s : St} {dv pv kv : Value} (h : s.ms.length = 32)
include h
theorem St.c_length : (s.c dv pv kv).length = 37 := by rw [St.c, List.length_append, v8s_length, h]; rfl
theorem St.c_b : (s.c dv pv kv)[32]? = some (.int .i64 s.bt) := by rw [St.c, List.getElem?_append_right (by rw [v8s_length, h]; omega), v8s_length, h]; rfl
theorem St.c_u : (s.c dv pv kv)[33]? = some (.bool s.up) := by rw [St.c, List.getElem?_append_right (by rw [v8s_length, h]; omega), v8s_length, h]; rfl
theorem St.c_d : (s.c dv pv kv)[34]? = some dv := by rw [St.c, List.getElem?_append_right (by rw [v8s_length, h]; omega), v8s_length, h]; rfl
theorem St.c_p : (s.c dv pv kv)[35]? = some pv := by rw [St.c, List.getElem?_append_right (by rw [v8s_length, h]; omega), v8s_length, h]; rfl
theorem St.c_k : (s.c dv pv kv)[36]? = some kv := by rw [St.c, List.getElem?_append_right (by rw [v8s_length, h]; omega), v8s_length, h]; rfl
theorem St.c_m : ((s.c dv pv kv).drop 0).take 32 = v8s s.ms := by rw [St.c, List.drop_zero, List.take_append_of_le_length (by rw [v8s_length, h]; exact Nat.le_refl _), List.take_of_length_le (by rw [v8s_length, h]; exact Nat.le_refl _)]
theorem St.s_u (x : Bool) : (s.c dv pv kv).set 33 (.bool x) = ({ s with up := x } : St).c dv pv kv := by rw [St.c, List.set_append_right _ _ (by rw [v8s_length, h]; omega), v8s_length, h]; rfl
theorem St.s_d (x : Value) : (s.c dv pv kv).set 34 x = s.c x pv kv := by rw [St.c, List.set_append_right _ _ (by rw [v8s_length, h]; omega), v8s_length, h]; rfl
theorem St.s_p (x : Value) : (s.c dv pv kv).set 35 x = s.c dv x kv := by rw [St.c, List.set_append_right _ _ (by rw [v8s_length, h]; omega), v8s_length, h]; rfl
theorem St.s_k (x : Value) : (s.c dv pv kv).set 36 x = s.c dv pv x := by rw [St.c, List.set_append_right _ _ (by rw [v8s_length, h]; omega), v8s_length, h]; rfl
end
theorem St.c_one {s : St} {dv pv kv : Value} {a b c : Nat} (hd : SV dv a) (hp : SV pv b) (hk : SV kv c) : ∀ u ∈ s.c dv pv kv, u.oneCell' = true := by
  intro u hu
  rw [St.c] at hu
  rcases List.mem_append.1 hu with hu | hu
  · exact v8s_one _ u hu
  · simp only [List.mem_cons, List.not_mem_nil, or_false] at hu
    rcases hu with rfl | rfl | rfl | rfl | rfl
    · rfl
    · rfl
    · exact hd.one
    · exact hp.one
    · exact hk.one
structure StS (r : Rd) (s : St) (dv pv kv : Value) : Prop where
  len : s.ms.length = 32
  d : Seen r dv s.dk.length 1 (v8s s.dk)
  p : Seen r pv s.pd.length 1 (v8s s.pd)
  k : Seen r kv s.ks.length 6 (kcs s.ks)
  ld : s.dk.length ≤ 1200
  lp : s.pd.length ≤ 1200
  lk : s.ks.length ≤ 30
theorem StS.old {w0 w : World} {M : List Ent} {S : List Fact} {s : St} {dv pv kv : Value} (h : Mem w0 [] M S w) (hs : StS w0.cell? s dv pv kv) : StS w.cell? s dv pv kv :=
  ⟨hs.len, h.seen_old hs.d, h.seen_old hs.p, h.seen_old hs.k, hs.ld, hs.lp, hs.lk⟩
def okK (k a : KE) (d : Int) : Bool := decide (k.id = a.id) && decide (k.ht = a.ht) && decide (k.ak = a.ak) && decide (k.dr = a.dr) && decide (k.du = d) && decide (0 ≤ k.nx) && decide (k.nx ≤ d)
def durF (d : List KE) (i : Nat) : Int := if i < d.length then (d.getD i KE.z).ak else 0
def ChkU (s : St) : Prop := (scanR s.dk).2 = s.dk.length ∧ (scanR (s.dk ++ s.pd)).2 = s.dk.length + s.pd.length ∧ (scanR (s.dk ++ s.pd)).1.length = s.ks.length ∧
  ∀ i, i < s.ks.length → okK (s.ks.getD i KE.z) ((scanR (s.dk ++ s.pd)).1.getD i KE.z) (durF (scanR s.dk).1 i) = true
def ChkP (s : St) : Prop := 1 ≤ s.bt ∧ s.bt ≤ 16 ∧ s.dk.length + s.pd.length ≤ 1000 ∧ (s.up = false → s.pd.length = 0 ∧ s.ks.length = 0) ∧ (s.up = true → ChkU s)
instance (s : St) : Decidable (ChkU s) := by unfold ChkU; infer_instance
instance (s : St) : Decidable (ChkP s) := by unfold ChkP; infer_instance
def chkF (s : St) : Int := if ChkP s then 0 else 8
theorem chk0 {s : St} (h : ChkP s) : chkF s = 0 := if_pos h
theorem chk8 {s : St} (h : ¬ ChkP s) : chkF s = 8 := if_neg h
theorem partsK2 {r : Rd} {v a b : Value} {xs ys : List UInt8} (h : Seen r v 2 1 [a, b]) (h1 : Seen r a xs.length 1 (v8s xs)) (h2 : Seen r b ys.length 1 (v8s ys)) : PartsK r v [(a, xs), (b, ys)] := ⟨h, fun q hq => by
  simp only [List.mem_cons, List.not_mem_nil, or_false] at hq
  rcases hq with rfl | rfl
  · exact h1
  · exact h2⟩
theorem concat2 (v a b : Value) (xs ys : List UInt8) (w : World) (hP : PartsK w.cell? v [(a, xs), (b, ys)]) (hl : (xs ++ ys).length ≤ 100000) : Calls Tryd.prog 79 [v].toArray w (GivesP w (fun v => SV v (xs ++ ys).length) (fun v => v) (fun v => [.row v (xs ++ ys).length 5 1 (v8s (xs ++ ys))]) (fun _ => [])) := by
  have h := concat v [(a, xs), (b, ys)] w hP (by rw [flatK_2]; exact hl)
  rw [flatK_2] at h
  exact h
end Go.Proofs.YtoaeklbenmlooaaDoor
