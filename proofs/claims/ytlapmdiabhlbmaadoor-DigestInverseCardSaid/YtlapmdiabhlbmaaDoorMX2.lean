/- What the statement reaches, in order. -/
import Derived.Test.YtlapmdiabhlbmaaDoorMXPLN
import Derived.Test.YtlapmdiabhlbmaaDoorMXTI
import Derived.Test.YtlapmdiabhlbmaaDoorMXPLI
import Derived.Test.YtlapmdiabhlbmaaDoorMXPLZ
import Derived.KernelRfl
import Derived.Shelf.Strings.Trim
import Derived.Shelf.Small.Strs
import Derived.Shelf.LaysM
import Derived.Shelf.Bytes.WriteByte
import Derived.Shelf.Bytes.Bytes
import Derived.Test.YtlapmdiabhlbmaaDoorProg
import Derived.Test.YtlapmdiabhlbmaaDoorMXPLL
import Derived.Lib.TrimByte
import Derived.Lib.Bytealg
import Derived.Stop.LaidErr
import Derived.WalkKit
import Derived.ProofKit
import Derived.OpenShut
import Derived.ChangeOld
import Derived.Below
import Derived.Carry
import Derived.LaidMore
import Derived.Deep.DeepHandedRow
import Derived.Deep.DeepWitnessRowRef
import Derived.Lib.LaidTab
import Derived.Stop.Joined
import Derived.Test.YtlapmdiabhlbmaaDoorMX1
set_option linter.unusedSimpArgs false
set_option linter.unusedVariables false
set_option maxRecDepth 100000
namespace Go.Proofs.YtlapmdiabhlbmaaDoor
open Go Go.PL Go.RowKit
def plB (l : List UInt8) (c : UInt8) : Int := if c ∈ l then ((l.idxOf c : Nat) : Int) else -1
theorem indexByte_plB (l : List UInt8) (c : UInt8) : Go.Lib.indexByte l c = plB l c := by
  induction l with
  | nil => rfl
  | cons b l ih =>
    unfold Go.Lib.indexByte
    rw [ih]
    by_cases hb : b = c
    · subst hb
      simp [plB]
    · have hb2 : (b == c) = false := by simpa using hb
      have hc : c ∈ b :: l ↔ c ∈ l := by simp [List.mem_cons, Ne.symm hb]
      unfold plB
      rw [hb2, List.idxOf_cons, hb2]
      by_cases hm : c ∈ l
      · rw [if_pos hm, if_pos (hc.2 hm)]
        simp
      · rw [if_neg hm, if_neg (fun h => hm (hc.1 h))]; rfl
theorem plB_in {l : List UInt8} {c : UInt8} (h : c ∈ l) : plB l c = ((l.idxOf c : Nat) : Int) := if_pos h
theorem plB_neg {l : List UInt8} {c : UInt8} : plB l c < 0 ↔ c ∉ l := by
  unfold plB; split
  · rename_i h; simp [h]
  · rename_i h; simp [h]
theorem getD_idx {l : List UInt8} {c : UInt8} (h : c ∈ l) : l.idxOf c < l.length ∧ l.getD (l.idxOf c) 0 = c := by
  have h1 := List.idxOf_lt_length_iff.2 h
  refine ⟨h1, ?_⟩
  rw [List.getD_eq_getElem?_getD, List.getElem?_eq_getElem h1]
  exact List.getElem_idxOf h1
theorem hexD_idx : ∀ j, j < 16 → hexD.getD j 0 ∈ hexD ∧ hexD.idxOf (hexD.getD j 0) = j := by decide
def hexV (a b : UInt8) : UInt8 := UInt8.ofNat (16 * hexD.idxOf a + hexD.idxOf b)
def hxOk (xs : List UInt8) : Prop := xs.length % 2 = 0 ∧ ∀ c ∈ xs, c ∈ hexD
instance (xs : List UInt8) : Decidable (hxOk xs) := by unfold hxOk; exact inferInstance
def hxO (xs : List UInt8) : Nat → List UInt8
  | 0 => []
  | k + 1 => hxO xs k ++ [hexV (xs.getD (2 * k) 0) (xs.getD (2 * k + 1) 0)]
theorem hxO_len (xs : List UInt8) : ∀ k, (hxO xs k).length = k
  | 0 => rfl
  | k + 1 => by rw [hxO, List.length_append, hxO_len xs k]; rfl
def fhV (xs : List UInt8) : List UInt8 := if hxOk xs then hxO xs (xs.length / 2) else []
def fhE (xs : List UInt8) : Int := if hxOk xs then 0 else 12
theorem sr8_eq (x : UInt8) : (sr8 x 4).toNat = x.toNat / 16 := by
  have := x.toNat_lt
  simp only [sr8, UInt8.toNat_ofNat']
  have : min 4 8 = 4 := rfl
  rw [this]; omega
theorem and8_eq (x : UInt8) : (x &&& 15).toNat = x.toNat % 16 := by
  rw [UInt8.toNat_and]; exact Nat.and_two_pow_sub_one_eq_mod _ 4
theorem hexV_of (x : UInt8) : hexV (hexD.getD (sr8 x 4).toNat 0) (hexD.getD (x &&& 15).toNat 0) = x := by
  have hx := x.toNat_lt
  unfold hexV
  rw [(hexD_idx _ (sr8_lt x)).2, (hexD_idx _ (and8_lt x)).2, sr8_eq, and8_eq, show 16 * (x.toNat / 16) + x.toNat % 16 = x.toNat from zz3]
  exact UInt8.ofNat_toNat
theorem gd_l {u v : List UInt8} {i : Nat} (h : i < u.length) : (u ++ v).getD i 0 = u.getD i 0 := by
  rw [List.getD_eq_getElem?_getD, List.getElem?_append_left h, ← List.getD_eq_getElem?_getD]
theorem gd_r {u v : List UInt8} {i : Nat} (h : u.length ≤ i) : (u ++ v).getD i 0 = v.getD (i - u.length) 0 := by
  rw [List.getD_eq_getElem?_getD, List.getElem?_append_right h, ← List.getD_eq_getElem?_getD]
theorem hexF_get (xs : List UInt8) : ∀ m k, k < m → (hexF xs m).getD (2 * k) 0 = hexD.getD (sr8 (xs.getD k 0) 4).toNat 0 ∧ (hexF xs m).getD (2 * k + 1) 0 = hexD.getD ((xs.getD k 0) &&& 15).toNat 0
  | 0, k, h => absurd h (Nat.not_lt_zero _)
  | m + 1, k, h => by
    have hl := hexF_length xs m
    rw [hexF, List.append_assoc]
    by_cases e : k < m
    · have q := hexF_get xs m k e
      rw [gd_l zz3, gd_l zz3]
      exact q
    · obtain rfl : k = m := by omega
      exact ⟨(gd_r zz3).trans (by rw [hl, Nat.sub_self]; rfl), (gd_r zz3).trans (by rw [hl, show 2 * k + 1 - 2 * k = 1 from zz3]; rfl)⟩
theorem hexF_in (xs : List UInt8) : ∀ m, ∀ c ∈ hexF xs m, c ∈ hexD
  | 0, c, h => by cases h
  | m + 1, c, h => by
    rw [hexF, List.mem_append, List.mem_append] at h
    rcases h with (h | h) | h
    · exact hexF_in xs m c h
    · rw [List.mem_singleton] at h; subst h; exact (hexD_idx _ (sr8_lt _)).1
    · rw [List.mem_singleton] at h; subst h; exact (hexD_idx _ (and8_lt _)).1
theorem take_snoc (xs : List UInt8) {i : Nat} (h : i < xs.length) : xs.take (i + 1) = xs.take i ++ [xs.getD i 0] := by
  rw [List.take_add_one, List.getD_eq_getElem?_getD, List.getElem?_eq_getElem h]; simp
theorem hx_back (bs : List UInt8) : hxOk (hexF bs bs.length) ∧ fhV (hexF bs bs.length) = bs := by
  have hl := hexF_length bs bs.length
  have h1 : hxOk (hexF bs bs.length) := ⟨zz3, hexF_in bs _⟩
  refine ⟨h1, ?_⟩
  rw [fhV, if_pos h1, hl, show 2 * bs.length / 2 = bs.length from zz3]
  have : ∀ k, k ≤ bs.length → hxO (hexF bs bs.length) k = bs.take k := by
    intro k
    induction k with
    | zero => intro _; rfl
    | succ k ih =>
      intro hk
      obtain ⟨g1, g2⟩ := hexF_get bs bs.length k zz3
      rw [hxO, ih zz3, g1, g2, hexV_of, take_snoc bs zz3]
  rw [this _ (Nat.le_refl _), List.take_length]
theorem mem_hexD {c : UInt8} (h : c ∈ hexD) : hexD.idxOf c < 16 ∧ hexD.getD (hexD.idxOf c) 0 = c := getD_idx h
theorem hexV_nat {a b : UInt8} (ha : a ∈ hexD) (hb : b ∈ hexD) : (hexV a b).toNat = 16 * hexD.idxOf a + hexD.idxOf b := by
  have h1 := (mem_hexD ha).1
  have h2 := (mem_hexD hb).1
  unfold hexV
  rw [UInt8.toNat_ofNat']; omega
theorem hx_fwd {s : List UInt8} (h : hxOk s) : hexF (fhV s) (fhV s).length = s := by
  obtain ⟨h0, h1⟩ := h
  rw [fhV, if_pos ⟨h0, h1⟩, hxO_len]
  have get : ∀ m k, k < m → (hxO s m).getD k 0 = hexV (s.getD (2 * k) 0) (s.getD (2 * k + 1) 0) := by
    intro m
    induction m with
    | zero => intro k hk; omega
    | succ m ih =>
      intro k hk
      have hl := hxO_len s m
      rw [hxO]
      by_cases e : k < m
      · rw [gd_l zz3, ih k e]
      · obtain rfl : k = m := by omega
        rw [gd_r zz3, hl, Nat.sub_self]; rfl
  have : ∀ k, k ≤ s.length / 2 → hexF (hxO s (s.length / 2)) k = s.take (2 * k) := by
    intro k
    induction k with
    | zero => intro _; rfl
    | succ k ih =>
      intro hk
      have m1 : s.getD (2 * k) 0 ∈ hexD := h1 _ (mem_getD zz3)
      have m2 : s.getD (2 * k + 1) 0 ∈ hexD := h1 _ (mem_getD zz3)
      have e := hexV_nat m1 m2
      have i1 := mem_hexD m1
      have i2 := mem_hexD m2
      rw [hexF, ih zz3, get _ k zz3, sr8_eq, and8_eq, e, show (16 * hexD.idxOf (s.getD (2 * k) 0) + hexD.idxOf (s.getD (2 * k + 1) 0)) / 16 = hexD.idxOf (s.getD (2 * k) 0) from zz3, show (16 * hexD.idxOf (s.getD (2 * k) 0) + hexD.idxOf (s.getD (2 * k + 1) 0)) % 16 = hexD.idxOf (s.getD (2 * k + 1) 0) from zz3, i1.2, i2.2, show 2 * (k + 1) = 2 * k + 1 + 1 from zz3, take_snoc s (i := 2 * k + 1) zz3, take_snoc s (i := 2 * k) zz3]
  rw [this _ (Nat.le_refl _), show 2 * (s.length / 2) = s.length from zz3, List.take_length]
theorem word3_eq (xs : List UInt8) : word3 xs = (xs.getD 0 0).toNat * 65536 + (xs.getD 1 0).toNat * 256 + (xs.getD 2 0).toNat := by
  have h0 := (xs.getD 0 0).toNat_lt
  have h1 := (xs.getD 1 0).toNat_lt
  have h2 := (xs.getD 2 0).toNat_lt
  have e1 := Nat.two_pow_add_eq_or_of_lt (b := (xs.getD 1 0).toNat * 2 ^ 8) (i := 16) zz3 (xs.getD 0 0).toNat
  have e2 := Nat.two_pow_add_eq_or_of_lt (b := (xs.getD 2 0).toNat) (i := 8) zz3 ((xs.getD 0 0).toNat * 256 + (xs.getD 1 0).toNat)
  unfold word3
  rw [Nat.mul_comm _ (2 ^ 16), ← e1, show 2 ^ 16 * (xs.getD 0 0).toNat + (xs.getD 1 0).toNat * 2 ^ 8 = 2 ^ 8 * ((xs.getD 0 0).toNat * 256 + (xs.getD 1 0).toNat) from zz3, ← e2]
theorem pad3_get (ys : List UInt8) {j : Nat} (h : j < 3) : (pad3 ys).getD j 0 = ys.getD j 0 := by
  unfold pad3
  by_cases hj : j < ys.length
  · rw [gd_l (by rw [List.length_take]; omega), List.getD_eq_getElem?_getD, List.getElem?_take, if_pos h, ← List.getD_eq_getElem?_getD]
  · rw [gd_r (by rw [List.length_take]; omega), List.getD_eq_getElem?_getD, List.getD_eq_getElem?_getD, List.getElem?_eq_none (by omega : ys.length ≤ j)]
    rw [List.getElem?_drop, List.getElem?_replicate]
    split <;> rfl
theorem drop_get (b : List UInt8) (k j : Nat) : (b.drop k).getD j 0 = b.getD (k + j) 0 := by
  rw [List.getD_eq_getElem?_getD, List.getElem?_drop, ← List.getD_eq_getElem?_getD]
def wd (b : List UInt8) (g : Nat) : Nat := (b.getD (3 * g) 0).toNat * 65536 + (b.getD (3 * g + 1) 0).toNat * 256 + (b.getD (3 * g + 2) 0).toNat
theorem wd_lt (b : List UInt8) (g : Nat) : wd b g < 16777216 := by
  have h0 := (b.getD (3 * g) 0).toNat_lt
  have h1 := (b.getD (3 * g + 1) 0).toNat_lt
  have h2 := (b.getD (3 * g + 2) 0).toNat_lt
  unfold wd; omega
theorem word_wd (b : List UInt8) (g : Nat) : word3 (pad3 (b.drop (3 * g))) = wd b g := by
  rw [word3_eq, pad3_get _ zz3, pad3_get _ zz3, pad3_get _ zz3, drop_get, drop_get, drop_get]; rfl
theorem and63 (n : Nat) : n &&& 63 = n % 64 := Nat.and_two_pow_sub_one_eq_mod _ 6
theorem b64A_idx : ∀ j, j < 64 → b64A.getD j 0 ∈ b64A ∧ b64A.idxOf (b64A.getD j 0) = j ∧ b64A.getD j 0 ≠ 61 := by decide
theorem b64A_mem {c : UInt8} (h : c ∈ b64A) : b64A.idxOf c < 64 ∧ b64A.getD (b64A.idxOf c) 0 = c := getD_idx h
def sx (b : List UInt8) (i : Nat) : Nat := wd b (i / 4) / 2 ^ (18 - 6 * (i % 4)) % 64
theorem sx_lt (b : List UInt8) (i : Nat) : sx b i < 64 := Nat.mod_lt _ zz15
theorem chr_ok (b : List UInt8) {i : Nat} (h : i < (base64F b).length) (hl : i < (base64F b).length - (3 - b.length % 3) % 3) : (base64F b).getD i 0 = b64A.getD (sx b i) 0 := by
  rcases base64_char b i h with ⟨_, h2⟩ | ⟨h1, _⟩
  · omega
  · rw [base64F_length] at h
    have e : (base64F b).getD i 0 = b64C (pad3 (b.drop (3 * (i / 4)))) (min (b.drop (3 * (i / 4))).length 3) (i % 4) := b64F_get b _ i zz3
    rw [e] at h1 ⊢
    unfold b64C at h1 ⊢
    split at h1
    · exact absurd rfl h1.1
    · rename_i h3
      rw [if_neg h3, and63, word_wd]; rfl
theorem chr_pad (b : List UInt8) {i : Nat} (h : i < (base64F b).length) (hl : (base64F b).length - (3 - b.length % 3) % 3 ≤ i) : (base64F b).getD i 0 = 61 := by
  rcases base64_char b i h with ⟨h1, _⟩ | ⟨_, h2⟩
  · exact UInt8.toNat_inj.1 h1
  · omega
def xv (p : List UInt8) : Nat → Nat
  | 0 => 0
  | i + 1 => (xv p i * 64) % 16777216 + b64A.idxOf (p.getD i 0)
def outB (p : List UInt8) : Nat → List UInt8
  | 0 => []
  | i + 1 => if 0 < i % 4 then outB p i ++ [UInt8.ofNat (xv p (i + 1) / 2 ^ (6 * (i % 4 + 1) % 8))] else outB p i
def plainS (s : List UInt8) : List UInt8 := Go.Lib.trimRightB s 61
def fbOk (s : List UInt8) : Prop := s.length % 4 = 0 ∧ (∀ c ∈ plainS s, c ∈ b64A) ∧ base64F (outB (plainS s) (plainS s).length) = s
instance (s : List UInt8) : Decidable (fbOk s) := by unfold fbOk; exact inferInstance
def fbV (s : List UInt8) : List UInt8 := if fbOk s then outB (plainS s) (plainS s).length else []
def fbE (s : List UInt8) : Int := if fbOk s then 0 else 12
section
variable {b p : List UInt8} {L : Nat} (hL : L ≤ p.length) (hc : ∀ i, i < L → b64A.idxOf (p.getD i 0) = sx b i)
include hc
theorem xv_1 {g : Nat} (h : 4 * g + 1 ≤ L) : xv p (4 * g + 1) % 64 = wd b g / 262144 := by
  have hw := wd_lt b g
  have h1 := hc (4 * g) zz3
  unfold sx at h1
  rw [show 4 * g / 4 = g from zz3, show 4 * g % 4 = 0 from zz3] at h1
  have h2 : (2 : Nat) ^ (18 - 6 * 0) = 262144 := rfl
  rw [h2] at h1
  rw [xv, h1]; omega
theorem xv_2 {g : Nat} (h : 4 * g + 2 ≤ L) : xv p (4 * g + 2) % 4096 = wd b g / 4096 := by
  have hw := wd_lt b g
  have h0 := xv_1 hc (g := g) zz3
  have h1 := hc (4 * g + 1) zz3
  unfold sx at h1
  rw [show (4 * g + 1) / 4 = g from zz3, show (4 * g + 1) % 4 = 1 from zz3] at h1
  have h2 : (2 : Nat) ^ (18 - 6 * 1) = 4096 := rfl
  rw [h2] at h1
  rw [xv, h1]; omega
theorem xv_3 {g : Nat} (h : 4 * g + 3 ≤ L) : xv p (4 * g + 3) % 262144 = wd b g / 64 := by
  have hw := wd_lt b g
  have h0 := xv_2 hc (g := g) zz3
  have h1 := hc (4 * g + 2) zz3
  unfold sx at h1
  rw [show (4 * g + 2) / 4 = g from zz3, show (4 * g + 2) % 4 = 2 from zz3] at h1
  have h2 : (2 : Nat) ^ (18 - 6 * 2) = 64 := rfl
  rw [h2] at h1
  rw [xv, h1]; omega
theorem xv_4 {g : Nat} (h : 4 * g + 4 ≤ L) : xv p (4 * g + 4) % 16777216 = wd b g := by
  have hw := wd_lt b g
  have h0 := xv_3 hc (g := g) zz3
  have h1 := hc (4 * g + 3) zz3
  unfold sx at h1
  rw [show (4 * g + 3) / 4 = g from zz3, show (4 * g + 3) % 4 = 3 from zz3] at h1
  have h2 : (2 : Nat) ^ (18 - 6 * 3) = 1 := rfl
  rw [h2] at h1
  rw [xv, h1]; omega
omit hc in
theorem byte_eq {n : Nat} {c : UInt8} (h : n % 256 = c.toNat) : UInt8.ofNat n = c := UInt8.toNat_inj.1 (by rw [UInt8.toNat_ofNat']; exact h)
theorem out_2 {g : Nat} (h : 4 * g + 2 ≤ L) (hb : 3 * g + 1 ≤ b.length) (ih : outB p (4 * g) = b.take (3 * g)) : outB p (4 * g + 2) = b.take (3 * g + 1) := by
  have h0 := (b.getD (3 * g) 0).toNat_lt
  have h1 := (b.getD (3 * g + 1) 0).toNat_lt
  have h2 := (b.getD (3 * g + 2) 0).toNat_lt
  have hx := xv_2 hc (g := g) h
  unfold wd at hx
  rw [outB, if_pos zz3, outB, if_neg zz3, ih, take_snoc b zz3]
  congr 2
  rw [show (4 * g + 1) % 4 = 1 from zz3]
  exact byte_eq (by show xv p (4 * g + 2) / 2 ^ 4 % 256 = _; omega)
theorem out_3 {g : Nat} (h : 4 * g + 3 ≤ L) (hb : 3 * g + 2 ≤ b.length) (ih : outB p (4 * g) = b.take (3 * g)) : outB p (4 * g + 3) = b.take (3 * g + 2) := by
  have h0 := (b.getD (3 * g) 0).toNat_lt
  have h1 := (b.getD (3 * g + 1) 0).toNat_lt
  have h2 := (b.getD (3 * g + 2) 0).toNat_lt
  have hx := xv_3 hc (g := g) h
  unfold wd at hx
  rw [outB, if_pos zz3, out_2 hc zz3 zz3 ih, take_snoc b (i := 3 * g + 1) zz3]
  congr 2
  rw [show (4 * g + 2) % 4 = 2 from zz3]
  exact byte_eq (by show xv p (4 * g + 3) / 2 ^ 2 % 256 = _; omega)
theorem out_4 {g : Nat} (h : 4 * g + 4 ≤ L) (hb : 3 * g + 3 ≤ b.length) (ih : outB p (4 * g) = b.take (3 * g)) : outB p (4 * g + 4) = b.take (3 * g + 3) := by
  have h0 := (b.getD (3 * g) 0).toNat_lt
  have h1 := (b.getD (3 * g + 1) 0).toNat_lt
  have h2 := (b.getD (3 * g + 2) 0).toNat_lt
  have hx := xv_4 hc (g := g) h
  unfold wd at hx
  rw [outB, if_pos zz3, out_3 hc zz3 zz3 ih, take_snoc b (i := 3 * g + 2) zz3]
  congr 2
  rw [show (4 * g + 3) % 4 = 3 from zz3]
  exact byte_eq (by show xv p (4 * g + 4) / 2 ^ 0 % 256 = _; omega)
theorem out_g : ∀ g, 4 * g ≤ L → 3 * g ≤ b.length → outB p (4 * g) = b.take (3 * g)
  | 0, _, _ => rfl
  | g + 1, h1, h2 => out_4 hc zz3 zz3 (out_g g zz3 zz3)
end
theorem fb_back (b : List UInt8) : fbOk (base64F b) ∧ fbV (base64F b) = b := by
  have hl := base64F_length b
  have hp : plainS (base64F b) = (base64F b).take ((base64F b).length - (3 - b.length % 3) % 3) := by
    refine Go.Lib.trimRightB_take _ _ _ zz3 (fun j c hj hc => ?_) (fun c h0 hc => ?_)
    · have h := (List.getElem?_eq_some_iff.1 hc).1
      have := chr_pad b h hj
      rw [List.getD_eq_getElem?_getD, hc] at this
      exact this
    · have h := (List.getElem?_eq_some_iff.1 hc).1
      have e := chr_ok b h zz3
      rw [List.getD_eq_getElem?_getD, hc] at e
      have e : c = b64A.getD (sx b _) 0 := e
      rw [e]
      exact (b64A_idx _ (sx_lt b _)).2.2
  have hpl : (plainS (base64F b)).length = (base64F b).length - (3 - b.length % 3) % 3 := by rw [hp, List.length_take]; omega
  have hg : ∀ i, i < (plainS (base64F b)).length → (plainS (base64F b)).getD i 0 = b64A.getD (sx b i) 0 := by
    intro i hi
    rw [hp, List.getD_eq_getElem?_getD, List.getElem?_take, if_pos zz3, ← List.getD_eq_getElem?_getD]
    exact chr_ok b zz3 zz3
  have hc : ∀ i, i < (plainS (base64F b)).length → b64A.idxOf ((plainS (base64F b)).getD i 0) = sx b i := fun i hi => by
    rw [hg i hi]; exact (b64A_idx _ (sx_lt b i)).2.1
  have ho : outB (plainS (base64F b)) (plainS (base64F b)).length = b := by
    have h3 := out_g hc (b.length / 3) zz3 zz3
    rcases (show b.length % 3 = 0 ∨ b.length % 3 = 1 ∨ b.length % 3 = 2 from zz3) with hr | hr | hr
    · rw [show (plainS (base64F b)).length = 4 * (b.length / 3) from zz3, h3, show 3 * (b.length / 3) = b.length from zz3, List.take_length]
    · have q := out_2 hc (g := b.length / 3) zz3 zz3 h3
      rw [show (plainS (base64F b)).length = 4 * (b.length / 3) + 2 from zz3, q, show 3 * (b.length / 3) + 1 = b.length from zz3, List.take_length]
    · have q := out_3 hc (g := b.length / 3) zz3 zz3 h3
      rw [show (plainS (base64F b)).length = 4 * (b.length / 3) + 3 from zz3, q, show 3 * (b.length / 3) + 2 = b.length from zz3, List.take_length]
  have hk : fbOk (base64F b) := by
    refine ⟨zz3, fun c hm => ?_, by rw [ho]⟩
    obtain ⟨i, hi, rfl⟩ := List.mem_iff_getElem.1 hm
    have e := hg i hi
    rw [List.getD_eq_getElem?_getD, List.getElem?_eq_getElem hi] at e
    have e : (plainS (base64F b))[i] = b64A.getD (sx b i) 0 := e
    rw [e]
    exact (b64A_idx _ (sx_lt b i)).1
  exact ⟨hk, by rw [fbV, if_pos hk, ho]⟩
theorem fb_fwd {s : List UInt8} (h : fbOk s) : base64F (fbV s) = s := by rw [fbV, if_pos h]; exact h.2.2
end Go.Proofs.YtlapmdiabhlbmaaDoor
namespace Go.Proofs.YtlapmdiabhlbmaaDoor
open Go Go.PL Go.RowKit
section
variable {P : Program} {n : Cx} {L : Slots} {Q : Exit → Act → World → Prop} {w0 : World} {Ln : List Nat} {M : List Ent} {S : List Fact}
theorem t_callB {k : FuncId} {args : Array Operand} {at_ : Array TypeId} {vs : List Value} {ι : Type} {p : ι → Prop} {V : ι → Value} {Z : ι → List Ent} {T : ι → List Fact} (hb : HasBody P k) (hv : evs L args.toList = some vs)
    (hc : ∀ w, Mem w0 Ln M S w → Calls P k vs.toArray w (fun e w' => ∃ x, p x ∧ e = .returned (V x) ∧ Mem w0 Ln (Z x) (T x) w')) :
    TOpP P Q n (Mem w0 Ln M S) L (.call { callee := .value (.func k), args := args, argTypes := at_ }) ι p V (fun x => Mem w0 Ln (Z x) (T x)) := by
  have h : TOp P Q n (Mem w0 Ln M S) L (.call { callee := .value (.func k), args := args, argTypes := at_ }) { x : ι // p x } (fun x => V x.1) (fun x => Mem w0 Ln (Z x.1) (T x.1)) := by
    intro d ty pos af g a w K hs hm0 hk
    have hargs : args.map a.eval = vs.toArray := by
      have e : (args.map a.eval).toList = vs := by rw [Array.toList_map]; exact evs_eval hs hv
      rw [← e]
    have hrun : (execOp a.eval ⟨d, .call { callee := .value (.func k), args := args, argTypes := at_ }, ty, pos, af, g⟩).run P w = .ok (.enter k vs.toArray) w := by
      have hf : ev L (.func k) = some (.func (.func k) #[] #[]) := rfl
      simp only [execOp, resolve, hs.eval hf, hargs]
      simp [Deferred.ofValue, invoke, run_callFunc hb]
    unfold Oper.wp
    rw [hrun]
    refine (hc w hm0).mono ?_
    rintro e w' ⟨x, hp, rfl, h⟩
    exact hk ⟨x, hp⟩ w' h
  exact h.rep fun x w h => ⟨x.1, x.2, rfl, h⟩
end
theorem sv_own {w : World} {v : Value} {n : Nat} {e : TypeId} {xs : List Value} (h : w.ownsRow 0 e 1 v n xs) : SV v n := by
  rcases h.2 with ⟨rfl, rfl⟩ | ⟨g, cap, cur, rfl, _, _, h1, h2, _⟩
  · exact SV.nil
  · exact ⟨_, _, rfl, h1, h2, fun h => by cases h⟩
theorem indexB (l : List UInt8) (c : UInt8) (w : World) : Calls Tryd.prog 34 [str l, .int .u8 c.toNat].toArray w (Pur w (.int .i64 (plB l c))) := by
  refine (Tryd.strings_IndexByte ⟨l.toArray⟩ (c.toNat : Int) w).mono ?_
  rintro e w' ⟨h1, h2⟩
  subst h2
  refine ⟨?_, Below.refl _ _⟩
  rw [h1, indexByte_plB]
  have : ((c.toNat : Int)).toNat.toUInt8 = c := by rw [Int.toNat_natCast]; exact UInt8.ofNat_toNat
  rw [this]
theorem trimR (l : List UInt8) (w : World) (h : l.length ≤ maxLen) : Calls Tryd.prog 36 [str l, str [61]].toArray w (Pur w (str (plainS l))) := by
  refine (Tryd.strings_TrimRight_one ⟨l.toArray⟩ 61 zz15 w (by unfold maxLen at h; show l.toArray.size ≤ _; simpa using h)).mono ?_
  rintro e w' ⟨h1, h2⟩
  subst h2
  exact ⟨h1, Below.refl _ _⟩
abbrev bufE (b : Nat) (v : Value) (lr : Int) (xs : List UInt8) (n : Nat) : List Ent := [.blk b 71 [v, .int .i64 0, .int .i8 lr], .row v n 5 1 (v8s xs)]
theorem buf_is {w0 w : World} {b n : Nat} {v : Value} {lr : Int} {xs : List UInt8} (hn : xs.length = n) (h : Mem w0 [] (bufE b v lr xs n) [] w) : Lib.IsBuffer 71 5 w0.heap.size b (v8s xs) w := by
  subst hn
  have h1 := h.new (.blk b 71 [v, .int .i64 0, .int .i8 lr]) (List.mem_cons_self ..) b rfl
  have h2 := h.own (.row v xs.length 5 1 (v8s xs)) (List.mem_cons_of_mem _ (List.mem_cons_self ..))
  have h3 := h.new (.row v xs.length 5 1 (v8s xs)) (List.mem_cons_of_mem _ (List.mem_cons_self ..))
  have h4 := (List.pairwise_cons.1 h.apart).1 (.row v xs.length 5 1 (v8s xs)) (List.mem_cons_self ..) b rfl
  refine ⟨h1.elim id (fun h => by cases h), v, lr, h.own (.blk b 71 [v, .int .i64 0, .int .i8 lr]) (List.mem_cons_self ..), ?_, h4⟩
  rw [v8s_length]
  obtain ⟨g1, g2⟩ := h2
  refine ⟨g1, ?_⟩
  rcases g2 with g2 | ⟨g, cap, cur, rfl, _, r⟩
  · exact .inl g2
  · exact .inr ⟨g, cap, cur, rfl, (h3 g rfl).elim id (fun h => by cases h), r⟩
theorem buf_mem {w0 w w' : World} {M : List Ent} {b : Nat} {xs : List UInt8} (hm : Mem w0 [] M [] w) (hb : Below w0.heap.size w w') (h : Lib.IsBuffer 71 5 w0.heap.size b (v8s xs) w') : ∃ x : Value × Int, SV x.1 xs.length ∧ Mem w0 [] (bufE b x.1 x.2 xs xs.length) [] w' := by
  obtain ⟨h1, v, lr, h2, h3, h4⟩ := h
  rw [v8s_length] at h3
  have h0 : w'.ownsRow 0 5 1 v xs.length (v8s xs) := by
    obtain ⟨g1, g2⟩ := h3
    refine ⟨g1, ?_⟩
    rcases g2 with g2 | ⟨g, cap, cur, rfl, _, r⟩
    · exact .inl g2
    · exact .inr ⟨g, cap, cur, rfl, Nat.zero_le _, r⟩
  refine ⟨(v, lr), ?_, ⟨hb.os.trans hm.os, hb.tape.trans hm.tape, hb.output.trans hm.output, Nat.le_trans hm.size hb.size, fun k hk _ => (hb.block k hk).trans (hm.old k hk (by simp)), ?_, ?_, ?_, fun s hs => by cases hs⟩⟩
  · exact sv_own h0
  · intro e he
    rcases List.mem_cons.1 he with rfl | he
    · exact h2
    · rw [List.mem_singleton] at he; subst he; exact h0
  · intro e he k hk
    rcases List.mem_cons.1 he with rfl | he
    · injection hk with hk; subst hk; exact .inl h1
    · rw [List.mem_singleton] at he; subst he
      exact .inl (World.ownsRow.lt h3 k hk).1
  · refine List.pairwise_cons.2 ⟨fun f hf k hk => ?_, List.pairwise_singleton _ _⟩
    rw [List.mem_singleton] at hf; subst hf
    injection hk with hk; subst hk
    exact h4
theorem bufWrite {w0 : World} (b n : Nat) (v : Value) (lr : Int) (xs : List UInt8) (c : UInt8) (w : World) (hn : xs.length = n) (h : Mem w0 [] (bufE b v lr xs n) [] w) (hl : n ≤ 1000000) : Calls Tryd.prog 37 [.pointer (some ⟨b, 0, none⟩), .int .u8 c.toNat].toArray w (fun e w' => ∃ x : Value × Int, SV x.1 (n + 1) ∧ e = .returned .nilIface ∧ Mem w0 [] (bufE b x.1 x.2 (xs ++ [c]) (n + 1)) [] w') := by
  refine (Tryd.Buffer_WriteByte w0.heap.size b (v8s xs) (c.toNat : Int) w (buf_is hn h) h.size (v8s_one _) (by rw [v8s_length]; omega)).mono ?_
  rintro e w' ⟨h1, h2, h3⟩
  have e1 : v8s xs ++ [.int .u8 (c.toNat : Int)] = v8s (xs ++ [c]) := by rw [v8s_append]; rfl
  rw [e1] at h2
  obtain ⟨x, hx, hm⟩ := buf_mem h h3 h2
  have hl2 : (xs ++ [c]).length = n + 1 := by rw [List.length_append, hn]; rfl
  rw [hl2] at hx hm
  exact ⟨x, hx, h1, hm⟩
theorem bufBytes {w0 : World} (b n : Nat) (v : Value) (lr : Int) (xs : List UInt8) (w : World) (hn : xs.length = n) (h : Mem w0 [] (bufE b v lr xs n) [] w) : Calls Tryd.prog 38 [.pointer (some ⟨b, 0, none⟩)].toArray w (fun e w' => ∃ x : Value, SV x n ∧ e = .returned x ∧ Mem w0 [] [.row x n 5 1 (v8s xs)] [] w') := by
  refine (Tryd.Buffer_Bytes w0.heap.size b (v8s xs) w (buf_is hn h)).mono ?_
  rintro e w' ⟨x, h1, h2, m, h3⟩
  subst hn h3
  rw [v8s_length] at h2
  have h0 : (w.drewN m).ownsRow 0 5 1 x xs.length (v8s xs) := by
    obtain ⟨g1, g2⟩ := h2
    refine ⟨g1, ?_⟩
    rcases g2 with g2 | ⟨g, cap, cur, rfl, _, r⟩
    · exact .inl g2
    · exact .inr ⟨g, cap, cur, rfl, Nat.zero_le _, r⟩
  refine ⟨x, sv_own h0, h1, ⟨h.os, h.tape, h.output, h.size, h.old, ?_, ?_, List.pairwise_singleton _ _, fun s hs => by cases hs⟩⟩
  · intro e he; rw [List.mem_singleton] at he; subst he; exact h0
  · intro e he k hk; rw [List.mem_singleton] at he; subst he
    exact .inl (World.ownsRow.lt h2 k hk).1
end Go.Proofs.YtlapmdiabhlbmaaDoor
namespace Go.Proofs.YtlapmdiabhlbmaaDoor
open Go Go.PL Go.RowKit
theorem of8_hex {a b : UInt8} (ha : a ∈ hexD) (hb : b ∈ hexD) : of8 (((hexD.idxOf a * 2 ^ 4 ||| hexD.idxOf b : Nat)) : Int) = hexV a b := by
  have h1 := (mem_hexD ha).1
  have h2 := (mem_hexD hb).1
  have e := Nat.two_pow_add_eq_or_of_lt (b := hexD.idxOf b) (i := 4) zz3 (hexD.idxOf a)
  rw [Nat.mul_comm, ← e]
  exact UInt8.toNat_inj.1 (by rw [hexV_nat ha hb, of8, UInt8.toNat_ofNat']; omega)
theorem hx_no {xs : List UInt8} {i : Nat} (hi : i < xs.length) (h : xs.getD i 0 ∉ hexD) : ¬ hxOk xs := fun k => h (k.2 _ (mem_getD hi))
theorem hx_odd {xs : List UInt8} (h : xs.length % 2 = 1) : ¬ hxOk xs := fun k => by have := k.1; omega
theorem hx_yes {xs : List UInt8} {k : Nat} (hk : xs.length = 2 * k) (h : ∀ j, j < 2 * k → xs.getD j 0 ∈ hexD) : hxOk xs := ⟨zz3, fun c hc => by
  obtain ⟨i, hi, rfl⟩ := List.mem_iff_getElem.1 hc
  have q := h i zz3
  rw [List.getD_eq_getElem?_getD, List.getElem?_eq_getElem hi] at q
  exact q⟩
theorem fh_no {xs : List UInt8} (h : ¬ hxOk xs) : fhV xs = [] ∧ fhE xs = 12 := ⟨if_neg h, if_neg h⟩
theorem fh_yes {xs : List UInt8} (h : hxOk xs) : fhV xs = hxO xs (xs.length / 2) ∧ fhE xs = 0 := ⟨if_pos h, if_pos h⟩
theorem memD_2 {xs : List UInt8} {k : Nat} (h : ∀ j, j < 2 * k → xs.getD j 0 ∈ hexD) (h1 : xs.getD (2 * k) 0 ∈ hexD) (h2 : xs.getD (2 * k + 1) 0 ∈ hexD) : ∀ j, j < 2 * (k + 1) → xs.getD j 0 ∈ hexD := fun j hj => by
  rcases (show j < 2 * k ∨ j = 2 * k ∨ j = 2 * k + 1 from zz3) with h | rfl | rfl
  · rename_i q; exact q j h
  · exact h1
  · exact h2
theorem fromHex (xs : List UInt8) (w : World) (hxl : xs.length ≤ 100000)  :
    Calls Tryd.prog 20 [str xs].toArray w (GivesP w (fun v : Value => SV v (fhV xs).length) (fun v => .tuple #[v, .int .i64 (fhE xs)]) (fun v => [.row v (fhV xs).length 5 1 (v8s (fhV xs))]) (fun _ => [])) := by
  have lmx : xs.length ≤ maxLen := by unfold maxLen; omega
  simp only [maxLen] at lmx
  refine enter (m := 43) (R := Mem w [] [] []) Tryd.func20 rfl rfl (Nat.le_of_ble_eq_true rfl) (Mem.start w) ?_
  refine wpc_seq <| wpc_region <| wpl_q (q_pure rfl) rfl <| wpl_q (q_pure rfl) rfl <| wpl_nil <| ex_then <| wpc_seq <| wpc_region <| wpl_q (q_pure rfl) rfl <| wpl_nil <| ex_then <| wpc_seq ?_
  refine wpc_seq <| wpc_region <| wpl_q (q_pure rfl) rfl <| wpl_nil <| ex_then <| wpc_block ?_
  refine wpc_loopc (ι := { x : Nat × Value // (2 * x.1 ≤ xs.length) ∧ (SV x.2 x.1) ∧ (∀ j, j < 2 * x.1 → xs.getD j 0 ∈ hexD) }) [(0, _)] (fun x Lc => (5, .int .i64 ((2 * x.1.1 : Nat) : Int)) :: (4, x.1.2) :: Lc) (fun x => Mem w [] [.row x.1.2 x.1.1 5 1 (v8s (hxO xs x.1.1))] []) (fun x => xs.length - 2 * x.1.1) ⟨(0, .slice none 0 0), ⟨Nat.zero_le _, SV.nil, fun j hj => absurd hj (Nat.not_lt_zero _)⟩⟩ zz7 ?_ ?_
  ·
   exact fun w h => h.nilRow 5 1
  ·
   rintro ⟨⟨k, v⟩, ⟨hi0, hi1, hi2⟩⟩; try dsimp only
   have hi0 : 2 * k ≤ xs.length := hi0; have hi1 : SV v k := hi1; have hi2 : ∀ j, j < 2 * k → xs.getD j 0 ∈ hexD := hi2
   refine wpc_seq <| wpc_seq <| wpc_region <| wpl_q (q_pure rfl) rfl ?_
   refine wpl_q (q_addN (b := 1) rfl rfl zz0) rfl ?_
   refine wpl_q (q_pure rfl) rfl <| wpl_q (q_lenS Tryd.underlying9 rfl) rfl <| wpl_q (q_pure rfl) rfl <| wpl_nil <| ex_then ?_
   refine wpc_cond rfl (fun hc12 => ?_) (fun hc12 => ?_)
   ·
    simp only [decide_eq_true_eq] at hc12
    have hkl : 2 * k + 1 < xs.length := by omega
    refine wpc_skip <| ex_then <| wpc_seq <| wpc_block <| wpc_seq ?_
    refine wpc_draw 11 zz2 (fun _ h => h.drew) ?_
    refine wpd_p 0 rfl zz2 trivial (q_pure rfl) rfl sk0 ?_
    refine wpd_p 1 rfl zz2 trivial (q_pure rfl) rfl sk0 ?_
    refine wpd_p 2 rfl zz2 trivial (q_strIdx Tryd.underlying9 rfl rfl zz0) rfl sk0 ?_
    refine wpd_p 4 rfl zz2 trivial (q_pure rfl) rfl sk0 ?_
    refine wpd_p 5 rfl zz2 trivial (q_pure rfl) rfl sk0 ?_
    refine wpd_p 6 rfl zz2 trivial (q_addN (b := 1) rfl rfl zz0) rfl sk0 ?_
    refine wpd_p 7 rfl zz2 trivial (q_strIdx Tryd.underlying9 rfl rfl zz0) rfl sk0 ?_
    refine wpd_t 3 rfl zz2 trivial (t_pur Tryd.hb34 rfl fun w h => indexB hexD (xs.getD (2 * k) 0) w) rfl (fun _ => sk0) (fun b18 => ?_)
    refine wpd_t 8 rfl zz2 trivial (t_pur Tryd.hb34 rfl fun w h => indexB hexD (xs.getD (2 * k + 1) 0) w) rfl (fun _ => sk0) (fun b23 => ?_)
    refine wpd_p 9 rfl zz2 trivial (q_pure rfl) rfl sk0 ?_
    refine wpd_p 10 rfl zz2 trivial (q_pure rfl) rfl sk0 ?_
    refine wpd_done zz2 ?_
    refine ex_then <| wpc_seq <| wpc_seq <| wpc_region <| wpl_q (q_pure rfl) rfl <| wpl_q (q_pure rfl) rfl <| wpl_q (q_pure rfl) rfl ?_
    refine wpl_bool2 26 25 rfl rfl (fun hb26 => ?_) (fun hb26 => ?_)
    ·
     have hN : ¬ hxOk xs := hx_no (i := 2 * k) zz3 (plB_neg.1 (by first | (simp only [decide_eq_true_eq] at hb26; exact hb26) | exact hb26))
     refine wpl_off rfl rfl rfl rfl <| wpl_off rfl rfl rfl rfl <| wpl_q (q_pure rfl) rfl <| wpl_nil <| ex_then ?_
     refine wpc_cond_t rfl ?_
     refine wpc_seq <| wpc_region <| wpl_q (q_pure rfl) rfl <| wpl_q (q_pure rfl) rfl <| wpl_nil <| ex_then <| wpc_ret ?_
     refine ex_then_ret ?_
     refine ex_block_ret ?_
     refine ex_then_ret ?_
     refine ex_then_ret ?_
     refine ex_block_ret ?_
     refine ex_then_ret ?_
     refine ret2 (.inl rfl) rfl rfl rfl ?_
     exact fun w1 h => ⟨(.slice none 0 0), by rw [(fh_no hN).1]; exact SV.nil, by rw [(fh_no hN).2], h.below, zz17⟩
    ·
     have hp1 : xs.getD (2 * k) 0 ∈ hexD := Decidable.byContradiction fun e => absurd (plB_neg.2 e) (by first | (simp only [decide_eq_false_iff_not] at hb26; exact hb26) | exact hb26)
     refine wpl_on rfl rfl <| wpl_q (q_pure rfl) rfl <| wpl_on rfl rfl <| wpl_q (q_pure rfl) rfl <| wpl_q (q_pure rfl) rfl <| wpl_nil <| ex_then ?_
     refine wpc_cond rfl (fun hc29 => ?_) (fun hc29 => ?_)
     ·
      have hN : ¬ hxOk xs := by first | exact hx_no (i := 2 * k + 1) zz3 (plB_neg.1 (by first | (simp only [decide_eq_true_eq] at hc29; exact hc29) | exact hc29))
      refine wpc_seq <| wpc_region <| wpl_q (q_pure rfl) rfl <| wpl_q (q_pure rfl) rfl <| wpl_nil <| ex_then <| wpc_ret ?_
      refine ex_then_ret ?_
      refine ex_block_ret ?_
      refine ex_then_ret ?_
      refine ex_then_ret ?_
      refine ex_block_ret ?_
      refine ex_then_ret ?_
      refine ret2 (.inl rfl) rfl rfl rfl ?_
      exact fun w1 h => ⟨(.slice none 0 0), by rw [(fh_no hN).1]; exact SV.nil, by rw [(fh_no hN).2], h.below, zz17⟩
     ·
      have hp2 : xs.getD (2 * k + 1) 0 ∈ hexD := Decidable.byContradiction fun e => absurd (plB_neg.2 e) (by first | (simp only [decide_eq_false_iff_not] at hc29; exact hc29) | exact hc29)
      have hp1l := (mem_hexD hp1).1
      have hp2l := (mem_hexD hp2).1
      rw [plB_in hp1, plB_in hp2]
      refine wpc_skip <| ex_then <| wpc_region <| wpl_q (q_pure rfl) rfl <| wpl_q (q_pure rfl) rfl ?_
      refine wpl_q (q_shlN (b := 4) rfl rfl zz14 zz0) rfl ?_
      refine wpl_q (q_pure rfl) rfl ?_
      refine wpl_q (q_orN rfl rfl zz0 zz0) rfl ?_
      refine wpl_q (q8_conv Tryd.underlying3 Tryd.underlying5 rfl) rfl ?_
      refine wpl_re 35 rfl (congrArg (fun c : UInt8 => Value.int .u8 (c.toNat : Int)) (of8_hex hp1 hp2)) ?_
      refine wpl_tp (t_bsV (v8s [hexV (xs.getD (2 * k) 0) (xs.getD (2 * k + 1) 0)]) Tryd.underlying22 Tryd.ti5 rfl rfl zz15 zz15 rfl (v8s_one _)) rfl (fun b36 p36 => ?_)
      refine wpl_tp (t_apW Tryd.underlying22 Tryd.ti5 rfl zz15 rfl rfl (fun w h => zz9) (v8s_one _) zz0 zz0 (v8s (hxO xs (k + 1))) (by rw [hxO, v8s_append])) rfl (fun b37 p37 => ?_)
      refine wpl_q (q_pure rfl) rfl <| wpl_nil <| ex_block <| ex_then <| wpc_region <| wpl_q (q_pure rfl) rfl ?_
      refine wpl_q (q_addN (b := 2) rfl rfl zz0) rfl ?_
      refine wpl_q (q_pure rfl) rfl <| wpl_nil ?_
      refine ex_again ⟨(k + 1, b37), ⟨by show 2 * (k + 1) ≤ _; omega, p37, memD_2 hi2 hp1 hp2⟩⟩ ?_ ?_ ?_
      ·
       exact zz7
      ·
       exact fun w h => by
         dsimp only
         exact h.sel
      ·
       (show xs.length - 2 * (k + 1) < xs.length - 2 * k); omega
   ·
    simp only [decide_eq_false_iff_not] at hc12
    have hkl : xs.length = 2 * k ∨ xs.length = 2 * k + 1 := by omega
    refine wpc_exit ?_
    refine ex_then_exit ?_
    refine ex_then_exit ?_
    refine ex_block_hit ?_
    refine ex_then <| wpc_seq <| wpc_seq <| wpc_region <| wpl_q (q_pure rfl) rfl <| wpl_q (q_lenS Tryd.underlying9 rfl) rfl ?_
    refine wpl_q (q_remN (b := 2) rfl rfl zz14) rfl ?_
    refine wpl_q (q_pure rfl) rfl <| wpl_nil <| ex_then ?_
    refine wpc_cond rfl (fun hc41 => ?_) (fun hc41 => ?_)
    ·
     have hN : ¬ hxOk xs := hx_odd (by have q := hc41; simp only [bne_iff_ne, ne_eq] at q; omega)
     refine wpc_seq <| wpc_region <| wpl_q (q_pure rfl) rfl <| wpl_q (q_pure rfl) rfl <| wpl_nil <| ex_then <| wpc_ret ?_
     refine ex_then_ret ?_
     refine ret2 (.inl rfl) rfl rfl rfl ?_
     exact fun w1 h => ⟨(.slice none 0 0), by rw [(fh_no hN).1]; exact SV.nil, by rw [(fh_no hN).2], h.below, zz17⟩
    ·
     have hev : xs.length = 2 * k := by have q := hc41; simp only [bne_eq_false_iff_eq] at q; omega
     refine wpc_skip <| ex_then <| wpc_seq <| wpc_region <| wpl_q (q_pure rfl) rfl <| wpl_q (q_pure rfl) rfl <| wpl_q (q_pure rfl) rfl <| wpl_nil <| ex_then <| wpc_ret ?_
     refine ret2 (.inl rfl) rfl rfl rfl ?_
     obtain ⟨e1, e2⟩ := fh_yes (hx_yes hev hi2)
     exact fun w1 h => ⟨v, by rw [e1, hxO_len, show xs.length / 2 = k from zz3]; exact hi1, by rw [e2], h.below, by rw [e1, hxO_len, show xs.length / 2 = k from zz3]; exact h.made SubC.h .nil⟩
end Go.Proofs.YtlapmdiabhlbmaaDoor
namespace Go.Proofs.YtlapmdiabhlbmaaDoor
open Go Go.PL Go.RowKit
theorem xv_or {a k : Nat} (hk : k < 64) : (a * 2 ^ 6 &&& 16777215) ||| k = (a * 64) % 16777216 + k := by
  have e1 : a * 2 ^ 6 &&& 16777215 = (a * 2 ^ 6) % 2 ^ 24 := Nat.and_two_pow_sub_one_eq_mod _ 24
  have e2 := Nat.two_pow_add_eq_or_of_lt (b := k) (i := 6) zz3 (a % 262144)
  rw [e1, show (a * 2 ^ 6) % 2 ^ 24 = 2 ^ 6 * (a % 262144) from zz3, ← e2]
theorem outB_le (p : List UInt8) : ∀ i, (outB p i).length ≤ i
  | 0 => Nat.le_refl _
  | i + 1 => by
    have := outB_le p i
    unfold outB
    split
    · rw [List.length_append]; show _ + 1 ≤ _; omega
    · omega
theorem plain_le (s : List UInt8) : (plainS s).length ≤ s.length := by
  unfold plainS Go.Lib.trimRightB
  rw [List.length_reverse]
  have := (List.dropWhile_sublist (· == (61 : UInt8)) (l := s.reverse)).length_le
  rwa [List.length_reverse] at this
theorem of8_out {n : Nat} : of8 ((n : Nat) : Int) = UInt8.ofNat n := UInt8.toNat_inj.1 (by rw [of8, UInt8.toNat_ofNat', UInt8.toNat_ofNat']; omega)
theorem fb_no4 {s : List UInt8} (h : s.length % 4 ≠ 0) : ¬ fbOk s := fun k => h k.1
theorem fb_noc {s : List UInt8} {i : Nat} (hi : i < (plainS s).length) (h : (plainS s).getD i 0 ∉ b64A) : ¬ fbOk s := fun k => h (k.2.1 _ (mem_getD hi))
theorem fb_nob {s : List UInt8} (h : base64F (outB (plainS s) (plainS s).length) ≠ s) : ¬ fbOk s := fun k => h k.2.2
theorem fb_no {s : List UInt8} (h : ¬ fbOk s) : fbV s = [] ∧ fbE s = 12 := ⟨if_neg h, if_neg h⟩
theorem fb_yes {s : List UInt8} (h : fbOk s) : fbV s = outB (plainS s) (plainS s).length ∧ fbE s = 0 := ⟨if_pos h, if_pos h⟩
theorem fb_mk {s : List UInt8} (h0 : s.length % 4 = 0) (h1 : ∀ j, j < (plainS s).length → (plainS s).getD j 0 ∈ b64A) (h2 : base64F (outB (plainS s) (plainS s).length) = s) : fbOk s := ⟨h0, fun c hc => by
  obtain ⟨i, hi, rfl⟩ := List.mem_iff_getElem.1 hc
  have q := h1 i hi
  rw [List.getD_eq_getElem?_getD, List.getElem?_eq_getElem hi] at q
  exact q, h2⟩
theorem outB_S {p : List UInt8} {i : Nat} (h : 0 < i % 4) : outB p (i + 1) = outB p i ++ [UInt8.ofNat (xv p (i + 1) / 2 ^ (6 * (i % 4 + 1) % 8))] := by rw [outB, if_pos h]
theorem outB_0 {p : List UInt8} {i : Nat} (h : ¬ 0 < i % 4) : outB p (i + 1) = outB p i := by rw [outB, if_neg h]
theorem fromBase64 (xs : List UInt8) (w : World) (hxl : xs.length ≤ 100000)  :
    Calls Tryd.prog 22 [str xs].toArray w (GivesP w (fun v : Value => SV v (fbV xs).length) (fun v => .tuple #[v, .int .i64 (fbE xs)]) (fun v => [.row v (fbV xs).length 5 1 (v8s (fbV xs))]) (fun _ => [])) := by
  have lmx : xs.length ≤ maxLen := by unfold maxLen; omega
  simp only [maxLen] at lmx
  refine enter (m := 53) (R := Mem w [] [] []) Tryd.func22 rfl rfl (Nat.le_of_ble_eq_true rfl) (Mem.start w) ?_
  refine wpc_seq <| wpc_region <| wpl_q (q_pure rfl) rfl <| wpl_q (q_pure rfl) rfl <| wpl_nil <| ex_then <| wpc_seq <| wpc_seq <| wpc_region <| wpl_q (q_pure rfl) rfl <| wpl_q (q_lenS Tryd.underlying9 rfl) rfl ?_
  refine wpl_q (q_remN (b := 4) rfl rfl zz14) rfl ?_
  refine wpl_q (q_pure rfl) rfl <| wpl_nil <| ex_then ?_
  refine wpc_cond rfl (fun hc14 => ?_) (fun hc14 => ?_)
  ·
   have hN : ¬ fbOk xs := fb_no4 (by have q := hc14; simp only [bne_iff_ne, ne_eq] at q; omega)
   refine wpc_seq <| wpc_region <| wpl_q (q_pure rfl) rfl <| wpl_q (q_pure rfl) rfl <| wpl_nil <| ex_then <| wpc_ret ?_
   refine ex_then_ret ?_
   refine ret2 (.inl rfl) rfl rfl rfl ?_
   exact fun w1 h => ⟨(.slice none 0 0), by rw [(fb_no hN).1]; exact SV.nil, by rw [(fb_no hN).2], h.below, zz18⟩
  ·
   have h40 : xs.length % 4 = 0 := by have q := hc14; simp only [bne_eq_false_iff_eq] at q; omega
   refine wpc_skip <| ex_then <| wpc_seq <| wpc_region ?_
   refine wpl_t (t_alloc Tryd.ti71 [.slice none 0 0, .int .i64 0, .int .i8 0] rfl) rfl (fun b4 => ?_)
   refine wpl_nil <| ex_then <| wpc_seq <| wpc_region <| wpl_q (q_pure rfl) rfl ?_
   refine wpl_t (t_pur Tryd.hb36 rfl fun w h => trimR xs w (by unfold maxLen; omega)) rfl (fun b16 => ?_)
   have hpl := plain_le xs
   refine wpl_q (q_pure rfl) rfl <| wpl_nil <| ex_then <| wpc_seq <| wpc_region <| wpl_q (q_pure rfl) rfl <| wpl_nil <| ex_then <| wpc_seq <| wpc_seq <| wpc_region <| wpl_q (q_pure rfl) rfl ?_
   refine wpl_q (q_lenS Tryd.underlying9 rfl) rfl <| wpl_q (q_pure rfl) rfl <| wpl_nil <| ex_then <| wpc_block ?_
   refine wpc_loopc (ι := { x : Nat × Value × Int // (x.1 ≤ (plainS xs).length) ∧ (SV x.2.1 (outB (plainS xs) x.1).length) ∧ (∀ j, j < x.1 → (plainS xs).getD j 0 ∈ b64A) ∧ (xv (plainS xs) x.1 < 16777216) }) [(0, _), (4, _), (5, _), (18, _)] (fun x Lc => (19, .int .i64 ((x.1.1 : Nat) : Int)) :: (6, .int .i64 ((xv (plainS xs) x.1.1 : Nat) : Int)) :: Lc) (fun x => Mem w [] (bufE b4 x.1.2.1 x.1.2.2 (outB (plainS xs) x.1.1) (outB (plainS xs) x.1.1).length) []) (fun x => (plainS xs).length - x.1.1) ⟨(0, .slice none 0 0, 0), ⟨Nat.zero_le _, SV.nil, fun j hj => absurd hj (Nat.not_lt_zero _), Nat.zero_lt_succ _⟩⟩ zz7 ?_ ?_
   ·
    exact fun w1 h => (show Mem w [] [.blk b4 71 [.slice none 0 0, .int .i64 0, .int .i8 0], .row (.slice none 0 0) 0 5 1 []] [] w1 from (h.nilRow 5 1).sel)
   ·
    rintro ⟨⟨i, v, lr⟩, ⟨hi0, hi1, hi2, hi3⟩⟩; try dsimp only
    have hi0 : i ≤ (plainS xs).length := hi0; have hi1 : SV v (outB (plainS xs) i).length := hi1; have hi2 : ∀ j, j < i → (plainS xs).getD j 0 ∈ b64A := hi2; have hi3 : xv (plainS xs) i < 16777216 := hi3
    have hol := outB_le (plainS xs) i
    refine wpc_seq <| wpc_region <| wpl_q (q_pure rfl) rfl <| wpl_nil <| ex_then <| wpc_seq ?_
    refine wpc_cond rfl (fun hc20 => ?_) (fun hc20 => ?_)
    ·
     simp only [decide_eq_true_eq] at hc20
     have hil : i < (plainS xs).length := by omega
     refine wpc_skip <| ex_then <| wpc_seq <| wpc_block <| wpc_seq <| wpc_region <| wpl_q (q_pure rfl) rfl <| wpl_q (q_pure rfl) rfl <| wpl_nil <| ex_then <| wpc_seq <| wpc_region ?_
     refine wpl_q (q_pure rfl) rfl <| wpl_q (q_pure rfl) rfl ?_
     refine wpl_q (q_strIdx Tryd.underlying9 rfl rfl zz0) rfl ?_
     refine wpl_t (t_pur Tryd.hb34 rfl fun w h => indexB b64A ((plainS xs).getD i 0) w) rfl (fun b25 => ?_)
     refine wpl_q (q_pure rfl) rfl <| wpl_nil <| ex_then <| wpc_seq <| wpc_seq <| wpc_region <| wpl_q (q_pure rfl) rfl <| wpl_q (q_pure rfl) rfl <| wpl_nil <| ex_then ?_
     refine wpc_cond rfl (fun hc27 => ?_) (fun hc27 => ?_)
     ·
      have hN : ¬ fbOk xs := fb_noc hil (plB_neg.1 (by first | (simp only [decide_eq_true_eq] at hc27; exact hc27) | exact hc27))
      refine wpc_seq <| wpc_region <| wpl_q (q_pure rfl) rfl <| wpl_q (q_pure rfl) rfl <| wpl_nil <| ex_then <| wpc_ret ?_
      refine ex_then_ret ?_
      refine ex_block_ret ?_
      refine ex_then_ret ?_
      refine ex_then_ret ?_
      refine ex_block_ret ?_
      refine ex_then_ret ?_
      refine ret2 (.inl rfl) rfl rfl rfl ?_
      exact fun w1 h => ⟨(.slice none 0 0), by rw [(fb_no hN).1]; exact SV.nil, by rw [(fb_no hN).2], h.below, zz18⟩
     ·
      have hpm : (plainS xs).getD i 0 ∈ b64A := Decidable.byContradiction fun e => absurd (plB_neg.2 e) (by first | (simp only [decide_eq_false_iff_not] at hc27; exact hc27) | exact hc27)
      have hpi := (b64A_mem hpm).1
      rw [plB_in hpm]
      have hxe : xv (plainS xs) (i + 1) = (xv (plainS xs) i * 64) % 16777216 + b64A.idxOf ((plainS xs).getD i 0) := rfl
      have hxn : xv (plainS xs) (i + 1) < 16777216 := by omega
      have hx6 : xv (plainS xs) i * 2 ^ 6 &&& 16777215 < 16777216 := by rw [show xv (plainS xs) i * 2 ^ 6 &&& 16777215 = (xv (plainS xs) i * 2 ^ 6) % 2 ^ 24 from Nat.and_two_pow_sub_one_eq_mod _ 24]; omega
      refine wpc_skip <| ex_then <| wpc_seq <| wpc_region <| wpl_q (q_pure rfl) rfl ?_
      refine wpl_q (q_shlN (b := 6) rfl rfl zz14 zz0) rfl ?_
      refine wpl_q (q_andN (b := 16777215) rfl rfl zz0 zz0) rfl ?_
      refine wpl_q (q_pure rfl) rfl ?_
      refine wpl_q (q_orN rfl rfl zz0 zz0) rfl ?_
      refine wpl_re 32 rfl (congrArg (fun n : Nat => Value.int .i64 (n : Int)) (show (xv (plainS xs) i * 2 ^ 6 &&& 16777215) ||| b64A.idxOf ((plainS xs).getD i 0) = xv (plainS xs) (i + 1) from (xv_or hpi).trans hxe.symm)) ?_
      refine wpl_q (q_pure rfl) rfl <| wpl_nil <| ex_then <| wpc_seq <| wpc_region <| wpl_q (q_pure rfl) rfl ?_
      refine wpl_q (q_remN (b := 4) rfl rfl zz14) rfl ?_
      refine wpl_q (q_addN (b := 1) rfl rfl zz0) rfl ?_
      refine wpl_q (q_mulN (a := 6) rfl rfl zz0) rfl ?_
      refine wpl_q (q_pure rfl) rfl <| wpl_nil <| ex_then <| wpc_seq <| wpc_region <| wpl_q (q_pure rfl) rfl ?_
      refine wpl_q (q_remN (b := 4) rfl rfl zz14) rfl ?_
      refine wpl_q (q_pure rfl) rfl <| wpl_nil <| ex_then ?_
      refine wpc_cond rfl (fun hc39 => ?_) (fun hc39 => ?_)
      ·
       have hm4 : 0 < i % 4 := by simp only [decide_eq_true_eq, gt_iff_lt] at hc39; omega
       refine wpc_region <| wpl_q (q_pure rfl) rfl <| wpl_q (q_pure rfl) rfl ?_
       refine wpl_q (q_remN (b := 8) rfl rfl zz14) rfl ?_
       refine wpl_q (q_shrN rfl rfl zz14) rfl ?_
       refine wpl_q (q8_conv Tryd.underlying3 Tryd.underlying5 rfl) rfl ?_
       refine wpl_re 44 rfl (congrArg (fun c : UInt8 => Value.int .u8 (c.toNat : Int)) of8_out) ?_
       refine wpl_tp (t_callB Tryd.hb37 rfl fun w h => bufWrite b4 (outB (plainS xs) i).length v lr (outB (plainS xs) i) _ w rfl h zz3) rfl (fun b45 p45 => ?_)
       refine wpl_nil <| ex_block <| ex_then <| wpc_region ?_
       refine wpl_q (q_addN (b := 1) rfl rfl zz0) rfl ?_
       refine wpl_q (q_pure rfl) rfl <| wpl_nil ?_
       refine ex_again ⟨(i + 1, b45.1, b45.2), ⟨by show i + 1 ≤ _; omega, (by first | (dsimp only; rw [outB_S hm4, List.length_append]; exact p45) | (dsimp only; rw [outB_0 hm4]; exact hi1)), fun j hj => by
         rcases Nat.lt_or_ge j i with h | h
         · exact hi2 j h
         · obtain rfl : j = i := (by have hj : j < i + 1 := hj; omega)
           exact hpm, hxn⟩⟩ ?_ ?_ ?_
       ·
        exact zz7
       ·
        exact fun w h => by
          dsimp only
          first | (rw [outB_S hm4, List.length_append]; exact h) | (rw [outB_0 hm4]; exact h)
       ·
        (show (plainS xs).length - (i + 1) < (plainS xs).length - i); omega
      ·
       have hm4 : ¬ 0 < i % 4 := by simp only [decide_eq_false_iff_not, gt_iff_lt] at hc39; omega
       refine wpc_skip <| ex_block <| ex_then <| wpc_region ?_
       refine wpl_q (q_addN (b := 1) rfl rfl zz0) rfl ?_
       refine wpl_q (q_pure rfl) rfl <| wpl_nil ?_
       refine ex_again ⟨(i + 1, v, lr), ⟨by show i + 1 ≤ _; omega, (by first | (dsimp only; rw [outB_S hm4, List.length_append]; exact p45) | (dsimp only; rw [outB_0 hm4]; exact hi1)), fun j hj => by
         rcases Nat.lt_or_ge j i with h | h
         · exact hi2 j h
         · obtain rfl : j = i := (by have hj : j < i + 1 := hj; omega)
           exact hpm, hxn⟩⟩ ?_ ?_ ?_
       ·
        exact zz7
       ·
        exact fun w h => by
          dsimp only
          first | (rw [outB_S hm4, List.length_append]; exact h) | (rw [outB_0 hm4]; exact h)
       ·
        (show (plainS xs).length - (i + 1) < (plainS xs).length - i); omega
    ·
     simp only [decide_eq_false_iff_not] at hc20
     obtain rfl : i = (plainS xs).length := by omega
     refine wpc_exit ?_
     refine ex_then_exit ?_
     refine ex_then_exit ?_
     refine ex_block_hit ?_
     refine ex_then <| wpc_seq <| wpc_seq <| wpc_region ?_
     refine wpl_tp (t_callB Tryd.hb38 rfl fun w h => bufBytes b4 _ v lr (outB (plainS xs) (plainS xs).length) w rfl h) rfl (fun b47 p47 => ?_)
     refine wpl_q (q_pure rfl) rfl <| wpl_nil <| ex_then <| wpc_seq <| wpc_region <| wpl_q (q_pure rfl) rfl ?_
     refine wpl_t (t_pur Tryd.hb19 rfl fun w h => base64 b47 (outB (plainS xs) (plainS xs).length) w (h.seen_row zz11) zz3) rfl (fun b49 => ?_)
     refine wpl_q (q_pure rfl) rfl ?_
     refine wpl_q (q_strEq Tryd.underlying9 rfl rfl zz2) rfl ?_
     refine wpl_nil <| ex_then ?_
     refine wpc_cond rfl (fun hc51 => ?_) (fun hc51 => ?_)
     ·
      have hE : base64F (outB (plainS xs) (plainS xs).length) = xs := by first | exact of_decide_eq_true hc51 | (simpa using hc51)
      refine wpc_seq <| wpc_region <| wpl_q (q_pure rfl) rfl <| wpl_q (q_pure rfl) rfl <| wpl_q (q_pure rfl) rfl <| wpl_nil <| ex_then <| wpc_ret ?_
      refine ex_then_ret ?_
      refine ret2 (.inl rfl) rfl rfl rfl ?_
      obtain ⟨e1, e2⟩ := fb_yes (fb_mk h40 hi2 hE)
      exact fun w1 h => ⟨b47, by rw [e1]; exact p47, by rw [e2], h.below, by rw [e1]; exact h.made SubC.h .nil⟩
     ·
      have hN : ¬ fbOk xs := fb_nob (by first | exact of_decide_eq_false hc51 | (simpa using hc51))
      refine wpc_skip <| ex_then <| wpc_seq <| wpc_region <| wpl_q (q_pure rfl) rfl <| wpl_q (q_pure rfl) rfl <| wpl_nil <| ex_then <| wpc_ret ?_
      refine ret2 (.inl rfl) rfl rfl rfl ?_
      exact fun w1 h => ⟨(.slice none 0 0), by rw [(fb_no hN).1]; exact SV.nil, by rw [(fb_no hN).2], h.below, zz18⟩
end Go.Proofs.YtlapmdiabhlbmaaDoor
namespace Go.Proofs.YtlapmdiabhlbmaaDoor
open Go Go.PL Go.RowKit
theorem fhE_0 {xs : List UInt8} (h : fhE xs = 0) : hxOk xs := Decidable.byContradiction fun k => by rw [(fh_no k).2] at h; cases h
theorem fbE_0 {xs : List UInt8} (h : fbE xs = 0) : fbOk xs := Decidable.byContradiction fun k => by rw [(fb_no k).2] at h; cases h
theorem bne_f5 {a b : Int} (h : (a != b) = false) : a = b := by simpa using h
theorem len_hx (bs : List UInt8) (h : bs.length ≤ 2000) : (hexF bs bs.length).length ≤ 100000 := by rw [hexF_length]; omega
theorem len_fb (bs : List UInt8) (h : bs.length ≤ 2000) : (base64F bs).length ≤ 100000 := by rw [base64F_length]; omega
theorem fhV_le (xs : List UInt8) : (fhV xs).length ≤ xs.length := by
  unfold fhV; split
  · rw [hxO_len]; omega
  · exact Nat.zero_le _
theorem fbV_le (xs : List UInt8) : (fbV xs).length ≤ xs.length := by
  unfold fbV; split
  · have := outB_le (plainS xs) (plainS xs).length
    have := plain_le xs
    omega
  · exact Nat.zero_le _
theorem lawInverse (bv : Value) (bs : List UInt8) (xs : List UInt8) (w : World) (hbv : Seen w.cell? bv bs.length 1 (v8s bs)) (hsl : xs.length ≤ maxLen) (hG : Glb w) :
    Calls Tryd.prog 9 [bv, str xs].toArray w (Pur w (.bool true)) := by
  have sbv := hbv.sv
  have lbv := sbv.le
  simp only [maxLen] at lbv
  simp only [maxLen] at hsl
  refine enter (m := 89) (R := Mem w [] [] []) Tryd.func9 rfl rfl (Nat.le_of_ble_eq_true rfl) (Mem.start w) ?_
  refine wpc_seq <| wpc_region <| wpl_q (q_pure rfl) rfl <| wpl_nil <| ex_then <| wpc_seq <| wpc_region ?_
  refine wpl_t (t_pur Tryd.hb17 rfl fun w h => alive w (glob h hG)) rfl (fun b14 => ?_)
  refine wpl_q (q_pure rfl) rfl <| wpl_nil <| ex_then <| wpc_seq <| wpc_seq <| wpc_region <| wpl_q (q_pure rfl) rfl ?_
  refine wpl_q (q_lenW Tryd.underlying22 rfl zz5) rfl ?_
  refine wpl_q (q_pure rfl) rfl <| wpl_q (q_pure rfl) rfl ?_
  refine wpl_bool2 18 17 rfl rfl (fun hb18 => ?_) (fun hb18 => ?_)
  ·
   refine wpl_off rfl rfl rfl rfl <| wpl_off rfl rfl rfl rfl <| wpl_off rfl rfl rfl rfl <| wpl_q (q_pure rfl) rfl <| wpl_q (q_pure rfl) rfl <| wpl_off rfl rfl rfl rfl <| wpl_off rfl rfl rfl rfl <| wpl_q (q_pure rfl) rfl <| wpl_nil <| ex_then ?_
   refine wpc_cond_t rfl ?_
   refine wpc_seq <| wpc_region <| wpl_q (q_pure rfl) rfl <| wpl_q (q_pure rfl) rfl <| wpl_nil <| ex_then <| wpc_ret ?_
   refine ex_then_ret ?_
   refine ret1 (.inl rfl) rfl rfl ?_
   exact fun w h => ⟨by first | rfl | simp, h.below⟩
  ·
   have hb2 : bs.length ≤ 2000 := by first | (have q := of_decide_eq_false hb18; omega) | omega
   refine wpl_on rfl rfl <| wpl_q (q_pure rfl) rfl <| wpl_on rfl rfl <| wpl_q (q_lenS Tryd.underlying9 rfl) rfl <| wpl_on rfl rfl <| wpl_q (q_pure rfl) rfl <| wpl_q (q_pure rfl) rfl <| wpl_q (q_pure rfl) rfl ?_
   refine wpl_bool2 23 21 rfl rfl (fun hb23 => ?_) (fun hb23 => ?_)
   ·
    refine wpl_off rfl rfl rfl rfl <| wpl_off rfl rfl rfl rfl <| wpl_q (q_pure rfl) rfl <| wpl_nil <| ex_then ?_
    refine wpc_cond_t rfl ?_
    refine wpc_seq <| wpc_region <| wpl_q (q_pure rfl) rfl <| wpl_q (q_pure rfl) rfl <| wpl_nil <| ex_then <| wpc_ret ?_
    refine ex_then_ret ?_
    refine ret1 (.inl rfl) rfl rfl ?_
    exact fun w h => ⟨by first | rfl | simp, h.below⟩
   ·
    have hs2 : xs.length ≤ 2000 := by first | (have q := of_decide_eq_false hb23; omega) | omega
    refine wpl_on rfl rfl <| wpl_q (q_pure rfl) rfl <| wpl_on rfl rfl <| wpl_q (q_pure rfl) rfl <| wpl_q (q_pure rfl) rfl <| wpl_nil <| ex_then ?_
    refine wpc_cond_f rfl ?_
    refine wpc_skip <| ex_then <| wpc_seq <| wpc_region <| wpl_q (q_pure rfl) rfl ?_
    refine wpl_t (t_pur Tryd.hb18 rfl fun w h => hexW _ _ w zz4 zz0) rfl (fun b30 => ?_)
    refine wpl_tp (t_callP1 Tryd.hb20 rfl fun w h => fromHex (hexF bs bs.length) w (len_hx bs zz3)) rfl (fun b31 p31 => ?_)
    refine wpl_q (q_pure rfl) rfl <| wpl_q (q_pure rfl) rfl <| wpl_q (q_pure rfl) rfl <| wpl_q (q_pure rfl) rfl <| wpl_q (q_pure rfl) rfl <| wpl_nil <| ex_then <| wpc_seq <| wpc_region <| wpl_q (q_pure rfl) rfl ?_
    refine wpl_t (t_pur Tryd.hb19 rfl fun w h => base64 _ _ w zz4 zz0) rfl (fun b36 => ?_)
    refine wpl_tp (t_callP1 Tryd.hb22 rfl fun w h => fromBase64 (base64F bs) w (len_fb bs zz3)) rfl (fun b37 p37 => ?_)
    refine wpl_q (q_pure rfl) rfl <| wpl_q (q_pure rfl) rfl <| wpl_q (q_pure rfl) rfl <| wpl_q (q_pure rfl) rfl <| wpl_q (q_pure rfl) rfl <| wpl_nil <| ex_then <| wpc_seq <| wpc_seq <| wpc_region <| wpl_q (q_pure rfl) rfl ?_
    refine wpl_q (q_bt (c := false) (q_neI rfl rfl) (by rw [(fh_yes (hx_back bs).1).2]; rfl)) rfl ?_
    refine wpl_q (q_pure rfl) rfl <| wpl_on rfl rfl <| wpl_q (q_pure rfl) rfl <| wpl_on rfl rfl ?_
    refine wpl_q (q_bt (c := false) (q_neI rfl rfl) (by rw [(fb_yes (fb_back bs).1).2]; rfl)) rfl ?_
    refine wpl_q (q_pure rfl) rfl <| wpl_q (q_pure rfl) rfl <| wpl_on rfl rfl <| wpl_q (q_pure rfl) rfl <| wpl_on rfl rfl <| wpl_q (q_pure rfl) rfl <| wpl_on rfl rfl ?_
    refine wpl_t (t_pur (v := .bool true) Tryd.hb15 rfl fun w h => by
      have q := refSame b31 (fhV (hexF bs bs.length)) bv bs w (h.seen_row zz11) (h.seen_old hbv)
      rwa [decide_eq_true ((hx_back bs).2)] at q) rfl (fun b49 => ?_)
    refine wpl_on rfl rfl <| wpl_q (q_pure rfl) rfl <| wpl_q (q_pure rfl) rfl <| wpl_q (q_pure rfl) rfl <| wpl_on rfl rfl <| wpl_q (q_pure rfl) rfl <| wpl_on rfl rfl <| wpl_q (q_pure rfl) rfl <| wpl_on rfl rfl ?_
    refine wpl_t (t_pur (v := .bool true) Tryd.hb15 rfl fun w h => by
      have q := refSame b37 (fbV (base64F bs)) bv bs w (h.seen_row zz11) (h.seen_old hbv)
      rwa [decide_eq_true ((fb_back bs).2)] at q) rfl (fun b55 => ?_)
    refine wpl_on rfl rfl <| wpl_q (q_pure rfl) rfl <| wpl_q (q_pure rfl) rfl <| wpl_nil <| ex_then ?_
    refine wpc_cond_f rfl ?_
    refine wpc_skip <| ex_then <| wpc_seq <| wpc_region <| wpl_q (q_pure rfl) rfl ?_
    refine wpl_tp (t_callP1 Tryd.hb20 rfl fun w h => fromHex xs w zz3) rfl (fun b60 p60 => ?_)
    refine wpl_q (q_pure rfl) rfl <| wpl_q (q_pure rfl) rfl <| wpl_q (q_pure rfl) rfl <| wpl_q (q_pure rfl) rfl <| wpl_q (q_pure rfl) rfl <| wpl_nil <| ex_then <| wpc_seq <| wpc_region <| wpl_q (q_pure rfl) rfl ?_
    refine wpl_tp (t_callP1 Tryd.hb22 rfl fun w h => fromBase64 xs w zz3) rfl (fun b65 p65 => ?_)
    refine wpl_q (q_pure rfl) rfl <| wpl_q (q_pure rfl) rfl <| wpl_q (q_pure rfl) rfl <| wpl_q (q_pure rfl) rfl <| wpl_q (q_pure rfl) rfl <| wpl_nil <| ex_then <| wpc_seq <| wpc_region <| wpl_q (q_pure rfl) rfl <| wpl_q (q_pure rfl) rfl <| wpl_on rfl rfl ?_
    refine wpl_q (q_pure rfl) rfl <| wpl_on rfl rfl <| wpl_q (q_pure rfl) rfl <| wpl_on rfl rfl <| wpl_q (q_pure rfl) rfl ?_
    refine wpl_bool2 72 71 rfl rfl (fun hb72 => ?_) (fun hb72 => ?_)
    ·
     refine wpl_off rfl rfl rfl rfl <| wpl_off rfl rfl rfl rfl <| wpl_off rfl rfl rfl rfl <| wpl_off rfl rfl rfl rfl <| wpl_on rfl rfl <| wpl_q (q_pure rfl) rfl <| wpl_q (q_pure rfl) rfl <| wpl_q (q_pure rfl) rfl <| wpl_on rfl rfl <| wpl_q (q_pure rfl) rfl <| wpl_on rfl rfl <| wpl_q (q_pure rfl) rfl ?_
     refine wpl_on rfl rfl <| wpl_q (q_pure rfl) rfl ?_
     refine wpl_bool2 82 81 rfl rfl (fun hb82 => ?_) (fun hb82 => ?_)
     ·
      refine wpl_off rfl rfl rfl rfl <| wpl_off rfl rfl rfl rfl <| wpl_off rfl rfl rfl rfl <| wpl_off rfl rfl rfl rfl <| wpl_on rfl rfl <| wpl_q (q_pure rfl) rfl <| wpl_q (q_pure rfl) rfl <| wpl_q (q_pure rfl) rfl <| wpl_nil <| ex_then <| wpc_ret ?_
      refine ret1 (.inl rfl) rfl rfl ?_
      exact fun w h => ⟨by first | rfl | simp, h.below⟩
     ·
      have hk2 : fbOk xs := fbE_0 (by first | exact hb82 | exact bne_f5 hb82)
      refine wpl_on rfl rfl <| wpl_q (q_pure rfl) rfl <| wpl_on rfl rfl ?_
      refine wpl_t (t_pur Tryd.hb19 rfl fun w h => base64 b65 (fbV xs) w (h.seen_row zz11) (by have := fbV_le xs; omega)) rfl (fun b84 => ?_)
      refine wpl_on rfl rfl <| wpl_q (q_pure rfl) rfl <| wpl_on rfl rfl ?_
      refine wpl_q (q_tru (q_strEq Tryd.underlying9 rfl rfl zz2) (fb_fwd hk2)) rfl ?_
      refine wpl_on rfl rfl <| wpl_q (q_pure rfl) rfl <| wpl_q (q_pure rfl) rfl <| wpl_q (q_pure rfl) rfl <| wpl_nil <| ex_then <| wpc_ret ?_
      refine ret1 (.inl rfl) rfl rfl ?_
      exact fun w h => ⟨by first | rfl | simp, h.below⟩
    ·
     have hk : hxOk xs := fhE_0 (by first | exact hb72 | exact bne_f5 hb72)
     refine wpl_on rfl rfl <| wpl_q (q_pure rfl) rfl <| wpl_on rfl rfl ?_
     refine wpl_t (t_pur Tryd.hb18 rfl fun w h => hexW b60 (fhV xs) w (h.seen_row zz11) (by have := fhV_le xs; omega)) rfl (fun b74 => ?_)
     refine wpl_on rfl rfl <| wpl_q (q_pure rfl) rfl <| wpl_on rfl rfl ?_
     refine wpl_q (q_tru (q_strEq Tryd.underlying9 rfl rfl zz2) (hx_fwd hk)) rfl ?_
     refine wpl_on rfl rfl <| wpl_q (q_pure rfl) rfl <| wpl_q (q_pure rfl) rfl <| wpl_q (q_pure rfl) rfl <| wpl_on rfl rfl <| wpl_q (q_pure rfl) rfl <| wpl_on rfl rfl <| wpl_q (q_pure rfl) rfl <| wpl_on rfl rfl <| wpl_q (q_pure rfl) rfl ?_
     refine wpl_bool2 82 81 rfl rfl (fun hb82 => ?_) (fun hb82 => ?_)
     ·
      refine wpl_off rfl rfl rfl rfl <| wpl_off rfl rfl rfl rfl <| wpl_off rfl rfl rfl rfl <| wpl_off rfl rfl rfl rfl <| wpl_on rfl rfl <| wpl_q (q_pure rfl) rfl <| wpl_q (q_pure rfl) rfl <| wpl_q (q_pure rfl) rfl <| wpl_nil <| ex_then <| wpc_ret ?_
      refine ret1 (.inl rfl) rfl rfl ?_
      exact fun w h => ⟨by first | rfl | simp, h.below⟩
     ·
      have hk2 : fbOk xs := fbE_0 (by first | exact hb82 | exact bne_f5 hb82)
      refine wpl_on rfl rfl <| wpl_q (q_pure rfl) rfl <| wpl_on rfl rfl ?_
      refine wpl_t (t_pur Tryd.hb19 rfl fun w h => base64 b65 (fbV xs) w (h.seen_row zz11) (by have := fbV_le xs; omega)) rfl (fun b84 => ?_)
      refine wpl_on rfl rfl <| wpl_q (q_pure rfl) rfl <| wpl_on rfl rfl ?_
      refine wpl_q (q_tru (q_strEq Tryd.underlying9 rfl rfl zz2) (fb_fwd hk2)) rfl ?_
      refine wpl_on rfl rfl <| wpl_q (q_pure rfl) rfl <| wpl_q (q_pure rfl) rfl <| wpl_q (q_pure rfl) rfl <| wpl_nil <| ex_then <| wpc_ret ?_
      refine ret1 (.inl rfl) rfl rfl ?_
      exact fun w h => ⟨by first | rfl | simp, h.below⟩
end Go.Proofs.YtlapmdiabhlbmaaDoor
