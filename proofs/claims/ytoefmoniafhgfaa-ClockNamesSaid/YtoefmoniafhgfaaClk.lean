/- Plain arithmetic of clocks: what a clock shows, the first time at which it shows at least a number, and that both programs compute this. -/
import Derived.RowKit
namespace Go.Proofs.Ytoefmoniafhgfaa.Clk
open Go.RowKit

theorem w64 {n : Int} (h0 : -9223372036854775808 ≤ n) (h1 : n ≤ 9223372036854775807) : wrap64 n = n := by
  unfold wrap64; omega

theorem mulb {t d T D : Int} (h0 : 0 ≤ t) (hT : t ≤ T) (hd0 : -D ≤ d) (hd1 : d ≤ D) (hD : 0 ≤ D) : -(T * D) ≤ t * d ∧ t * d ≤ T * D := by
  have h1 : t * d ≤ t * D := Int.mul_le_mul_of_nonneg_left hd1 h0
  have h2 : t * D ≤ T * D := Int.mul_le_mul_of_nonneg_right hT hD
  have h3 : t * (-D) ≤ t * d := Int.mul_le_mul_of_nonneg_left hd0 h0
  have h4 : t * (-D) = -(t * D) := Int.mul_neg t D
  omega

/-- Go's division and the correction are the floor. -/
theorem floor_eq {a b : Int} (hb : 0 < b) : (if Int.tmod a b < 0 then Int.tdiv a b - 1 else Int.tdiv a b) = a / b := by
  rw [Int.tdiv_eq_ediv, Int.tmod_eq_emod]
  have hs : b.sign = 1 := Int.sign_eq_one_of_pos hb
  have hm0 : 0 ≤ a % b := Int.emod_nonneg a (by omega)
  have hm1 : a % b < b := Int.emod_lt_of_pos a hb
  have hn : (b.natAbs : Int) = b := Int.natAbs_of_nonneg (by omega)
  by_cases h : 0 ≤ a ∨ b ∣ a
  · simp only [h, if_true]
    rw [if_neg (by omega)]
    omega
  · simp only [h, if_false]
    rw [hs]
    by_cases h2 : a % b - ↑b.natAbs < 0
    · rw [if_pos h2]; omega
    · omega

theorem tdiv_bd {a b : Int} (hb : 0 < b) : a / b ≤ Int.tdiv a b ∧ Int.tdiv a b ≤ a / b + 1 := by
  rw [Int.tdiv_eq_ediv]
  have hs : b.sign = 1 := Int.sign_eq_one_of_pos hb
  by_cases h : 0 ≤ a ∨ b ∣ a
  · simp only [h, if_true]; omega
  · simp only [h, if_false]; rw [hs]; omega

/-- What a clock shows. -/
def S (s d t : Int) : Int := t + s + (t * d) / 1000000
/-- Where a valid clock is asked. -/
def Valid (s d : Int) : Prop := -1048576 ≤ s ∧ s ≤ 1048576 ∧ -1000 ≤ d ∧ d ≤ 1000
/-- The first number at which the clock shows at least n. -/
def Bg (s d n : Int) : Int := -((-(n - s) * 1000000) / (1000000 + d))

theorem ge_iff {s d n t : Int} (hv : Valid s d) : n ≤ S s d t ↔ Bg s d n ≤ t := by
  obtain ⟨_, _, h3, h4⟩ := hv
  have hp : 0 < 1000000 + d := by omega
  have e1 : t * (1000000 + d) = t * 1000000 + t * d := Int.mul_add t 1000000 d
  unfold S Bg
  have hq : (n ≤ t + s + t * d / 1000000) ↔ (n - s) * 1000000 ≤ t * (1000000 + d) := by
    rw [e1]
    generalize t * d = p
    omega
  rw [hq]
  generalize hx : (n - s) * 1000000 = x
  have hx' : -(n - s) * 1000000 = -x := by omega
  rw [hx']
  have := Int.le_ediv_iff_mul_le (c := 1000000 + d) (a := -t) (b := -x) hp
  rw [Int.neg_mul] at this
  omega

theorem S_mono {s d t u : Int} (hv : Valid s d) (h : t ≤ u) : S s d t ≤ S s d u :=
  (ge_iff hv).2 (Int.le_trans ((ge_iff hv).1 (Int.le_refl _)) h)

theorem S_bd {s d t : Int} (hv : Valid s d) (h0 : 0 ≤ t) (h1 : t ≤ 1099511627777) :
    -1099511627777000 ≤ t * d ∧ t * d ≤ 1099511627777000 ∧ -1100562132992 ≤ S s d t ∧ S s d t ≤ 1101712100354 := by
  obtain ⟨a1, a2, h3, h4⟩ := hv
  have hb := mulb (D := 1000) h0 h1 h3 h4 (by omega)
  unfold S
  generalize t * d = p at *
  omega

theorem Bg_bd {s d n : Int} (hv : Valid s d) (h0 : -4398046511104 ≤ n) (h1 : n ≤ 4398046511105) :
    -4403000000000000000 ≤ (n - s) * 1000000 ∧ (n - s) * 1000000 ≤ 4403000000000000000 ∧ -4410000000000 ≤ Bg s d n ∧ Bg s d n ≤ 4410000000000 := by
  obtain ⟨a1, a2, h3, h4⟩ := hv
  refine ⟨by omega, by omega, ?_⟩
  unfold Bg
  have hx' : -(n - s) * 1000000 = -((n - s) * 1000000) := by omega
  rw [hx']
  have hp : 0 < 1000000 + d := by omega
  have hlo : -4403000000000000000 ≤ (n - s) * 1000000 := by omega
  have hhi : (n - s) * 1000000 ≤ 4403000000000000000 := by omega
  generalize (n - s) * 1000000 = x at *
  have e1 := Int.le_ediv_iff_mul_le (c := 1000000 + d) (a := -4410000000000) (b := -x) hp
  have e2 := Int.ediv_lt_iff_lt_mul (c := 1000000 + d) (a := -x) (b := 4410000000000) hp
  have m1 : -4410000000000 * (1000000 + d) ≤ -x := by omega
  have m2 : -x < 4410000000000 * (1000000 + d) := by omega
  have g1 := e1.2 m1
  have g2 := e2.2 m2
  omega

/-- What Sure returns: the two ends and the error. -/
def sure (s d n : Int) : Int × Int × Int :=
  if n < -4398046511104 ∨ 4398046511104 < n then (0, 0, 6)
  else
    let a := max 0 (Bg s d n)
    let b := min 1099511627776 (Bg s d (n + 1) - 1)
    if b < a then (0, 0, 6) else (a, b, 0)
/-- What Read returns. -/
def valB (s d : Int) : Bool := decide (-1048576 ≤ s) && decide (s ≤ 1048576) && decide (-1000 ≤ d) && decide (d ≤ 1000)
theorem valB_iff {s d : Int} : valB s d = true ↔ Valid s d := by
  simp only [valB, Valid, Bool.and_eq_true, decide_eq_true_eq, and_assoc]
def timB (t : Int) : Bool := decide (0 ≤ t) && decide (t ≤ 1099511627776)
theorem timB_iff {t : Int} : timB t = true ↔ 0 ≤ t ∧ t ≤ 1099511627776 := by simp [timB]
def chk (s d : Int) : Int := if valB s d then 0 else 8
def readV (s d t : Int) : Int × Int := if valB s d then (if timB t then (S s d t, 0) else (0, 2)) else (0, 8)
def sureV (s d n : Int) : Int × Int × Int := if valB s d then sure s d n else (0, 0, 8)
end Go.Proofs.Ytoefmoniafhgfaa.Clk
