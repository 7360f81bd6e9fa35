/- What the printed functions of the clock compute, in the words of the plain text Clk. -/
import Derived.Test.YtoefmoniafhgfaaClk
import Derived.Test.YtoefmoniafhgfaaPClockNextx5
namespace Go.Proofs.Ytoefmoniafhgfaa.PClockNext
open Go.RowKit Go.Proofs.Ytoefmoniafhgfaa.Clk Go.Proofs.YtoefmoniafhgfaaW.PrintWords

theorem chk_eq (s d : Int) : clock_CheckClock.f s d = some (chk s d) := by
  unfold clock_CheckClock.f chk valB
  by_cases h1 : s < -1048576
  · rw [if_pos h1, if_neg (by simp; omega)]
  · rw [if_neg h1]
    by_cases h2 : s > 1048576
    · rw [if_pos h2, if_neg (by simp; omega)]
    · rw [if_neg h2]
      by_cases h3 : d < -1000
      · rw [if_pos h3, if_neg (by simp; omega)]
      · rw [if_neg h3]
        by_cases h4 : d > 1000
        · rw [if_pos h4, if_neg (by simp; omega)]
        · rw [if_neg h4, if_pos (by simp; omega)]

theorem tim_eq (t : Int) : clock_isTime.f t = some (timB t) := by
  unfold clock_isTime.f timB
  by_cases h : t ≥ 0
  · rw [if_pos h]; simp; omega
  · rw [if_neg h]; simp; omega

theorem floor_f {a b : Int} (hb : 0 < b) (h0 : -9000000000000000000 ≤ a) (h1 : a ≤ 9000000000000000000) : clock_floor.f a b = some (a / b) := by
  unfold clock_floor.f
  have hl : -9000000000000000000 ≤ a / b := by
    have := Int.le_ediv_iff_mul_le (c := b) (a := -9000000000000000000) (b := a) hb
    have h2 : -9000000000000000000 * b ≤ a := by omega
    exact this.2 h2
  have hh : a / b ≤ 9000000000000000000 := by
    have := Int.ediv_lt_iff_lt_mul (c := b) (a := a) (b := 9000000000000000001) hb
    have h2 : a < 9000000000000000001 * b := by omega
    have := this.2 h2
    omega
  have ht := tdiv_bd (a := a) hb
  have he := floor_eq (a := a) hb
  rw [if_neg (by omega), w64 (n := a.tdiv b) (by omega) (by omega)]
  by_cases h : a.tmod b < 0
  · rw [if_pos h] at he ⊢
    rw [w64 (by omega) (by omega), he]
  · rw [if_neg h] at he ⊢
    rw [he]

theorem shown_eq {s d t : Int} (hv : Valid s d) (h0 : 0 ≤ t) (h1 : t ≤ 1099511627777) : clock_rate_shown.f s d t = some (S s d t) := by
  have hb := S_bd hv h0 h1
  have hv' := hv
  obtain ⟨a1, a2, a3, a4⟩ := hv'
  unfold clock_rate_shown.f
  have e : t + s + t * d / 1000000 = S s d t := rfl
  rw [w64 (n := t * d) (by omega) (by omega), floor_f (by omega) (by omega) (by omega)]
  simp only [Option.bind_some]
  rw [w64 (n := t + s) (by omega) (by omega), w64 (by omega) (by omega), e]

theorem read_eq (s d t : Int) : clock_Read.f s d t = some (readV s d t) := by
  unfold clock_Read.f readV
  rw [chk_eq]; simp only [Option.bind_some, chk]
  cases hv : valB s d
  · rfl
  · simp only [if_true]
    rw [tim_eq]; simp only [Option.bind_some]
    cases ht : timB t
    · simp
    · have ht' := timB_iff.1 ht
      simp only [if_true]
      rw [shown_eq (valB_iff.1 hv) ht'.1 (by omega)]; rfl

theorem begin_eq {s d n : Int} (hv : Valid s d) (h0 : -4398046511104 ≤ n) (h1 : n ≤ 4398046511105) : clock_rate_begin.f s d n = some (Bg s d n) := by
  have hb := Bg_bd hv h0 h1
  obtain ⟨a1, a2, a3, a4⟩ := hv
  have e : -((-(n - s) * 1000000) / (1000000 + d)) = Bg s d n := rfl
  unfold clock_rate_begin.f
  rw [w64 (n := n - s) (by omega) (by omega), w64 (n := -(n - s)) (by omega) (by omega), w64 (n := -(n - s) * 1000000) (by omega) (by omega), w64 (n := 1000000 + d) (by omega) (by omega), floor_f (by omega) (by omega) (by omega)]
  simp only [Option.bind_some]
  rw [w64 (by omega) (by omega), e]

theorem sure_eq (s d n : Int) (k : Nat) : clock_Sure.f (k + 1) s d n = some (sureV s d n) := by
  unfold clock_Sure.f sureV
  rw [chk_eq]; simp only [Option.bind_some, chk]
  cases hv : valB s d
  · rfl
  · simp only [if_true]
    have hv' := valB_iff.1 hv
    unfold sure
    by_cases h1 : n < -4398046511104
    · rw [if_pos h1, if_pos (Or.inl h1)]; rfl
    · rw [if_neg h1]
      by_cases h2 : n > 4398046511104
      · rw [if_pos (Or.inr h2), decide_eq_true h2]; rfl
      · rw [if_neg (by omega), decide_eq_false h2]
        have b1 := Bg_bd hv' (n := n) (by omega) (by omega)
        have b2 := Bg_bd hv' (n := n + 1) (by omega) (by omega)
        simp only [clock_Sure.j0, Bool.false_eq_true, if_false]
        rw [begin_eq hv' (by omega) (by omega)]; simp only [Option.bind_some]
        rw [w64 (n := n + 1) (by omega) (by omega), begin_eq hv' (by omega) (by omega)]; simp only [Option.bind_some]
        rw [w64 (by omega) (by omega)]
        have em : ∀ a b : Int, mx a b = max a b := fun a b => by unfold mx; omega
        have en : ∀ a b : Int, mn a b = min a b := fun a b => by unfold mn; omega
        rw [em, en]
        by_cases h3 : min 1099511627776 (Bg s d (n + 1) - 1) < max 0 (Bg s d n)
        · rw [if_pos h3, if_pos h3]
        · rw [if_neg h3, if_neg h3]
end Go.Proofs.Ytoefmoniafhgfaa.PClockNext
