/- Next of the program and of the reference return the same. -/
import Derived.Test.YtoefmoniafhgfaaK0
namespace Go.Proofs.Ytoefmoniafhgfaa
set_option linter.unusedSimpArgs false
set_option linter.unusedVariables false
open Go Go.PL Go.RowKit

namespace WN
open Go.Proofs.Ytoefmoniafhgfaa.PClockWindows Go.Proofs.YtoefmoniafhgfaaW.PrintWords
open Go.Proofs.Ytoefmoniafhgfaa.Clk (w64)
/-- What is known of the least element behind t of the first elements. -/
def Good (t : Int) (l : List Int) (n : Int) (b : Bool) : Prop :=
  (b = true → n ∈ l ∧ n > t ∧ ∀ x ∈ l, x > t → n ≤ x) ∧ (b = false → n = 0 ∧ ∀ x ∈ l, ¬ x > t)

theorem take_succ' (l : List Int) (i : Nat) (h : i < l.length) : l.take (i + 1) = l.take i ++ [rd l i] := by
  rw [List.take_succ_eq_append_getElem h]
  congr 1
  simp [rd, h]

theorem least_l0 (t : Int) (l : List Int) (hl : l.length ≤ 1200) (m : Nat) : ∀ (k : Nat) (n : Int) (b : Bool) (i : Nat), i ≤ l.length → l.length - i ≤ m → m < k → Good t (l.take i) n b →
    ∃ r c, clock_least.l0 k t n b l l.length i = some (r, c) ∧ Good t l r c := by
  induction m with
  | zero =>
    intro k n b i h0 h1 hk hg
    obtain ⟨k, rfl⟩ : ∃ j, k = j + 1 := ⟨k - 1, by omega⟩
    refine ⟨n, b, ?_, ?_⟩
    · simp only [clock_least.l0]; rw [if_neg (by omega)]
    · rw [List.take_of_length_le (by omega)] at hg; exact hg
  | succ m ih =>
    intro k n b i h0 h1 hk hg
    obtain ⟨k, rfl⟩ : ∃ j, k = j + 1 := ⟨k - 1, by omega⟩
    by_cases hlt : i < l.length
    · have ei : wrap64 ((i : Int) + 1) = ((i + 1 : Nat) : Int) := by rw [w64 (by omega) (by omega)]; omega
      have htk := take_succ' l i hlt
      simp only [clock_least.l0]
      rw [if_pos (by omega), if_pos (by omega), if_pos (by omega), ei]
      generalize rd l (i : Int) = x at *
      by_cases hx : x > t
      · rw [if_pos hx]
        cases b with
        | false =>
          simp only [Bool.false_eq_true, if_false]
          refine ih k _ _ (i + 1) (by omega) (by omega) (by omega) ?_
          rw [htk]
          refine ⟨fun _ => ⟨by simp, hx, fun y hy hy2 => ?_⟩, by simp⟩
          rcases List.mem_append.1 hy with hy | hy
          · exact absurd hy2 ((hg.2 rfl).2 y hy)
          · simp at hy; omega
        | true =>
          simp only [if_true]
          obtain ⟨g1, g2, g3⟩ := hg.1 rfl
          by_cases hxn : x < n
          · rw [if_pos hxn]
            refine ih k _ _ (i + 1) (by omega) (by omega) (by omega) ?_
            rw [htk]
            refine ⟨fun _ => ⟨by simp, hx, fun y hy hy2 => ?_⟩, by simp⟩
            rcases List.mem_append.1 hy with hy | hy
            · have := g3 y hy hy2; omega
            · simp at hy; omega
          · rw [if_neg hxn]
            refine ih k _ _ (i + 1) (by omega) (by omega) (by omega) ?_
            rw [htk]
            refine ⟨fun _ => ⟨List.mem_append_left _ g1, g2, fun y hy hy2 => ?_⟩, by simp⟩
            rcases List.mem_append.1 hy with hy | hy
            · exact g3 y hy hy2
            · simp at hy; omega
      · rw [if_neg hx]
        refine ih k _ _ (i + 1) (by omega) (by omega) (by omega) ?_
        rw [htk]
        refine ⟨fun h => ?_, fun h => ?_⟩
        · obtain ⟨g1, g2, g3⟩ := hg.1 h
          refine ⟨List.mem_append_left _ g1, g2, fun y hy hy2 => ?_⟩
          rcases List.mem_append.1 hy with hy | hy
          · exact g3 y hy hy2
          · simp at hy; subst hy; exact absurd hy2 hx
        · refine ⟨(hg.2 h).1, fun y hy hy2 => ?_⟩
          rcases List.mem_append.1 hy with hy | hy
          · exact (hg.2 h).2 y hy hy2
          · simp at hy; subst hy; exact absurd hy2 hx
    · refine ⟨n, b, ?_, ?_⟩
      · simp only [clock_least.l0]; rw [if_neg (by omega)]
      · rw [List.take_of_length_le (by omega)] at hg; exact hg


theorem Good.same {t : Int} {l : List Int} {n m : Int} {b c : Bool} (h1 : Good t l n b) (h2 : Good t l m c) : n = m ∧ b = c := by
  cases b with
  | true =>
    obtain ⟨a1, a2, a3⟩ := h1.1 rfl
    cases c with
    | true =>
      obtain ⟨b1, b2, b3⟩ := h2.1 rfl
      have := a3 m b1 b2; have := b3 n a1 a2
      exact ⟨by omega, rfl⟩
    | false => exact absurd a2 ((h2.2 rfl).2 n a1)
  | false =>
    cases c with
    | true =>
      obtain ⟨b1, b2, b3⟩ := h2.1 rfl
      exact absurd b2 ((h1.2 rfl).2 m b1)
    | false => exact ⟨by rw [(h1.2 rfl).1, (h2.2 rfl).1], rfl⟩
/-- The value that the index stands for. -/
def bval (l : List Int) (j : Int) : Int := if j < 0 then 0 else rd l j
theorem ref_l0 (t : Int) (l : List Int) (hl : l.length ≤ 1200) (m : Nat) : ∀ (k : Nat) (j : Int) (i : Nat), i ≤ l.length → l.length - i ≤ m → m < k → -1 ≤ j → j < i → Good t (l.take i) (bval l j) (decide (0 ≤ j)) →
    ∃ r c, gatepathref04_Next.l0 k l t j i = some (if c = true then (r, 0) else (0, 6)) ∧ Good t l r c := by
  have fin : ∀ (k : Nat) (j : Int) (i : Nat), l.length ≤ i → -1 ≤ j → j < l.length → Good t l (bval l j) (decide (0 ≤ j)) → ∃ r c, gatepathref04_Next.l0 (k + 1) l t j i = some (if c = true then (r, 0) else (0, 6)) ∧ Good t l r c := by
    intro k j i h0 hj hj2 hg
    refine ⟨_, _, ?_, hg⟩
    simp only [gatepathref04_Next.l0]
    rw [if_neg (by omega)]
    by_cases h : j < 0
    · rw [if_pos h, decide_eq_false (by omega)]; rfl
    · rw [if_neg h, if_pos (by omega), if_pos hj2, decide_eq_true (by omega)]
      simp [bval, h]
  induction m with
  | zero =>
    intro k j i h0 h1 hk hj hji hg
    obtain ⟨k, rfl⟩ : ∃ q, k = q + 1 := ⟨k - 1, by omega⟩
    rw [List.take_of_length_le (by omega)] at hg
    exact fin k j i (by omega) hj (by omega) hg
  | succ m ih =>
    intro k j i h0 h1 hk hj hji hg
    obtain ⟨k, rfl⟩ : ∃ q, k = q + 1 := ⟨k - 1, by omega⟩
    by_cases hlt : i < l.length
    · have ei : wrap64 ((i : Int) + 1) = ((i + 1 : Nat) : Int) := by rw [w64 (by omega) (by omega)]; omega
      have htk := take_succ' l i hlt
      simp only [gatepathref04_Next.l0]
      rw [if_pos (by omega), if_pos (by omega), ei]
      have hbi : bval l (i : Int) = rd l (i : Int) := by simp [bval]; omega
      by_cases hx : rd l (i : Int) > t
      · rw [if_pos hx]
        by_cases hb : j < 0
        · rw [if_pos hb]
          refine ih k _ (i + 1) (by omega) (by omega) (by omega) (by omega) (by omega) ?_
          rw [htk, hbi, decide_eq_true (by omega)]
          have hg2 := hg.2 (by simp; omega)
          refine ⟨fun _ => ⟨by simp, hx, fun y hy hy2 => ?_⟩, by simp⟩
          rcases List.mem_append.1 hy with hy | hy
          · exact absurd hy2 (hg2.2 y hy)
          · simp at hy; omega
        · have hbv : bval l j = rd l j := by simp [bval, hb]
          obtain ⟨g1, g2, g3⟩ := hg.1 (by simp; omega)
          rw [hbv] at g1 g2 g3
          rw [if_neg hb, if_pos (by omega), if_pos (by omega)]
          by_cases hxn : rd l (i : Int) < rd l j
          · rw [if_pos hxn]
            refine ih k _ (i + 1) (by omega) (by omega) (by omega) (by omega) (by omega) ?_
            rw [htk, hbi, decide_eq_true (by omega)]
            refine ⟨fun _ => ⟨by simp, hx, fun y hy hy2 => ?_⟩, by simp⟩
            rcases List.mem_append.1 hy with hy | hy
            · have := g3 y hy hy2; omega
            · simp at hy; omega
          · rw [if_neg hxn]
            refine ih k _ (i + 1) (by omega) (by omega) (by omega) hj (by omega) ?_
            rw [htk, hbv, decide_eq_true (by omega)]
            refine ⟨fun _ => ⟨List.mem_append_left _ g1, g2, fun y hy hy2 => ?_⟩, by simp⟩
            rcases List.mem_append.1 hy with hy | hy
            · exact g3 y hy hy2
            · simp at hy; omega
      · rw [if_neg hx]
        refine ih k _ (i + 1) (by omega) (by omega) (by omega) hj (by omega) ?_
        rw [htk]
        refine ⟨fun h => ?_, fun h => ?_⟩
        · obtain ⟨g1, g2, g3⟩ := hg.1 h
          refine ⟨List.mem_append_left _ g1, g2, fun y hy hy2 => ?_⟩
          rcases List.mem_append.1 hy with hy | hy
          · exact g3 y hy hy2
          · simp at hy; subst hy; exact absurd hy2 hx
        · refine ⟨(hg.2 h).1, fun y hy hy2 => ?_⟩
          rcases List.mem_append.1 hy with hy | hy
          · exact (hg.2 h).2 y hy hy2
          · simp at hy; subst hy; exact absurd hy2 hx
    · rw [List.take_of_length_le (by omega)] at hg
      exact fin k j i (by omega) hj (by omega) hg
theorem next_same (l : List Int) (t : Int) (hl : l.length ≤ 1200) : ∃ r1 r2, PClockWindows.clock_Next.f 1300 l t = some (r1, r2) ∧ PClockWindows.gatepathref04_Next.f 1300 l t = some (r1, r2) := by
  unfold PClockWindows.clock_Next.f PClockWindows.gatepathref04_Next.f PClockWindows.clock_least.f
  by_cases h : (l.length : Int) > 1000
  · rw [if_pos h, if_pos h]; exact ⟨_, _, rfl, rfl⟩
  · rw [if_neg h, if_neg h]
    obtain ⟨r, c, h1, g1⟩ := least_l0 t l (by omega) l.length 1300 0 false 0 (by omega) (by omega) (by omega) ⟨by simp, by simp⟩
    obtain ⟨r', c', h2, g2⟩ := ref_l0 t l (by omega) l.length 1300 (-1) 0 (by omega) (by omega) (by omega) (by omega) (by omega) ⟨by simp, by simp [bval]⟩
    obtain ⟨rfl, rfl⟩ := g1.same g2
    have h1' : PClockWindows.clock_least.l0 1300 t 0 false l (l.length : Int) 0 = some (r, c) := h1
    have h2' : PClockWindows.gatepathref04_Next.l0 1300 l t (-1) 0 = some (if c = true then (r, 0) else (0, 6)) := h2
    rw [h1', h2']
    cases c
    · exact ⟨0, 6, by simp, by simp⟩
    · exact ⟨r, 0, by simp, by simp⟩
end WN
end Go.Proofs.Ytoefmoniafhgfaa
