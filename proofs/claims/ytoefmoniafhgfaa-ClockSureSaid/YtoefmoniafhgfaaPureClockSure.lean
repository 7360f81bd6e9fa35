/- The law ClockSure over numbers alone: the window of what a clock shows at a time holds this time; at both its ends the same is shown, outside of it something else. -/
import Derived.Test.YtoefmoniafhgfaaFClockSure
namespace Go.Proofs.Ytoefmoniafhgfaa.PClockSure
open Go.RowKit Go.Proofs.Ytoefmoniafhgfaa.Clk Go.Proofs.YtoefmoniafhgfaaW.PrintWords

theorem alive_eq (k : Nat) : gatepathlaw04_alive.f (k + 1) = some true := by
  unfold gatepathlaw04_alive.f
  rw [read_eq, read_eq, read_eq, sure_eq]
  decide +kernel

theorem Law (s d t : Int) : ∃ k, gatepathlaw04_ClockSure.f k s d t = some true := by
  refine ⟨3, ?_⟩
  unfold gatepathlaw04_ClockSure.f
  rw [alive_eq 2, read_eq]
  simp only [Option.bind_some, if_true]
  unfold readV
  cases hv : valB s d
  · simp [gatepathlaw04_ClockSure.j0]
  have hv' := valB_iff.1 hv
  simp only [if_true]
  cases ht : timB t
  · simp [gatepathlaw04_ClockSure.j0]
  have ht' := timB_iff.1 ht
  simp only [if_true]
  have hb := S_bd (t := t) hv' (by omega) (by omega)
  have gt := ge_iff (n := S s d t) (t := t) hv'
  have gt1 := ge_iff (n := S s d t + 1) (t := t) hv'
  have c1 := gt.1 (Int.le_refl _)
  have c2 : ¬ Bg s d (S s d t + 1) ≤ t := fun h => by have := gt1.2 h; omega
  have b1 := Bg_bd (n := S s d t) hv' (by omega) (by omega)
  have b2 := Bg_bd (n := S s d t + 1) hv' (by omega) (by omega)
  have hsure : sureV s d (S s d t) = (max 0 (Bg s d (S s d t)), min 1099511627776 (Bg s d (S s d t + 1) - 1), 0) := by
    unfold sureV sure
    rw [hv, if_pos rfl, if_neg (by omega)]
    simp only []
    rw [if_neg (by omega)]
  simp only [bne_self_eq_false, gatepathlaw04_ClockSure.j0, Bool.false_eq_true, if_false, sure_eq, hsure, Option.bind_some, read_eq]
  generalize hf : max 0 (Bg s d (S s d t)) = f
  generalize hT : min 1099511627776 (Bg s d (S s d t + 1) - 1) = T
  generalize hn : S s d t = n at *
  have hle : f ≤ T := by omega
  have rf : readV s d f = (n, 0) := by
    unfold readV
    rw [hv, if_pos rfl, timB_iff.2 (by omega), if_pos rfl]
    have q1 := (ge_iff (n := n) (t := f) hv').2 (by omega)
    have q2 : ¬ n + 1 ≤ S s d f := fun h => by have := (ge_iff (n := n + 1) (t := f) hv').1 h; omega
    have : S s d f = n := by omega
    rw [this]
  have rT : readV s d T = (n, 0) := by
    unfold readV
    rw [hv, if_pos rfl, timB_iff.2 (by omega), if_pos rfl]
    have q1 := (ge_iff (n := n) (t := T) hv').2 (by omega)
    have q2 : ¬ n + 1 ≤ S s d T := fun h => by have := (ge_iff (n := n + 1) (t := T) hv').1 h; omega
    have : S s d T = n := by omega
    rw [this]
  have hin : clock_In.f f T t = some true := by
    unfold clock_In.f clock_Check.f
    simp only [tim_eq, timB_iff.2 (show 0 ≤ f ∧ f ≤ 1099511627776 by omega), timB_iff.2 (show 0 ≤ T ∧ T ≤ 1099511627776 by omega), Option.bind_some, if_true]
    rw [if_neg (by omega)]
    simp only [Option.bind_some, if_true]
    rw [if_pos (by omega), decide_eq_true (by omega)]
  have hw : T - f ≤ 1 := by
    have q1 := (ge_iff (n := n) (t := f) hv').2 (by omega)
    have q2 : ¬ n + 1 ≤ S s d T := fun h => by have := (ge_iff (n := n + 1) (t := T) hv').1 h; omega
    have q3 : f + 2 ≤ T → S s d (f + 2) ≤ S s d T := fun h => S_mono hv' h
    have q4 : S s d f + 1 ≤ S s d (f + 2) := by
      obtain ⟨a1, a2, a3, a4⟩ := hv'
      unfold S
      have e : (f + 2) * d = f * d + 2 * d := Int.add_mul f 2 d
      rw [e]; generalize f * d = p; omega
    omega
  rw [rf, rT, hin]
  simp only [Option.bind_some, if_true]
  rw [w64 (n := T - f) (by omega) (by omega), decide_eq_false (by omega)]
  simp only [gatepathlaw04_ClockSure.j1, Bool.false_eq_true, if_false, read_eq, Option.bind_some, if_true]
  rw [w64 (n := f - 1) (by omega) (by omega), w64 (n := T + 1) (by omega) (by omega)]
  have r1 : (readV s d (f - 1)).2 = 0 → (readV s d (f - 1)).1 < n := by
    unfold readV
    rw [hv, if_pos rfl]
    cases h : timB (f - 1)
    · simp
    · have h' := timB_iff.1 h
      intro _
      simp only [if_true]
      have q2 : ¬ n ≤ S s d (f - 1) := fun h => by have := (ge_iff (n := n) (t := f - 1) hv').1 h; omega
      omega
  have r2 : (readV s d (T + 1)).2 = 0 → (readV s d (T + 1)).1 > n := by
    unfold readV
    rw [hv, if_pos rfl]
    cases h : timB (T + 1)
    · simp
    · have h' := timB_iff.1 h
      intro _
      simp only [if_true]
      have := (ge_iff (n := n + 1) (t := T + 1) hv').2 (by omega)
      omega
  by_cases h1 : (readV s d (f - 1)).2 = 0
  · rw [if_pos h1, if_pos (r1 h1)]
    by_cases h2 : (readV s d (T + 1)).2 = 0
    · rw [if_pos h2, decide_eq_true (r2 h2)]
    · rw [if_neg h2]
  · rw [if_neg h1]
    by_cases h2 : (readV s d (T + 1)).2 = 0
    · rw [if_pos h2, decide_eq_true (r2 h2)]
    · rw [if_neg h2]

theorem walkLaw (s d : Int) (_ : (Lit.int .i64 s).wf = true) (_ : (Lit.int .i64 d).wf = true) (t : Int) (_ : (Lit.int .i64 t).wf = true) (w : World) :
    Calls Try.prog 6 #[.agg #[.int .i64 s, .int .i64 d], .int .i64 t] w fun e w' => e = .returned (.bool true) ∧ RowKit.Below w.heap.size w w' := by
  obtain ⟨k, hk⟩ := Law s d t
  exact gatepathlaw04_ClockSure.calls k s d t true w hk
end Go.Proofs.Ytoefmoniafhgfaa.PClockSure
