/- The law ClockOrder over numbers alone: what is shown never decreases, and is off by at most the skew and a thousandth of the time. -/
import Derived.Test.YtoefmoniafhgfaaFClockOrder
namespace Go.Proofs.Ytoefmoniafhgfaa.PClockOrder
open Go.RowKit Go.Proofs.Ytoefmoniafhgfaa.Clk Go.Proofs.YtoefmoniafhgfaaW.PrintWords

theorem alive_eq (k : Nat) : gatepathlaw04_alive.f (k + 1) = some true := by
  unfold gatepathlaw04_alive.f
  rw [read_eq, read_eq, read_eq, sure_eq]
  decide +kernel

theorem Law (s d t u : Int) : ∃ k, gatepathlaw04_ClockOrder.f k s d t u = some true := by
  refine ⟨1, ?_⟩
  unfold gatepathlaw04_ClockOrder.f
  rw [alive_eq 0, read_eq, read_eq]
  simp only [Option.bind_some, if_true]
  unfold readV
  cases hv : valB s d
  · simp
  have hv' := valB_iff.1 hv
  simp only [if_true]
  cases ht : timB t
  · simp
  have ht' := timB_iff.1 ht
  simp only [if_true]
  cases hu : timB u
  · simp
  have hu' := timB_iff.1 hu
  simp only [if_true]
  have hb := S_bd (t := t) hv' (by omega) (by omega)
  obtain ⟨a1, a2, a3, a4⟩ := id hv'
  have m1 : t * d ≤ t * 1000 := Int.mul_le_mul_of_nonneg_left a4 ht'.1
  have m2 : t * (-1000) ≤ t * d := Int.mul_le_mul_of_nonneg_left a3 ht'.1
  have hS : S s d t = t + s + t * d / 1000000 := rfl
  rw [w64 (n := S s d t - t) (by omega) (by omega), w64 (n := S s d t - t - s) (by omega) (by omega)]
  have e1 : t.tdiv 1000 = t / 1000 := Int.tdiv_eq_ediv_of_nonneg ht'.1
  have e2 : (-t).tdiv 1000 = -(t / 1000) := by rw [Int.neg_tdiv, e1]
  rw [w64 (n := -t) (by omega) (by omega), e1, e2, w64 (n := t / 1000) (by omega) (by omega), w64 (n := t / 1000 + 1) (by omega) (by omega), w64 (n := -(t / 1000)) (by omega) (by omega), w64 (n := -(t / 1000) - 1) (by omega) (by omega)]
  have g1 : S s d t - t - s ≤ t / 1000 + 1 := by rw [hS]; generalize t * d = p at *; omega
  have g2 : -(t / 1000) - 1 ≤ S s d t - t - s := by rw [hS]; generalize t * d = p at *; omega
  by_cases h : t > u
  · rw [if_pos h, if_pos g1, decide_eq_true g2]
  · rw [if_neg h, if_pos (S_mono hv' (by omega)), if_pos g1, decide_eq_true g2]

theorem walkLaw (s d : Int) (_ : (Lit.int .i64 s).wf = true) (_ : (Lit.int .i64 d).wf = true) (t : Int) (_ : (Lit.int .i64 t).wf = true) (n : Int) (_ : (Lit.int .i64 n).wf = true) (w : World) :
    Calls Try.prog 4 #[.agg #[.int .i64 s, .int .i64 d], .int .i64 t, .int .i64 n] w fun e w' => e = .returned (.bool true) ∧ RowKit.Below w.heap.size w w' := by
  obtain ⟨k, hk⟩ := Law s d t n
  exact gatepathlaw04_ClockOrder.calls k s d t n true w hk
end Go.Proofs.Ytoefmoniafhgfaa.PClockOrder
