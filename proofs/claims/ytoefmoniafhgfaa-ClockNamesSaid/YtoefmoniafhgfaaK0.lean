/- Windows are compared by their two numbers; and the plain facts on Both, Check, In and Next. -/
import Derived.Test.YtoefmoniafhgfaaTI
import Derived.Test.YtoefmoniafhgfaaPLE
import Derived.Test.YtoefmoniafhgfaaClk
import Derived.Test.YtoefmoniafhgfaaPClockWindowsx2
import Derived.Test.YtoefmoniafhgfaaPClockWindowsx3
namespace Go.Proofs.Ytoefmoniafhgfaa
set_option linter.unusedSimpArgs false
set_option linter.unusedVariables false
open Go Go.PL Go.RowKit

open Go.Proofs.Ytoefmoniafhgfaa.Clk Go.Proofs.Ytoefmoniafhgfaa.PClockWindows
theorem eqc30 : EqC Try.prog 2 30 true 2 (fun cs => cs.length = 2 ∧ (IntCell .i64 ((cs.drop 0).take 1) ∧ (IntCell .i64 ((cs.drop (0 + 1)).take 1) ∧ True))) :=
  eqc_struct Try.underlying30 Try.ti30 (by kernel_rfl) (.cons rfl rfl (eqc_int Try.underlying2 Try.ti2) (.cons rfl rfl (eqc_int Try.underlying2 Try.ti2) (.nil _)))
theorem guard30 : Try.prog.eqGuardType Try.prog.depth 30 = false := by kernel_rfl
theorem win_ok (x y : Int) : (fun cs : List Value => cs.length = 2 ∧ (IntCell .i64 ((cs.drop 0).take 1) ∧ (IntCell .i64 ((cs.drop (0 + 1)).take 1) ∧ True))) [.int .i64 x, .int .i64 y] := ⟨rfl, ⟨_, rfl⟩, ⟨_, rfl⟩, trivial⟩
def chkW (f t : Int) : Int := if timB f && timB t && decide (f ≤ t) then 0 else 8
theorem timeW (t : Int) : PClockWindows.clock_isTime.f t = some (timB t) := by
  unfold PClockWindows.clock_isTime.f timB
  by_cases h : t ≥ 0
  · rw [if_pos h]; simp; omega
  · rw [if_neg h]; simp; omega
theorem rtimeW (t : Int) : PClockWindows.gatepathref04_Time.f t = some (timB t) := timeW t
theorem chk_w (f t : Int) : PClockWindows.clock_Check.f f t = some (chkW f t) := by
  unfold PClockWindows.clock_Check.f chkW
  rw [timeW, timeW]; simp only [Option.bind_some]
  cases timB f <;> cases timB t <;> simp
  by_cases h : t < f
  · rw [if_pos h, if_neg (by omega)]
  · rw [if_neg h, if_pos (by omega)]
theorem rchk_w (f t : Int) : PClockWindows.gatepathref04_Check.f f t = some (chkW f t) := by
  unfold PClockWindows.gatepathref04_Check.f chkW
  rw [rtimeW, rtimeW]; simp only [Option.bind_some]
  cases timB f <;> cases timB t <;> simp
  by_cases h : f ≤ t
  · rw [if_pos h, if_pos h]
  · rw [if_neg h, if_neg h]
theorem chkW_01 (f t : Int) : chkW f t = 0 ∨ chkW f t = 8 := by unfold chkW; split <;> simp
def inW (f t u : Int) : Bool := decide (chkW f t = 0) && decide (f ≤ u) && decide (u ≤ t)
theorem in_w (f t u : Int) : PClockWindows.clock_In.f f t u = some (inW f t u) := by
  unfold PClockWindows.clock_In.f inW
  rw [chk_w]; simp only [Option.bind_some]
  by_cases h : chkW f t = 0
  · rw [if_pos h]
    by_cases h2 : f ≤ u
    · rw [if_pos h2]; simp [h, h2]
    · rw [if_neg h2]; simp [h, h2]
  · rw [if_neg h]; simp [h]
theorem rin_w (f t u : Int) : PClockWindows.gatepathref04_In.f f t u = some (inW f t u) := by
  unfold PClockWindows.gatepathref04_In.f inW
  rw [rchk_w]; simp only [Option.bind_some]
  by_cases h : chkW f t = 0
  · rw [if_pos h]
    by_cases h2 : u ≥ f
    · rw [if_pos h2]; simp [h]; omega
    · rw [if_neg h2]; simp [h]; omega
  · rw [if_neg h]; simp [h]
def bothW (a b c d : Int) : Int × Int × Bool × Int :=
  if chkW a b = 0 ∧ chkW c d = 0 then (if max a c > min b d then (0, 0, false, 0) else (max a c, min b d, true, 0)) else (0, 0, false, 8)
theorem both_w (a b c d : Int) : PClockWindows.clock_Both.f 4 a b c d = some (bothW a b c d) := by
  unfold PClockWindows.clock_Both.f bothW
  rw [chk_w, chk_w]; simp only [Option.bind_some]
  have em : ∀ a b : Int, Go.Proofs.YtoefmoniafhgfaaW.PrintWords.mx a b = max a b := fun a b => by unfold Go.Proofs.YtoefmoniafhgfaaW.PrintWords.mx; omega
  have en : ∀ a b : Int, Go.Proofs.YtoefmoniafhgfaaW.PrintWords.mn a b = min a b := fun a b => by unfold Go.Proofs.YtoefmoniafhgfaaW.PrintWords.mn; omega
  rw [em, en]
  rcases chkW_01 a b with h1 | h1 <;> rcases chkW_01 c d with h2 | h2 <;> rw [h1, h2]
  · have : PClockWindows.api_Errno.f 4 [0, 0] = some 0 := by decide +kernel
    rw [this]; simp; split <;> rfl
  · have : PClockWindows.api_Errno.f 4 [0, 8] = some 8 := by decide +kernel
    rw [this]; simp
  · have : PClockWindows.api_Errno.f 4 [8, 0] = some 8 := by decide +kernel
    rw [this]; simp
  · have : PClockWindows.api_Errno.f 4 [8, 8] = some 8 := by decide +kernel
    rw [this]; simp
theorem rboth_w (a b c d : Int) : PClockWindows.gatepathref04_Both.f 4 a b c d = some (bothW a b c d) := by
  unfold PClockWindows.gatepathref04_Both.f bothW
  rw [rchk_w, rchk_w]; simp only [Option.bind_some]
  rcases chkW_01 a b with h1 | h1 <;> rcases chkW_01 c d with h2 | h2 <;> rw [h1, h2]
  · simp [PClockWindows.gatepathref04_Both.j0, PClockWindows.gatepathref04_Both.j1]
    by_cases h3 : a < c <;> by_cases h4 : d < b
    · rw [if_pos h3, if_pos h4]
      have e1 : max a c = c := by omega
      have e2 : min b d = d := by omega
      rw [e1, e2]
      split <;> rfl
    · rw [if_pos h3, if_neg h4]
      have e1 : max a c = c := by omega
      have e2 : min b d = b := by omega
      rw [e1, e2]
      split <;> rfl
    · rw [if_neg h3, if_pos h4]
      have e1 : max a c = a := by omega
      have e2 : min b d = d := by omega
      rw [e1, e2]
      split <;> rfl
    · rw [if_neg h3, if_neg h4]
      have e1 : max a c = a := by omega
      have e2 : min b d = b := by omega
      rw [e1, e2]
      split <;> rfl
  · simp [PClockWindows.gatepathref04_Both.j0]
  · simp [PClockWindows.gatepathref04_Both.j0]
  · simp [PClockWindows.gatepathref04_Both.j0]
end Go.Proofs.Ytoefmoniafhgfaa
