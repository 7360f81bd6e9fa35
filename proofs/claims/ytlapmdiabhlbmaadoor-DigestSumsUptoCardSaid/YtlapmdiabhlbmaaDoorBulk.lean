/- What the bound on the bulk gives. -/
import Derived.Test.YtlapmdiabhlbmaaDoorRows
import Derived.Test.YtlapmdiabhlbmaaDoorPLR
namespace Go.Proofs.YtlapmdiabhlbmaaDoor
set_option linter.unusedSimpArgs false
set_option linter.unusedVariables false
open Go Go.PL Go.RowKit

theorem bulk_one {H : Type} (d : DataW H) : 1 ≤ Rows.uptoBulk d := by
  cases d with
  | lit l => cases l <;> simp [Rows.uptoBulk]
  | nil => simp [Rows.uptoBulk]
  | ptr d => simp [Rows.uptoBulk]
  | slice elems spare => simp [Rows.uptoBulk]
  | agg parts => simp [Rows.uptoBulk]
  | iface t d => simp [Rows.uptoBulk]
  | map entries => simp [Rows.uptoBulk]
  | held h => simp [Rows.uptoBulk]
theorem bulk_len {H : Type} (l : List (DataW H)) : l.length ≤ Rows.uptoBulkAll l := by
  induction l with
  | nil => simp [Rows.uptoBulkAll]
  | cons x r ih => have := bulk_one x; simp only [Rows.uptoBulkAll, List.length_cons]; omega
theorem bulk_dels {H : Type} (d : DataW H) : (dels d).length ≤ Rows.uptoBulk d := by
  cases d with
  | slice es rest => have := bulk_len es; simp only [dels, Rows.uptoBulk]; omega
  | _ => simp [dels]
theorem bulk_dels2 {H : Type} (d : DataW H) : ((dels d).map (fun e => (dels e).length)).sum ≤ Rows.uptoBulk d := by
  cases d with
  | slice es rest =>
    have : ∀ l : List (DataW H), (l.map (fun e => (dels e).length)).sum ≤ Rows.uptoBulkAll l := by
      intro l
      induction l with
      | nil => simp [Rows.uptoBulkAll]
      | cons x r ih => have := bulk_dels x; simp only [Rows.uptoBulkAll, List.map_cons, List.sum_cons]; omega
    have := this es
    show (es.map (fun e => (dels e).length)).sum ≤ _
    simp only [Rows.uptoBulk]; omega
  | _ => simp [dels]
theorem bulk_le {H : Type} {l : List (DataW H)} (hk : Rows.uptoSmall H l = true) : Rows.uptoBulkAll l ≤ 1048576 := of_decide_eq_true hk
theorem flat_sum {α : Type} (ps : List (Value × List α)) : (ps.map Prod.snd).flatten.length = (ps.map (fun q => q.2.length)).sum := by
  induction ps with
  | nil => rfl
  | cons q r ih => simp only [List.map_cons, List.flatten_cons, List.length_append, List.sum_cons, ih]

end Go.Proofs.YtlapmdiabhlbmaaDoor
