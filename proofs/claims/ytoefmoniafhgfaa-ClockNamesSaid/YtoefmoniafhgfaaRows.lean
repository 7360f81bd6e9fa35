/-
  No cell of these rows narrows 'for every input' (looked for: loops, veiled, ifaces, maps, wideKeys, modest, calm, conditions, laid).
  DERIVED. THE GIVEN ROWS OF THIS SEAT. 7 by the template 'for every input the law returns true; each argument reads behind the call as it read before'; 0 by the template 'total and deterministic' (their statements: YtoefmoniafhgfaaTotals.lean).
  GIVEN WITH THE SEED: the statements are not yours to turn. If you find one false, say at which input.
  Laid BY PROGRAM, IN A SANDBOX (cutbox-rows.mjs): the forced cells as the released guide's own fill.sh prints them over the translation c114dd3c2669db07… (all of the seat's roots in one cut). By AI agents, Wed Nov 11 2026. No macro, syntax, notation, axiom, sorry.
-/
import Derived.Test.YtoefmoniafhgfaaChecked
import GoSem.Claim
import GoSem.ClaimJoined
import GoSem.ClaimMapViews
import Derived.JoinedTies
import Derived.KernelRfl
namespace Go.Proofs.Ytoefmoniafhgfaa
/- THE CELL 'sum', in the pinned program and in every row, IS THE sha256 OF THE DUMP (.gsa) THAT YtoefmoniafhgfaaProg.lean LOADS. Nothing in Lean hashes anything: it is a label: what it is worth is what the hold of that sum in a sandbox is worth. -/
noncomputable def Try.pinned : Pinned := { name := "ytoefmoniafhgfaa", sum := "c114dd3c2669db07c911804e310bdcf9b3222d23794495264a570b7f575f351a", checked := Try.checked }
namespace Rows
def none {H : Type} : Left H := { results := [], args := [] }

/-- 'gatepathlaw04.ClockReads': WHATEVER THE INPUT: true; the input reads as it did. -/
def clockReadsSpec : ChangeSpec := { name := "clockReads", fn := fun _ => fun
  | [d1, d2, d3] => { results := [.lit (.bool true)], args := [d1, d2, d3] }
  | _ => none }
def clockReadsRow : OpenClaim := { program := "ytoefmoniafhgfaa", sum := "c114dd3c2669db07c911804e310bdcf9b3222d23794495264a570b7f575f351a", func := "gatepath/gatepathlaw04.ClockReads", spec := "clockReads", apart := false }
def ClockReadsSaid : Prop := clockReadsRow.holds Try.pinned (OpenSpec.ofChange clockReadsSpec)

/-- ITS FALSE NEIGHBOUR: 'it returns false'. Refute it at one input. -/
def clockReadsWrong : ChangeSpec := { name := "clockReads", fn := fun _ => fun
  | [d1, d2, d3] => { results := [.lit (.bool false)], args := [d1, d2, d3] }
  | _ => none }
def ClockReadsWrongFalsely : Prop := clockReadsRow.holds Try.pinned (OpenSpec.ofChange clockReadsWrong)

/-- 'gatepathlaw04.ClockOrder': WHATEVER THE INPUT: true; the input reads as it did. -/
def clockOrderSpec : ChangeSpec := { name := "clockOrder", fn := fun _ => fun
  | [d1, d2, d3] => { results := [.lit (.bool true)], args := [d1, d2, d3] }
  | _ => none }
def clockOrderRow : OpenClaim := { program := "ytoefmoniafhgfaa", sum := "c114dd3c2669db07c911804e310bdcf9b3222d23794495264a570b7f575f351a", func := "gatepath/gatepathlaw04.ClockOrder", spec := "clockOrder", apart := false }
def ClockOrderSaid : Prop := clockOrderRow.holds Try.pinned (OpenSpec.ofChange clockOrderSpec)

/-- ITS FALSE NEIGHBOUR: 'it returns false'. Refute it at one input. -/
def clockOrderWrong : ChangeSpec := { name := "clockOrder", fn := fun _ => fun
  | [d1, d2, d3] => { results := [.lit (.bool false)], args := [d1, d2, d3] }
  | _ => none }
def ClockOrderWrongFalsely : Prop := clockOrderRow.holds Try.pinned (OpenSpec.ofChange clockOrderWrong)

/-- 'gatepathlaw04.ClockWindows': WHATEVER THE INPUT: true; the input reads as it did. -/
def clockWindowsSpec : ChangeSpec := { name := "clockWindows", fn := fun _ => fun
  | [d1, d2, d3, d4] => { results := [.lit (.bool true)], args := [d1, d2, d3, d4] }
  | _ => none }
def clockWindowsRow : OpenClaim := { program := "ytoefmoniafhgfaa", sum := "c114dd3c2669db07c911804e310bdcf9b3222d23794495264a570b7f575f351a", func := "gatepath/gatepathlaw04.ClockWindows", spec := "clockWindows", apart := false }
def ClockWindowsSaid : Prop := clockWindowsRow.holds Try.pinned (OpenSpec.ofChange clockWindowsSpec)

/-- ITS FALSE NEIGHBOUR: 'it returns false'. Refute it at one input. -/
def clockWindowsWrong : ChangeSpec := { name := "clockWindows", fn := fun _ => fun
  | [d1, d2, d3, d4] => { results := [.lit (.bool false)], args := [d1, d2, d3, d4] }
  | _ => none }
def ClockWindowsWrongFalsely : Prop := clockWindowsRow.holds Try.pinned (OpenSpec.ofChange clockWindowsWrong)

/-- 'gatepathlaw04.ClockSure': WHATEVER THE INPUT: true; the input reads as it did. -/
def clockSureSpec : ChangeSpec := { name := "clockSure", fn := fun _ => fun
  | [d1, d2] => { results := [.lit (.bool true)], args := [d1, d2] }
  | _ => none }
def clockSureRow : OpenClaim := { program := "ytoefmoniafhgfaa", sum := "c114dd3c2669db07c911804e310bdcf9b3222d23794495264a570b7f575f351a", func := "gatepath/gatepathlaw04.ClockSure", spec := "clockSure", apart := false }
def ClockSureSaid : Prop := clockSureRow.holds Try.pinned (OpenSpec.ofChange clockSureSpec)

/-- ITS FALSE NEIGHBOUR: 'it returns false'. Refute it at one input. -/
def clockSureWrong : ChangeSpec := { name := "clockSure", fn := fun _ => fun
  | [d1, d2] => { results := [.lit (.bool false)], args := [d1, d2] }
  | _ => none }
def ClockSureWrongFalsely : Prop := clockSureRow.holds Try.pinned (OpenSpec.ofChange clockSureWrong)

/-- 'gatepathlaw04.ClockNext': WHATEVER THE INPUT: true; the input reads as it did. -/
def clockNextSpec : ChangeSpec := { name := "clockNext", fn := fun _ => fun
  | [d1, d2] => { results := [.lit (.bool true)], args := [d1, d2] }
  | _ => none }
def clockNextRow : OpenClaim := { program := "ytoefmoniafhgfaa", sum := "c114dd3c2669db07c911804e310bdcf9b3222d23794495264a570b7f575f351a", func := "gatepath/gatepathlaw04.ClockNext", spec := "clockNext", apart := false }
def ClockNextSaid : Prop := clockNextRow.holds Try.pinned (OpenSpec.ofChange clockNextSpec)

/-- ITS FALSE NEIGHBOUR: 'it returns false'. Refute it at one input. -/
def clockNextWrong : ChangeSpec := { name := "clockNext", fn := fun _ => fun
  | [d1, d2] => { results := [.lit (.bool false)], args := [d1, d2] }
  | _ => none }
def ClockNextWrongFalsely : Prop := clockNextRow.holds Try.pinned (OpenSpec.ofChange clockNextWrong)

/-- 'gatepathlaw04.ClockBoth': WHATEVER THE INPUT: true; the input reads as it did. -/
def clockBothSpec : ChangeSpec := { name := "clockBoth", fn := fun _ => fun
  | [d1, d2, d3] => { results := [.lit (.bool true)], args := [d1, d2, d3] }
  | _ => none }
def clockBothRow : OpenClaim := { program := "ytoefmoniafhgfaa", sum := "c114dd3c2669db07c911804e310bdcf9b3222d23794495264a570b7f575f351a", func := "gatepath/gatepathlaw04.ClockBoth", spec := "clockBoth", apart := false }
def ClockBothSaid : Prop := clockBothRow.holds Try.pinned (OpenSpec.ofChange clockBothSpec)

/-- ITS FALSE NEIGHBOUR: 'it returns false'. Refute it at one input. -/
def clockBothWrong : ChangeSpec := { name := "clockBoth", fn := fun _ => fun
  | [d1, d2, d3] => { results := [.lit (.bool false)], args := [d1, d2, d3] }
  | _ => none }
def ClockBothWrongFalsely : Prop := clockBothRow.holds Try.pinned (OpenSpec.ofChange clockBothWrong)

/-- 'gatepathlaw04.ClockNames': WHATEVER THE INPUT: true; the input reads as it did. -/
def clockNamesSpec : ChangeSpec := { name := "clockNames", fn := fun _ => fun
  | [] => { results := [.lit (.bool true)], args := [] }
  | _ => none }
def clockNamesRow : OpenClaim := { program := "ytoefmoniafhgfaa", sum := "c114dd3c2669db07c911804e310bdcf9b3222d23794495264a570b7f575f351a", func := "gatepath/gatepathlaw04.ClockNames", spec := "clockNames", apart := false }
def ClockNamesSaid : Prop := clockNamesRow.holds Try.pinned (OpenSpec.ofChange clockNamesSpec)

/-- ITS FALSE NEIGHBOUR: 'it returns false'. Refute it at one input. -/
def clockNamesWrong : ChangeSpec := { name := "clockNames", fn := fun _ => fun
  | [] => { results := [.lit (.bool false)], args := [] }
  | _ => none }
def ClockNamesWrongFalsely : Prop := clockNamesRow.holds Try.pinned (OpenSpec.ofChange clockNamesWrong)

/- THE SECOND FORM. 'bulk': how many values and letters a reading holds, each counted each time it is reached (what is shared counts as often as it is met; a slice's spare places count too). A statement '..UptoSaid' is the law's where the arguments, and the package variables that the reading takes, are together of bulk at most 1048576: NARROWER than '..Said'. Prove '..Said' where nothing that the law and all that it calls make is longer than what came in: it says more and counts as full. Else prove '..UptoSaid'. A law counts once. -/
mutual
def uptoBulk {H : Type} : DataW H → Nat
  | .lit (.string bytes) => bytes.length + 1
  | .lit _ => 1
  | .nil => 1
  | .ptr d => uptoBulk d + 1
  | .slice elems spare => uptoBulkAll elems + uptoBulkAll spare + 1
  | .agg parts => uptoBulkAll parts + 1
  | .iface _ d => uptoBulk d + 1
  | .map entries => uptoBulkEntries entries + 1
  | .held _ => 1
def uptoBulkAll {H : Type} : List (DataW H) → Nat
  | [] => 0
  | d :: r => uptoBulk d + uptoBulkAll r
def uptoBulkEntries {H : Type} : List (Lit × DataW H) → Nat
  | [] => 0
  | x :: r => uptoBulkEntry x + uptoBulkEntries r
def uptoBulkEntry {H : Type} : Lit × DataW H → Nat
  | (.string bytes, d) => bytes.length + uptoBulk d + 1
  | (_, d) => uptoBulk d + 1
 end
def uptoSmall : (H : Type) → List (DataW H) → Bool := fun _ ds => decide (uptoBulkAll ds ≤ 1048576)
def OpenSpec.upto (s : _root_.Go.ChangeSpec) : _root_.Go.OpenSpec := { _root_.Go.OpenSpec.ofChange s with cond := some uptoSmall }

/-- 'gatepathlaw04.ClockReads', WHERE WHAT IT READS IS OF BULK AT MOST 1048576: true; the input reads as it did. -/
def clockReadsUptoRow : OpenClaim := { program := "ytoefmoniafhgfaa", sum := "c114dd3c2669db07c911804e310bdcf9b3222d23794495264a570b7f575f351a", func := "gatepath/gatepathlaw04.ClockReads", spec := "clockReads", apart := false, narrowed := true }
def ClockReadsUptoSaid : Prop := clockReadsUptoRow.holds Try.pinned (OpenSpec.upto clockReadsSpec)

/-- 'gatepathlaw04.ClockOrder', WHERE WHAT IT READS IS OF BULK AT MOST 1048576: true; the input reads as it did. -/
def clockOrderUptoRow : OpenClaim := { program := "ytoefmoniafhgfaa", sum := "c114dd3c2669db07c911804e310bdcf9b3222d23794495264a570b7f575f351a", func := "gatepath/gatepathlaw04.ClockOrder", spec := "clockOrder", apart := false, narrowed := true }
def ClockOrderUptoSaid : Prop := clockOrderUptoRow.holds Try.pinned (OpenSpec.upto clockOrderSpec)

/-- 'gatepathlaw04.ClockWindows', WHERE WHAT IT READS IS OF BULK AT MOST 1048576: true; the input reads as it did. -/
def clockWindowsUptoRow : OpenClaim := { program := "ytoefmoniafhgfaa", sum := "c114dd3c2669db07c911804e310bdcf9b3222d23794495264a570b7f575f351a", func := "gatepath/gatepathlaw04.ClockWindows", spec := "clockWindows", apart := false, narrowed := true }
def ClockWindowsUptoSaid : Prop := clockWindowsUptoRow.holds Try.pinned (OpenSpec.upto clockWindowsSpec)

/-- 'gatepathlaw04.ClockSure', WHERE WHAT IT READS IS OF BULK AT MOST 1048576: true; the input reads as it did. -/
def clockSureUptoRow : OpenClaim := { program := "ytoefmoniafhgfaa", sum := "c114dd3c2669db07c911804e310bdcf9b3222d23794495264a570b7f575f351a", func := "gatepath/gatepathlaw04.ClockSure", spec := "clockSure", apart := false, narrowed := true }
def ClockSureUptoSaid : Prop := clockSureUptoRow.holds Try.pinned (OpenSpec.upto clockSureSpec)

/-- 'gatepathlaw04.ClockNext', WHERE WHAT IT READS IS OF BULK AT MOST 1048576: true; the input reads as it did. -/
def clockNextUptoRow : OpenClaim := { program := "ytoefmoniafhgfaa", sum := "c114dd3c2669db07c911804e310bdcf9b3222d23794495264a570b7f575f351a", func := "gatepath/gatepathlaw04.ClockNext", spec := "clockNext", apart := false, narrowed := true }
def ClockNextUptoSaid : Prop := clockNextUptoRow.holds Try.pinned (OpenSpec.upto clockNextSpec)

/-- 'gatepathlaw04.ClockBoth', WHERE WHAT IT READS IS OF BULK AT MOST 1048576: true; the input reads as it did. -/
def clockBothUptoRow : OpenClaim := { program := "ytoefmoniafhgfaa", sum := "c114dd3c2669db07c911804e310bdcf9b3222d23794495264a570b7f575f351a", func := "gatepath/gatepathlaw04.ClockBoth", spec := "clockBoth", apart := false, narrowed := true }
def ClockBothUptoSaid : Prop := clockBothUptoRow.holds Try.pinned (OpenSpec.upto clockBothSpec)

/-- 'gatepathlaw04.ClockNames', WHERE WHAT IT READS IS OF BULK AT MOST 1048576: true; the input reads as it did. -/
def clockNamesUptoRow : OpenClaim := { program := "ytoefmoniafhgfaa", sum := "c114dd3c2669db07c911804e310bdcf9b3222d23794495264a570b7f575f351a", func := "gatepath/gatepathlaw04.ClockNames", spec := "clockNames", apart := false, narrowed := true }
def ClockNamesUptoSaid : Prop := clockNamesUptoRow.holds Try.pinned (OpenSpec.upto clockNamesSpec)

end Rows
end Go.Proofs.Ytoefmoniafhgfaa
