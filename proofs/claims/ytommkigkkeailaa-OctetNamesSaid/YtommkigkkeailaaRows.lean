/-
  NARROWER THAN 'FOR EVERY INPUT', by the rows' own cells (each row's printed sentence says how): OctetReads: loops · OctetChecks: loops · OctetCodes: loops · OctetBack: loops · OctetCuts: loops · OctetJoins: loops.
  DERIVED. THE GIVEN ROWS OF THIS SEAT. 9 by the template 'for every input the law returns true; each argument reads behind the call as it read before'; 0 by the template 'total and deterministic' (their statements: YtommkigkkeailaaTotals.lean).
  GIVEN WITH THE SEED: the statements are not yours to turn. If you find one false, say at which input.
  Laid BY PROGRAM, IN A SANDBOX (cutbox-rows.mjs): the forced cells as the released guide's own fill.sh prints them over the translation 681e9c8f420fe6f4… (all of the seat's roots in one cut). By AI agents, Wed Nov 11 2026. No macro, syntax, notation, axiom, sorry.
-/
import Derived.Test.YtommkigkkeailaaChecked
import GoSem.Claim
import GoSem.ClaimJoined
import GoSem.ClaimMapViews
import Derived.JoinedTies
import Derived.KernelRfl
namespace Go.Proofs.Ytommkigkkeailaa
/- THE CELL 'sum', in the pinned program and in every row, IS THE sha256 OF THE DUMP (.gsa) THAT YtommkigkkeailaaProg.lean LOADS. Nothing in Lean hashes anything: it is a label: what it is worth is what the hold of that sum in a sandbox is worth. -/
noncomputable def Try.pinned : Pinned := { name := "ytommkigkkeailaa", sum := "681e9c8f420fe6f4052d35ca1c316456e9a5e6821ba8a2436a27562a813ff06a", checked := Try.checked }
namespace Rows
def none {H : Type} : Left H := { results := [], args := [] }

/-- 'gatepathlaw08.OctetReads': WHATEVER THE INPUT: true; the input reads as it did. -/
def octetReadsSpec : ChangeSpec := { name := "octetReads", fn := fun _ => fun
  | [d1, d2, d3, d4, d5, d6, d7] => { results := [.lit (.bool true)], args := [d1, d2, d3, d4, d5, d6, d7] }
  | _ => none }
def octetReadsRow : OpenClaim := { program := "ytommkigkkeailaa", sum := "681e9c8f420fe6f4052d35ca1c316456e9a5e6821ba8a2436a27562a813ff06a", func := "gatepath/gatepathlaw08.OctetReads", spec := "octetReads", recurses := true, loops := true, apart := false }
def OctetReadsSaid : Prop := octetReadsRow.holds Try.pinned (OpenSpec.ofChange octetReadsSpec)

/-- ITS FALSE NEIGHBOUR: 'it returns false'. Refute it at one input. -/
def octetReadsWrong : ChangeSpec := { name := "octetReads", fn := fun _ => fun
  | [d1, d2, d3, d4, d5, d6, d7] => { results := [.lit (.bool false)], args := [d1, d2, d3, d4, d5, d6, d7] }
  | _ => none }
def OctetReadsWrongFalsely : Prop := octetReadsRow.holds Try.pinned (OpenSpec.ofChange octetReadsWrong)

/-- 'gatepathlaw08.OctetChecks': WHATEVER THE INPUT: true; the input reads as it did. -/
def octetChecksSpec : ChangeSpec := { name := "octetChecks", fn := fun _ => fun
  | [d1, d2] => { results := [.lit (.bool true)], args := [d1, d2] }
  | _ => none }
def octetChecksRow : OpenClaim := { program := "ytommkigkkeailaa", sum := "681e9c8f420fe6f4052d35ca1c316456e9a5e6821ba8a2436a27562a813ff06a", func := "gatepath/gatepathlaw08.OctetChecks", spec := "octetChecks", unfollowed := true, recurses := true, loops := true, apart := false }
def OctetChecksSaid : Prop := octetChecksRow.holds Try.pinned (OpenSpec.ofChange octetChecksSpec)

/-- ITS FALSE NEIGHBOUR: 'it returns false'. Refute it at one input. -/
def octetChecksWrong : ChangeSpec := { name := "octetChecks", fn := fun _ => fun
  | [d1, d2] => { results := [.lit (.bool false)], args := [d1, d2] }
  | _ => none }
def OctetChecksWrongFalsely : Prop := octetChecksRow.holds Try.pinned (OpenSpec.ofChange octetChecksWrong)

/-- 'gatepathlaw08.OctetCodes': WHATEVER THE INPUT: true; the input reads as it did. -/
def octetCodesSpec : ChangeSpec := { name := "octetCodes", fn := fun _ => fun
  | [d1, d2] => { results := [.lit (.bool true)], args := [d1, d2] }
  | _ => none }
def octetCodesRow : OpenClaim := { program := "ytommkigkkeailaa", sum := "681e9c8f420fe6f4052d35ca1c316456e9a5e6821ba8a2436a27562a813ff06a", func := "gatepath/gatepathlaw08.OctetCodes", spec := "octetCodes", unfollowed := true, recurses := true, loops := true, apart := false }
def OctetCodesSaid : Prop := octetCodesRow.holds Try.pinned (OpenSpec.ofChange octetCodesSpec)

/-- ITS FALSE NEIGHBOUR: 'it returns false'. Refute it at one input. -/
def octetCodesWrong : ChangeSpec := { name := "octetCodes", fn := fun _ => fun
  | [d1, d2] => { results := [.lit (.bool false)], args := [d1, d2] }
  | _ => none }
def OctetCodesWrongFalsely : Prop := octetCodesRow.holds Try.pinned (OpenSpec.ofChange octetCodesWrong)

/-- 'gatepathlaw08.OctetBack': WHATEVER THE INPUT: true; the input reads as it did. -/
def octetBackSpec : ChangeSpec := { name := "octetBack", fn := fun _ => fun
  | [d] => { results := [.lit (.bool true)], args := [d] }
  | _ => none }
def octetBackRow : OpenClaim := { program := "ytommkigkkeailaa", sum := "681e9c8f420fe6f4052d35ca1c316456e9a5e6821ba8a2436a27562a813ff06a", func := "gatepath/gatepathlaw08.OctetBack", spec := "octetBack", unfollowed := true, recurses := true, loops := true, apart := false }
def OctetBackSaid : Prop := octetBackRow.holds Try.pinned (OpenSpec.ofChange octetBackSpec)

/-- ITS FALSE NEIGHBOUR: 'it returns false'. Refute it at one input. -/
def octetBackWrong : ChangeSpec := { name := "octetBack", fn := fun _ => fun
  | [d] => { results := [.lit (.bool false)], args := [d] }
  | _ => none }
def OctetBackWrongFalsely : Prop := octetBackRow.holds Try.pinned (OpenSpec.ofChange octetBackWrong)

/-- 'gatepathlaw08.OctetOnce': WHATEVER THE INPUT: true; the input reads as it did. -/
def octetOnceSpec : ChangeSpec := { name := "octetOnce", fn := fun _ => fun
  | [d] => { results := [.lit (.bool true)], args := [d] }
  | _ => none }
def octetOnceRow : OpenClaim := { program := "ytommkigkkeailaa", sum := "681e9c8f420fe6f4052d35ca1c316456e9a5e6821ba8a2436a27562a813ff06a", func := "gatepath/gatepathlaw08.OctetOnce", spec := "octetOnce", unfollowed := true, recurses := true, apart := false }
def OctetOnceSaid : Prop := octetOnceRow.holds Try.pinned (OpenSpec.ofChange octetOnceSpec)

/-- ITS FALSE NEIGHBOUR: 'it returns false'. Refute it at one input. -/
def octetOnceWrong : ChangeSpec := { name := "octetOnce", fn := fun _ => fun
  | [d] => { results := [.lit (.bool false)], args := [d] }
  | _ => none }
def OctetOnceWrongFalsely : Prop := octetOnceRow.holds Try.pinned (OpenSpec.ofChange octetOnceWrong)

/-- 'gatepathlaw08.OctetCuts': WHATEVER THE INPUT: true; the input reads as it did. -/
def octetCutsSpec : ChangeSpec := { name := "octetCuts", fn := fun _ => fun
  | [d1, d2, d3] => { results := [.lit (.bool true)], args := [d1, d2, d3] }
  | _ => none }
def octetCutsRow : OpenClaim := { program := "ytommkigkkeailaa", sum := "681e9c8f420fe6f4052d35ca1c316456e9a5e6821ba8a2436a27562a813ff06a", func := "gatepath/gatepathlaw08.OctetCuts", spec := "octetCuts", unfollowed := true, recurses := true, loops := true, apart := false }
def OctetCutsSaid : Prop := octetCutsRow.holds Try.pinned (OpenSpec.ofChange octetCutsSpec)

/-- ITS FALSE NEIGHBOUR: 'it returns false'. Refute it at one input. -/
def octetCutsWrong : ChangeSpec := { name := "octetCuts", fn := fun _ => fun
  | [d1, d2, d3] => { results := [.lit (.bool false)], args := [d1, d2, d3] }
  | _ => none }
def OctetCutsWrongFalsely : Prop := octetCutsRow.holds Try.pinned (OpenSpec.ofChange octetCutsWrong)

/-- 'gatepathlaw08.OctetJoins': WHATEVER THE INPUT: true; the input reads as it did. -/
def octetJoinsSpec : ChangeSpec := { name := "octetJoins", fn := fun _ => fun
  | [d1, d2, d3] => { results := [.lit (.bool true)], args := [d1, d2, d3] }
  | _ => none }
def octetJoinsRow : OpenClaim := { program := "ytommkigkkeailaa", sum := "681e9c8f420fe6f4052d35ca1c316456e9a5e6821ba8a2436a27562a813ff06a", func := "gatepath/gatepathlaw08.OctetJoins", spec := "octetJoins", unfollowed := true, recurses := true, loops := true, apart := false }
def OctetJoinsSaid : Prop := octetJoinsRow.holds Try.pinned (OpenSpec.ofChange octetJoinsSpec)

/-- ITS FALSE NEIGHBOUR: 'it returns false'. Refute it at one input. -/
def octetJoinsWrong : ChangeSpec := { name := "octetJoins", fn := fun _ => fun
  | [d1, d2, d3] => { results := [.lit (.bool false)], args := [d1, d2, d3] }
  | _ => none }
def OctetJoinsWrongFalsely : Prop := octetJoinsRow.holds Try.pinned (OpenSpec.ofChange octetJoinsWrong)

/-- 'gatepathlaw08.OctetNames': WHATEVER THE INPUT: true; the input reads as it did. -/
def octetNamesSpec : ChangeSpec := { name := "octetNames", fn := fun _ => fun
  | [] => { results := [.lit (.bool true)], args := [] }
  | _ => none }
def octetNamesRow : OpenClaim := { program := "ytommkigkkeailaa", sum := "681e9c8f420fe6f4052d35ca1c316456e9a5e6821ba8a2436a27562a813ff06a", func := "gatepath/gatepathlaw08.OctetNames", spec := "octetNames", unfollowed := true, recurses := true, apart := false }
def OctetNamesSaid : Prop := octetNamesRow.holds Try.pinned (OpenSpec.ofChange octetNamesSpec)

/-- ITS FALSE NEIGHBOUR: 'it returns false'. Refute it at one input. -/
def octetNamesWrong : ChangeSpec := { name := "octetNames", fn := fun _ => fun
  | [] => { results := [.lit (.bool false)], args := [] }
  | _ => none }
def OctetNamesWrongFalsely : Prop := octetNamesRow.holds Try.pinned (OpenSpec.ofChange octetNamesWrong)

/-- 'gatepathlaw08.OctetNumbers': WHATEVER THE INPUT: true; the input reads as it did. -/
def octetNumbersSpec : ChangeSpec := { name := "octetNumbers", fn := fun _ => fun
  | [d1, d2, d3, d4, d5, d6] => { results := [.lit (.bool true)], args := [d1, d2, d3, d4, d5, d6] }
  | _ => none }
def octetNumbersRow : OpenClaim := { program := "ytommkigkkeailaa", sum := "681e9c8f420fe6f4052d35ca1c316456e9a5e6821ba8a2436a27562a813ff06a", func := "gatepath/gatepathlaw08.OctetNumbers", spec := "octetNumbers", unfollowed := true, recurses := true, apart := false }
def OctetNumbersSaid : Prop := octetNumbersRow.holds Try.pinned (OpenSpec.ofChange octetNumbersSpec)

/-- ITS FALSE NEIGHBOUR: 'it returns false'. Refute it at one input. -/
def octetNumbersWrong : ChangeSpec := { name := "octetNumbers", fn := fun _ => fun
  | [d1, d2, d3, d4, d5, d6] => { results := [.lit (.bool false)], args := [d1, d2, d3, d4, d5, d6] }
  | _ => none }
def OctetNumbersWrongFalsely : Prop := octetNumbersRow.holds Try.pinned (OpenSpec.ofChange octetNumbersWrong)

/- THE SECOND FORM. 'bulk': how many values and letters a reading holds, each counted each time it is reached (what is shared counts as often as it is met; a slice's spare places count too). A statement '..UptoSaid' is the law's where the arguments, and the package variables that the reading takes, are together of bulk at most 1048576: NARROWER than '..Said'. Prove '..Said' where nothing that the law and all that it calls make is longer than what came in: it says more and counts as full. Else prove '..UptoSaid'. A law counts once. -/
mutual
def uptoBulk {H : Type} : DataW H → Nat
  | .lit (.string bytes) => bytes.length + 1
  | .lit _ => 1
  | .nil => 1
  | .ptr d => uptoBulk d + 1
  | .slice elems spare => uptoBulkAll elems + uptoBulkAll spare + 1
  | .agg parts => uptoBulkAll parts + 1
  | .iface _ d => uptoBulk d + 1
  | .map entries => uptoBulkEntries entries + 1
  | .held _ => 1
def uptoBulkAll {H : Type} : List (DataW H) → Nat
  | [] => 0
  | d :: r => uptoBulk d + uptoBulkAll r
def uptoBulkEntries {H : Type} : List (Lit × DataW H) → Nat
  | [] => 0
  | x :: r => uptoBulkEntry x + uptoBulkEntries r
def uptoBulkEntry {H : Type} : Lit × DataW H → Nat
  | (.string bytes, d) => bytes.length + uptoBulk d + 1
  | (_, d) => uptoBulk d + 1
 end
def uptoSmall : (H : Type) → List (DataW H) → Bool := fun _ ds => decide (uptoBulkAll ds ≤ 1048576)
def OpenSpec.upto (s : _root_.Go.ChangeSpec) : _root_.Go.OpenSpec := { _root_.Go.OpenSpec.ofChange s with cond := some uptoSmall }

/-- 'gatepathlaw08.OctetReads', WHERE WHAT IT READS IS OF BULK AT MOST 1048576: true; the input reads as it did. -/
def octetReadsUptoRow : OpenClaim := { program := "ytommkigkkeailaa", sum := "681e9c8f420fe6f4052d35ca1c316456e9a5e6821ba8a2436a27562a813ff06a", func := "gatepath/gatepathlaw08.OctetReads", spec := "octetReads", recurses := true, loops := true, apart := false, narrowed := true }
def OctetReadsUptoSaid : Prop := octetReadsUptoRow.holds Try.pinned (OpenSpec.upto octetReadsSpec)

/-- 'gatepathlaw08.OctetChecks', WHERE WHAT IT READS IS OF BULK AT MOST 1048576: true; the input reads as it did. -/
def octetChecksUptoRow : OpenClaim := { program := "ytommkigkkeailaa", sum := "681e9c8f420fe6f4052d35ca1c316456e9a5e6821ba8a2436a27562a813ff06a", func := "gatepath/gatepathlaw08.OctetChecks", spec := "octetChecks", unfollowed := true, recurses := true, loops := true, apart := false, narrowed := true }
def OctetChecksUptoSaid : Prop := octetChecksUptoRow.holds Try.pinned (OpenSpec.upto octetChecksSpec)

/-- 'gatepathlaw08.OctetCodes', WHERE WHAT IT READS IS OF BULK AT MOST 1048576: true; the input reads as it did. -/
def octetCodesUptoRow : OpenClaim := { program := "ytommkigkkeailaa", sum := "681e9c8f420fe6f4052d35ca1c316456e9a5e6821ba8a2436a27562a813ff06a", func := "gatepath/gatepathlaw08.OctetCodes", spec := "octetCodes", unfollowed := true, recurses := true, loops := true, apart := false, narrowed := true }
def OctetCodesUptoSaid : Prop := octetCodesUptoRow.holds Try.pinned (OpenSpec.upto octetCodesSpec)

/-- 'gatepathlaw08.OctetBack', WHERE WHAT IT READS IS OF BULK AT MOST 1048576: true; the input reads as it did. -/
def octetBackUptoRow : OpenClaim := { program := "ytommkigkkeailaa", sum := "681e9c8f420fe6f4052d35ca1c316456e9a5e6821ba8a2436a27562a813ff06a", func := "gatepath/gatepathlaw08.OctetBack", spec := "octetBack", unfollowed := true, recurses := true, loops := true, apart := false, narrowed := true }
def OctetBackUptoSaid : Prop := octetBackUptoRow.holds Try.pinned (OpenSpec.upto octetBackSpec)

/-- 'gatepathlaw08.OctetOnce', WHERE WHAT IT READS IS OF BULK AT MOST 1048576: true; the input reads as it did. -/
def octetOnceUptoRow : OpenClaim := { program := "ytommkigkkeailaa", sum := "681e9c8f420fe6f4052d35ca1c316456e9a5e6821ba8a2436a27562a813ff06a", func := "gatepath/gatepathlaw08.OctetOnce", spec := "octetOnce", unfollowed := true, recurses := true, apart := false, narrowed := true }
def OctetOnceUptoSaid : Prop := octetOnceUptoRow.holds Try.pinned (OpenSpec.upto octetOnceSpec)

/-- 'gatepathlaw08.OctetCuts', WHERE WHAT IT READS IS OF BULK AT MOST 1048576: true; the input reads as it did. -/
def octetCutsUptoRow : OpenClaim := { program := "ytommkigkkeailaa", sum := "681e9c8f420fe6f4052d35ca1c316456e9a5e6821ba8a2436a27562a813ff06a", func := "gatepath/gatepathlaw08.OctetCuts", spec := "octetCuts", unfollowed := true, recurses := true, loops := true, apart := false, narrowed := true }
def OctetCutsUptoSaid : Prop := octetCutsUptoRow.holds Try.pinned (OpenSpec.upto octetCutsSpec)

/-- 'gatepathlaw08.OctetJoins', WHERE WHAT IT READS IS OF BULK AT MOST 1048576: true; the input reads as it did. -/
def octetJoinsUptoRow : OpenClaim := { program := "ytommkigkkeailaa", sum := "681e9c8f420fe6f4052d35ca1c316456e9a5e6821ba8a2436a27562a813ff06a", func := "gatepath/gatepathlaw08.OctetJoins", spec := "octetJoins", unfollowed := true, recurses := true, loops := true, apart := false, narrowed := true }
def OctetJoinsUptoSaid : Prop := octetJoinsUptoRow.holds Try.pinned (OpenSpec.upto octetJoinsSpec)

/-- 'gatepathlaw08.OctetNames', WHERE WHAT IT READS IS OF BULK AT MOST 1048576: true; the input reads as it did. -/
def octetNamesUptoRow : OpenClaim := { program := "ytommkigkkeailaa", sum := "681e9c8f420fe6f4052d35ca1c316456e9a5e6821ba8a2436a27562a813ff06a", func := "gatepath/gatepathlaw08.OctetNames", spec := "octetNames", unfollowed := true, recurses := true, apart := false, narrowed := true }
def OctetNamesUptoSaid : Prop := octetNamesUptoRow.holds Try.pinned (OpenSpec.upto octetNamesSpec)

/-- 'gatepathlaw08.OctetNumbers', WHERE WHAT IT READS IS OF BULK AT MOST 1048576: true; the input reads as it did. -/
def octetNumbersUptoRow : OpenClaim := { program := "ytommkigkkeailaa", sum := "681e9c8f420fe6f4052d35ca1c316456e9a5e6821ba8a2436a27562a813ff06a", func := "gatepath/gatepathlaw08.OctetNumbers", spec := "octetNumbers", unfollowed := true, recurses := true, apart := false, narrowed := true }
def OctetNumbersUptoSaid : Prop := octetNumbersUptoRow.holds Try.pinned (OpenSpec.upto octetNumbersSpec)

end Rows
end Go.Proofs.Ytommkigkkeailaa
