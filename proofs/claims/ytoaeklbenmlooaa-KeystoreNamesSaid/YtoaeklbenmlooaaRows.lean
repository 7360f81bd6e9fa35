/-
  No cell of these rows narrows 'for every input' (looked for: loops, veiled, ifaces, maps, wideKeys, modest, calm, conditions, laid).
  DERIVED. THE GIVEN ROWS OF THIS SEAT. 6 by the template 'for every input the law returns true; each argument reads behind the call as it read before'; 0 by the template 'total and deterministic' (their statements: YtoaeklbenmlooaaTotals.lean).
  GIVEN WITH THE SEED: the statements are not yours to turn. If you find one false, say at which input.
  Laid BY PROGRAM, IN A SANDBOX (cutbox-rows.mjs): the forced cells as the released guide's own fill.sh prints them over the translation a2dfeeaa6b96d452… (all of the seat's roots in one cut). By AI agents, Wed Nov 11 2026. No macro, syntax, notation, axiom, sorry.
-/
import Derived.Test.YtoaeklbenmlooaaChecked
import GoSem.Claim
import GoSem.ClaimJoined
import GoSem.ClaimMapViews
import Derived.JoinedTies
import Derived.KernelRfl
namespace Go.Proofs.Ytoaeklbenmlooaa
/- THE CELL 'sum', in the pinned program and in every row, IS THE sha256 OF THE DUMP (.gsa) THAT YtoaeklbenmlooaaProg.lean LOADS. Nothing in Lean hashes anything: it is a label: what it is worth is what the hold of that sum in a sandbox is worth. -/
noncomputable def Try.pinned : Pinned := { name := "ytoaeklbenmlooaa", sum := "a2dfeeaa6b96d452a8c8c7d58d8b4474334565a3296363d28448120193a6c50e", checked := Try.checked }
namespace Rows
def none {H : Type} : Left H := { results := [], args := [] }

/-- 'gatepathlaw18.KeystoreStates': WHATEVER THE INPUT: true; the input reads as it did. -/
def keystoreStatesSpec : ChangeSpec := { name := "keystoreStates", fn := fun _ => fun
  | [d1, d2, d3] => { results := [.lit (.bool true)], args := [d1, d2, d3] }
  | _ => none }
def keystoreStatesRow : OpenClaim := { program := "ytoaeklbenmlooaa", sum := "a2dfeeaa6b96d452a8c8c7d58d8b4474334565a3296363d28448120193a6c50e", func := "gatepath/gatepathlaw18.KeystoreStates", spec := "keystoreStates", unfollowed := true, recurses := true, apart := false }
def KeystoreStatesSaid : Prop := keystoreStatesRow.holds Try.pinned (OpenSpec.ofChange keystoreStatesSpec)

/-- ITS FALSE NEIGHBOUR: 'it returns false'. Refute it at one input. -/
def keystoreStatesWrong : ChangeSpec := { name := "keystoreStates", fn := fun _ => fun
  | [d1, d2, d3] => { results := [.lit (.bool false)], args := [d1, d2, d3] }
  | _ => none }
def KeystoreStatesWrongFalsely : Prop := keystoreStatesRow.holds Try.pinned (OpenSpec.ofChange keystoreStatesWrong)

/-- 'gatepathlaw18.KeystoreCalls': WHATEVER THE INPUT: true; the input reads as it did. -/
def keystoreCallsSpec : ChangeSpec := { name := "keystoreCalls", fn := fun _ => fun
  | [d1, d2, d3] => { results := [.lit (.bool true)], args := [d1, d2, d3] }
  | _ => none }
def keystoreCallsRow : OpenClaim := { program := "ytoaeklbenmlooaa", sum := "a2dfeeaa6b96d452a8c8c7d58d8b4474334565a3296363d28448120193a6c50e", func := "gatepath/gatepathlaw18.KeystoreCalls", spec := "keystoreCalls", unfollowed := true, recurses := true, apart := false }
def KeystoreCallsSaid : Prop := keystoreCallsRow.holds Try.pinned (OpenSpec.ofChange keystoreCallsSpec)

/-- ITS FALSE NEIGHBOUR: 'it returns false'. Refute it at one input. -/
def keystoreCallsWrong : ChangeSpec := { name := "keystoreCalls", fn := fun _ => fun
  | [d1, d2, d3] => { results := [.lit (.bool false)], args := [d1, d2, d3] }
  | _ => none }
def KeystoreCallsWrongFalsely : Prop := keystoreCallsRow.holds Try.pinned (OpenSpec.ofChange keystoreCallsWrong)

/-- 'gatepathlaw18.KeystoreNames': WHATEVER THE INPUT: true; the input reads as it did. -/
def keystoreNamesSpec : ChangeSpec := { name := "keystoreNames", fn := fun _ => fun
  | [] => { results := [.lit (.bool true)], args := [] }
  | _ => none }
def keystoreNamesRow : OpenClaim := { program := "ytoaeklbenmlooaa", sum := "a2dfeeaa6b96d452a8c8c7d58d8b4474334565a3296363d28448120193a6c50e", func := "gatepath/gatepathlaw18.KeystoreNames", spec := "keystoreNames", unfollowed := true, recurses := true, apart := false }
def KeystoreNamesSaid : Prop := keystoreNamesRow.holds Try.pinned (OpenSpec.ofChange keystoreNamesSpec)

/-- ITS FALSE NEIGHBOUR: 'it returns false'. Refute it at one input. -/
def keystoreNamesWrong : ChangeSpec := { name := "keystoreNames", fn := fun _ => fun
  | [] => { results := [.lit (.bool false)], args := [] }
  | _ => none }
def KeystoreNamesWrongFalsely : Prop := keystoreNamesRow.holds Try.pinned (OpenSpec.ofChange keystoreNamesWrong)

/-- 'gatepathlaw18.KeystoreOnce': WHATEVER THE INPUT: true; the input reads as it did. -/
def keystoreOnceSpec : ChangeSpec := { name := "keystoreOnce", fn := fun _ => fun
  | [d1, d2, d3] => { results := [.lit (.bool true)], args := [d1, d2, d3] }
  | _ => none }
def keystoreOnceRow : OpenClaim := { program := "ytoaeklbenmlooaa", sum := "a2dfeeaa6b96d452a8c8c7d58d8b4474334565a3296363d28448120193a6c50e", func := "gatepath/gatepathlaw18.KeystoreOnce", spec := "keystoreOnce", unfollowed := true, recurses := true, apart := false }
def KeystoreOnceSaid : Prop := keystoreOnceRow.holds Try.pinned (OpenSpec.ofChange keystoreOnceSpec)

/-- ITS FALSE NEIGHBOUR: 'it returns false'. Refute it at one input. -/
def keystoreOnceWrong : ChangeSpec := { name := "keystoreOnce", fn := fun _ => fun
  | [d1, d2, d3] => { results := [.lit (.bool false)], args := [d1, d2, d3] }
  | _ => none }
def KeystoreOnceWrongFalsely : Prop := keystoreOnceRow.holds Try.pinned (OpenSpec.ofChange keystoreOnceWrong)

/-- 'gatepathlaw18.KeystoreKeeps': WHATEVER THE INPUT: true; the input reads as it did. -/
def keystoreKeepsSpec : ChangeSpec := { name := "keystoreKeeps", fn := fun _ => fun
  | [d1, d2] => { results := [.lit (.bool true)], args := [d1, d2] }
  | _ => none }
def keystoreKeepsRow : OpenClaim := { program := "ytoaeklbenmlooaa", sum := "a2dfeeaa6b96d452a8c8c7d58d8b4474334565a3296363d28448120193a6c50e", func := "gatepath/gatepathlaw18.KeystoreKeeps", spec := "keystoreKeeps", unfollowed := true, recurses := true, apart := false }
def KeystoreKeepsSaid : Prop := keystoreKeepsRow.holds Try.pinned (OpenSpec.ofChange keystoreKeepsSpec)

/-- ITS FALSE NEIGHBOUR: 'it returns false'. Refute it at one input. -/
def keystoreKeepsWrong : ChangeSpec := { name := "keystoreKeeps", fn := fun _ => fun
  | [d1, d2] => { results := [.lit (.bool false)], args := [d1, d2] }
  | _ => none }
def KeystoreKeepsWrongFalsely : Prop := keystoreKeepsRow.holds Try.pinned (OpenSpec.ofChange keystoreKeepsWrong)

/-- 'gatepathlaw18.KeystorePlays': WHATEVER THE INPUT: true; the input reads as it did. -/
def keystorePlaysSpec : ChangeSpec := { name := "keystorePlays", fn := fun _ => fun
  | [d1, d2, d3] => { results := [.lit (.bool true)], args := [d1, d2, d3] }
  | _ => none }
def keystorePlaysRow : OpenClaim := { program := "ytoaeklbenmlooaa", sum := "a2dfeeaa6b96d452a8c8c7d58d8b4474334565a3296363d28448120193a6c50e", func := "gatepath/gatepathlaw18.KeystorePlays", spec := "keystorePlays", unfollowed := true, recurses := true, apart := false }
def KeystorePlaysSaid : Prop := keystorePlaysRow.holds Try.pinned (OpenSpec.ofChange keystorePlaysSpec)

/-- ITS FALSE NEIGHBOUR: 'it returns false'. Refute it at one input. -/
def keystorePlaysWrong : ChangeSpec := { name := "keystorePlays", fn := fun _ => fun
  | [d1, d2, d3] => { results := [.lit (.bool false)], args := [d1, d2, d3] }
  | _ => none }
def KeystorePlaysWrongFalsely : Prop := keystorePlaysRow.holds Try.pinned (OpenSpec.ofChange keystorePlaysWrong)

/- THE SECOND FORM. 'bulk': how many values and letters a reading holds, each counted each time it is reached (what is shared counts as often as it is met; a slice's spare places count too). A statement '..UptoSaid' is the law's where the arguments, and the package variables that the reading takes, are together of bulk at most 1048576: NARROWER than '..Said'. Prove '..Said' where nothing that the law and all that it calls make is longer than what came in: it says more and counts as full. Else prove '..UptoSaid'. A law counts once. -/
mutual
def uptoBulk {H : Type} : DataW H → Nat
  | .lit (.string bytes) => bytes.length + 1
  | .lit _ => 1
  | .nil => 1
  | .ptr d => uptoBulk d + 1
  | .slice elems spare => uptoBulkAll elems + uptoBulkAll spare + 1
  | .agg parts => uptoBulkAll parts + 1
  | .iface _ d => uptoBulk d + 1
  | .map entries => uptoBulkEntries entries + 1
  | .held _ => 1
def uptoBulkAll {H : Type} : List (DataW H) → Nat
  | [] => 0
  | d :: r => uptoBulk d + uptoBulkAll r
def uptoBulkEntries {H : Type} : List (Lit × DataW H) → Nat
  | [] => 0
  | x :: r => uptoBulkEntry x + uptoBulkEntries r
def uptoBulkEntry {H : Type} : Lit × DataW H → Nat
  | (.string bytes, d) => bytes.length + uptoBulk d + 1
  | (_, d) => uptoBulk d + 1
 end
def uptoSmall : (H : Type) → List (DataW H) → Bool := fun _ ds => decide (uptoBulkAll ds ≤ 1048576)
def OpenSpec.upto (s : _root_.Go.ChangeSpec) : _root_.Go.OpenSpec := { _root_.Go.OpenSpec.ofChange s with cond := some uptoSmall }

/-- 'gatepathlaw18.KeystoreStates', WHERE WHAT IT READS IS OF BULK AT MOST 1048576: true; the input reads as it did. -/
def keystoreStatesUptoRow : OpenClaim := { program := "ytoaeklbenmlooaa", sum := "a2dfeeaa6b96d452a8c8c7d58d8b4474334565a3296363d28448120193a6c50e", func := "gatepath/gatepathlaw18.KeystoreStates", spec := "keystoreStates", unfollowed := true, recurses := true, apart := false, narrowed := true }
def KeystoreStatesUptoSaid : Prop := keystoreStatesUptoRow.holds Try.pinned (OpenSpec.upto keystoreStatesSpec)

/-- 'gatepathlaw18.KeystoreCalls', WHERE WHAT IT READS IS OF BULK AT MOST 1048576: true; the input reads as it did. -/
def keystoreCallsUptoRow : OpenClaim := { program := "ytoaeklbenmlooaa", sum := "a2dfeeaa6b96d452a8c8c7d58d8b4474334565a3296363d28448120193a6c50e", func := "gatepath/gatepathlaw18.KeystoreCalls", spec := "keystoreCalls", unfollowed := true, recurses := true, apart := false, narrowed := true }
def KeystoreCallsUptoSaid : Prop := keystoreCallsUptoRow.holds Try.pinned (OpenSpec.upto keystoreCallsSpec)

/-- 'gatepathlaw18.KeystoreNames', WHERE WHAT IT READS IS OF BULK AT MOST 1048576: true; the input reads as it did. -/
def keystoreNamesUptoRow : OpenClaim := { program := "ytoaeklbenmlooaa", sum := "a2dfeeaa6b96d452a8c8c7d58d8b4474334565a3296363d28448120193a6c50e", func := "gatepath/gatepathlaw18.KeystoreNames", spec := "keystoreNames", unfollowed := true, recurses := true, apart := false, narrowed := true }
def KeystoreNamesUptoSaid : Prop := keystoreNamesUptoRow.holds Try.pinned (OpenSpec.upto keystoreNamesSpec)

/-- 'gatepathlaw18.KeystoreOnce', WHERE WHAT IT READS IS OF BULK AT MOST 1048576: true; the input reads as it did. -/
def keystoreOnceUptoRow : OpenClaim := { program := "ytoaeklbenmlooaa", sum := "a2dfeeaa6b96d452a8c8c7d58d8b4474334565a3296363d28448120193a6c50e", func := "gatepath/gatepathlaw18.KeystoreOnce", spec := "keystoreOnce", unfollowed := true, recurses := true, apart := false, narrowed := true }
def KeystoreOnceUptoSaid : Prop := keystoreOnceUptoRow.holds Try.pinned (OpenSpec.upto keystoreOnceSpec)

/-- 'gatepathlaw18.KeystoreKeeps', WHERE WHAT IT READS IS OF BULK AT MOST 1048576: true; the input reads as it did. -/
def keystoreKeepsUptoRow : OpenClaim := { program := "ytoaeklbenmlooaa", sum := "a2dfeeaa6b96d452a8c8c7d58d8b4474334565a3296363d28448120193a6c50e", func := "gatepath/gatepathlaw18.KeystoreKeeps", spec := "keystoreKeeps", unfollowed := true, recurses := true, apart := false, narrowed := true }
def KeystoreKeepsUptoSaid : Prop := keystoreKeepsUptoRow.holds Try.pinned (OpenSpec.upto keystoreKeepsSpec)

/-- 'gatepathlaw18.KeystorePlays', WHERE WHAT IT READS IS OF BULK AT MOST 1048576: true; the input reads as it did. -/
def keystorePlaysUptoRow : OpenClaim := { program := "ytoaeklbenmlooaa", sum := "a2dfeeaa6b96d452a8c8c7d58d8b4474334565a3296363d28448120193a6c50e", func := "gatepath/gatepathlaw18.KeystorePlays", spec := "keystorePlays", unfollowed := true, recurses := true, apart := false, narrowed := true }
def KeystorePlaysUptoSaid : Prop := keystorePlaysUptoRow.holds Try.pinned (OpenSpec.upto keystorePlaysSpec)

end Rows
end Go.Proofs.Ytoaeklbenmlooaa
