/-
  No cell of these rows narrows 'for every input' (looked for: loops, veiled, ifaces, maps, wideKeys, modest, calm, conditions, laid).
  DERIVED. THE GIVEN ROWS OF THIS SEAT. 4 by the template 'for every input the law returns true; each argument reads behind the call as it read before'; 0 by the template 'total and deterministic' (their statements: YtgnablliekgbgaaTotals.lean).
  GIVEN WITH THE SEED: the statements are not yours to turn. If you find one false, say at which input.
  Laid BY PROGRAM, IN A SANDBOX (cutbox-rows.mjs): the forced cells as the released guide's own fill.sh prints them over the translation cd95f547b47d81b4… (all of the seat's roots in one cut). By AI agents, Wed Nov 11 2026. No macro, syntax, notation, axiom, sorry.
-/
import Derived.Test.YtgnablliekgbgaaChecked
import GoSem.Claim
import GoSem.ClaimJoined
import GoSem.ClaimMapViews
import Derived.JoinedTies
import Derived.KernelRfl
namespace Go.Proofs.Ytgnablliekgbgaa
/- THE CELL 'sum', in the pinned program and in every row, IS THE sha256 OF THE DUMP (.gsa) THAT YtgnablliekgbgaaProg.lean LOADS. Nothing in Lean hashes anything: it is a label: what it is worth is what the hold of that sum in a sandbox is worth. -/
noncomputable def Try.pinned : Pinned := { name := "ytgnablliekgbgaa", sum := "cd95f547b47d81b45257a4e771b15f2005aa3abb0dfc7576366afd64ed6dc87f", checked := Try.checked }
namespace Rows
def none {H : Type} : Left H := { results := [], args := [] }

/-- 'gatepathlaw11.RevokeChecks': WHATEVER THE INPUT: true; the input reads as it did. -/
def revokeChecksSpec : ChangeSpec := { name := "revokeChecks", fn := fun _ => fun
  | [d1, d2, d3] => { results := [.lit (.bool true)], args := [d1, d2, d3] }
  | _ => none }
def revokeChecksRow : OpenClaim := { program := "ytgnablliekgbgaa", sum := "cd95f547b47d81b45257a4e771b15f2005aa3abb0dfc7576366afd64ed6dc87f", func := "gatepath/gatepathlaw11.RevokeChecks", spec := "revokeChecks", unfollowed := true, recurses := true, apart := false }
def RevokeChecksSaid : Prop := revokeChecksRow.holds Try.pinned (OpenSpec.ofChange revokeChecksSpec)

/-- ITS FALSE NEIGHBOUR: 'it returns false'. Refute it at one input. -/
def revokeChecksWrong : ChangeSpec := { name := "revokeChecks", fn := fun _ => fun
  | [d1, d2, d3] => { results := [.lit (.bool false)], args := [d1, d2, d3] }
  | _ => none }
def RevokeChecksWrongFalsely : Prop := revokeChecksRow.holds Try.pinned (OpenSpec.ofChange revokeChecksWrong)

/-- 'gatepathlaw11.RevokeCodes': WHATEVER THE INPUT: true; the input reads as it did. -/
def revokeCodesSpec : ChangeSpec := { name := "revokeCodes", fn := fun _ => fun
  | [d1, d2] => { results := [.lit (.bool true)], args := [d1, d2] }
  | _ => none }
def revokeCodesRow : OpenClaim := { program := "ytgnablliekgbgaa", sum := "cd95f547b47d81b45257a4e771b15f2005aa3abb0dfc7576366afd64ed6dc87f", func := "gatepath/gatepathlaw11.RevokeCodes", spec := "revokeCodes", unfollowed := true, recurses := true, apart := false }
def RevokeCodesSaid : Prop := revokeCodesRow.holds Try.pinned (OpenSpec.ofChange revokeCodesSpec)

/-- ITS FALSE NEIGHBOUR: 'it returns false'. Refute it at one input. -/
def revokeCodesWrong : ChangeSpec := { name := "revokeCodes", fn := fun _ => fun
  | [d1, d2] => { results := [.lit (.bool false)], args := [d1, d2] }
  | _ => none }
def RevokeCodesWrongFalsely : Prop := revokeCodesRow.holds Try.pinned (OpenSpec.ofChange revokeCodesWrong)

/-- 'gatepathlaw11.RevokeBack': WHATEVER THE INPUT: true; the input reads as it did. -/
def revokeBackSpec : ChangeSpec := { name := "revokeBack", fn := fun _ => fun
  | [d1, d2] => { results := [.lit (.bool true)], args := [d1, d2] }
  | _ => none }
def revokeBackRow : OpenClaim := { program := "ytgnablliekgbgaa", sum := "cd95f547b47d81b45257a4e771b15f2005aa3abb0dfc7576366afd64ed6dc87f", func := "gatepath/gatepathlaw11.RevokeBack", spec := "revokeBack", unfollowed := true, recurses := true, apart := false }
def RevokeBackSaid : Prop := revokeBackRow.holds Try.pinned (OpenSpec.ofChange revokeBackSpec)

/-- ITS FALSE NEIGHBOUR: 'it returns false'. Refute it at one input. -/
def revokeBackWrong : ChangeSpec := { name := "revokeBack", fn := fun _ => fun
  | [d1, d2] => { results := [.lit (.bool false)], args := [d1, d2] }
  | _ => none }
def RevokeBackWrongFalsely : Prop := revokeBackRow.holds Try.pinned (OpenSpec.ofChange revokeBackWrong)

/-- 'gatepathlaw11.RevokeBodies': WHATEVER THE INPUT: true; the input reads as it did. -/
def revokeBodiesSpec : ChangeSpec := { name := "revokeBodies", fn := fun _ => fun
  | [d1, d2] => { results := [.lit (.bool true)], args := [d1, d2] }
  | _ => none }
def revokeBodiesRow : OpenClaim := { program := "ytgnablliekgbgaa", sum := "cd95f547b47d81b45257a4e771b15f2005aa3abb0dfc7576366afd64ed6dc87f", func := "gatepath/gatepathlaw11.RevokeBodies", spec := "revokeBodies", unfollowed := true, recurses := true, apart := false }
def RevokeBodiesSaid : Prop := revokeBodiesRow.holds Try.pinned (OpenSpec.ofChange revokeBodiesSpec)

/-- ITS FALSE NEIGHBOUR: 'it returns false'. Refute it at one input. -/
def revokeBodiesWrong : ChangeSpec := { name := "revokeBodies", fn := fun _ => fun
  | [d1, d2] => { results := [.lit (.bool false)], args := [d1, d2] }
  | _ => none }
def RevokeBodiesWrongFalsely : Prop := revokeBodiesRow.holds Try.pinned (OpenSpec.ofChange revokeBodiesWrong)

/- THE SECOND FORM. 'bulk': how many values and letters a reading holds, each counted each time it is reached (what is shared counts as often as it is met; a slice's spare places count too). A statement '..UptoSaid' is the law's where the arguments, and the package variables that the reading takes, are together of bulk at most 1048576: NARROWER than '..Said'. Prove '..Said' where nothing that the law and all that it calls make is longer than what came in: it says more and counts as full. Else prove '..UptoSaid'. A law counts once. -/
mutual
def uptoBulk {H : Type} : DataW H → Nat
  | .lit (.string bytes) => bytes.length + 1
  | .lit _ => 1
  | .nil => 1
  | .ptr d => uptoBulk d + 1
  | .slice elems spare => uptoBulkAll elems + uptoBulkAll spare + 1
  | .agg parts => uptoBulkAll parts + 1
  | .iface _ d => uptoBulk d + 1
  | .map entries => uptoBulkEntries entries + 1
  | .held _ => 1
def uptoBulkAll {H : Type} : List (DataW H) → Nat
  | [] => 0
  | d :: r => uptoBulk d + uptoBulkAll r
def uptoBulkEntries {H : Type} : List (Lit × DataW H) → Nat
  | [] => 0
  | x :: r => uptoBulkEntry x + uptoBulkEntries r
def uptoBulkEntry {H : Type} : Lit × DataW H → Nat
  | (.string bytes, d) => bytes.length + uptoBulk d + 1
  | (_, d) => uptoBulk d + 1
 end
def uptoSmall : (H : Type) → List (DataW H) → Bool := fun _ ds => decide (uptoBulkAll ds ≤ 1048576)
def OpenSpec.upto (s : _root_.Go.ChangeSpec) : _root_.Go.OpenSpec := { _root_.Go.OpenSpec.ofChange s with cond := some uptoSmall }

/-- 'gatepathlaw11.RevokeChecks', WHERE WHAT IT READS IS OF BULK AT MOST 1048576: true; the input reads as it did. -/
def revokeChecksUptoRow : OpenClaim := { program := "ytgnablliekgbgaa", sum := "cd95f547b47d81b45257a4e771b15f2005aa3abb0dfc7576366afd64ed6dc87f", func := "gatepath/gatepathlaw11.RevokeChecks", spec := "revokeChecks", unfollowed := true, recurses := true, apart := false, narrowed := true }
def RevokeChecksUptoSaid : Prop := revokeChecksUptoRow.holds Try.pinned (OpenSpec.upto revokeChecksSpec)

/-- 'gatepathlaw11.RevokeCodes', WHERE WHAT IT READS IS OF BULK AT MOST 1048576: true; the input reads as it did. -/
def revokeCodesUptoRow : OpenClaim := { program := "ytgnablliekgbgaa", sum := "cd95f547b47d81b45257a4e771b15f2005aa3abb0dfc7576366afd64ed6dc87f", func := "gatepath/gatepathlaw11.RevokeCodes", spec := "revokeCodes", unfollowed := true, recurses := true, apart := false, narrowed := true }
def RevokeCodesUptoSaid : Prop := revokeCodesUptoRow.holds Try.pinned (OpenSpec.upto revokeCodesSpec)

/-- 'gatepathlaw11.RevokeBack', WHERE WHAT IT READS IS OF BULK AT MOST 1048576: true; the input reads as it did. -/
def revokeBackUptoRow : OpenClaim := { program := "ytgnablliekgbgaa", sum := "cd95f547b47d81b45257a4e771b15f2005aa3abb0dfc7576366afd64ed6dc87f", func := "gatepath/gatepathlaw11.RevokeBack", spec := "revokeBack", unfollowed := true, recurses := true, apart := false, narrowed := true }
def RevokeBackUptoSaid : Prop := revokeBackUptoRow.holds Try.pinned (OpenSpec.upto revokeBackSpec)

/-- 'gatepathlaw11.RevokeBodies', WHERE WHAT IT READS IS OF BULK AT MOST 1048576: true; the input reads as it did. -/
def revokeBodiesUptoRow : OpenClaim := { program := "ytgnablliekgbgaa", sum := "cd95f547b47d81b45257a4e771b15f2005aa3abb0dfc7576366afd64ed6dc87f", func := "gatepath/gatepathlaw11.RevokeBodies", spec := "revokeBodies", unfollowed := true, recurses := true, apart := false, narrowed := true }
def RevokeBodiesUptoSaid : Prop := revokeBodiesUptoRow.holds Try.pinned (OpenSpec.upto revokeBodiesSpec)

end Rows
end Go.Proofs.Ytgnablliekgbgaa
