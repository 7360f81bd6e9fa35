/-
  NARROWER THAN 'FOR EVERY INPUT', by the rows' own cells (each row's printed sentence says how): OnetimeRecovers: laid · OnetimeSigns: laid · OnetimeNames: laid · OnetimeVerifies: laid · OnetimeGuards: laid · OnetimeClimbs: laid · OnetimeEnds: laid.
  DERIVED. THE GIVEN ROWS OF THIS SEAT. 7 by the template 'for every input the law returns true; each argument reads behind the call as it read before'; 0 by the template 'total and deterministic' (their statements: YtfppaagdnpoemaaDoorTotals.lean).
  GIVEN WITH THE SEED: the statements are not yours to turn. If you find one false, say at which input.
  Laid BY PROGRAM, IN A SANDBOX (cutbox-rows.mjs): the forced cells as the released guide's own fill.sh prints them over the translation 7b56131a874eb20a… (all of the seat's roots in one cut). By AI agents, Wed Nov 11 2026. No macro, syntax, notation, axiom, sorry.
-/
import Derived.Test.YtfppaagdnpoemaaDoorChecked
import GoSem.Claim
import GoSem.ClaimJoined
import GoSem.ClaimMapViews
import Derived.JoinedTies
import Derived.KernelRfl
namespace Go.Proofs.YtfppaagdnpoemaaDoor
/- THE CELL 'sum', in the pinned program and in every row, IS THE sha256 OF THE DUMP (.gsa) THAT YtfppaagdnpoemaaDoorProg.lean LOADS. Nothing in Lean hashes anything: it is a label: what it is worth is what the hold of that sum in a sandbox is worth. -/
noncomputable def Tryd.pinned : Pinned := { name := "ytfppaagdnpoemaadoor", sum := "7b56131a874eb20a0c9360c80d7419f9456e446b1f35b6ae01a516ae1a559ef7", checked := Tryd.checked }
namespace Rows
def none {H : Type} : Left H := { results := [], args := [] }

/- WHAT THE LISTED PACKAGE-LEVEL VARIABLES READ AS WHEN THE CALL BEGINS. Each datum BY PROGRAM (the guide's laid-datum.mjs) off the statement by which the dump's own 'gosem.cut.vars' lays the variable. In a bare row this is a premise. The card (YtfppaagdnpoemaaDoorCards.lean) ties it to the program's text. -/
def laid_gatepath_digest_roots {H : Type} : DataW H := .agg [.lit (.int .u32 1116352408), .lit (.int .u32 1899447441), .lit (.int .u32 3049323471), .lit (.int .u32 3921009573), .lit (.int .u32 961987163), .lit (.int .u32 1508970993), .lit (.int .u32 2453635748), .lit (.int .u32 2870763221), .lit (.int .u32 3624381080), .lit (.int .u32 310598401), .lit (.int .u32 607225278), .lit (.int .u32 1426881987), .lit (.int .u32 1925078388), .lit (.int .u32 2162078206), .lit (.int .u32 2614888103), .lit (.int .u32 3248222580), .lit (.int .u32 3835390401), .lit (.int .u32 4022224774), .lit (.int .u32 264347078), .lit (.int .u32 604807628), .lit (.int .u32 770255983), .lit (.int .u32 1249150122), .lit (.int .u32 1555081692), .lit (.int .u32 1996064986), .lit (.int .u32 2554220882), .lit (.int .u32 2821834349), .lit (.int .u32 2952996808), .lit (.int .u32 3210313671), .lit (.int .u32 3336571891), .lit (.int .u32 3584528711), .lit (.int .u32 113926993), .lit (.int .u32 338241895), .lit (.int .u32 666307205), .lit (.int .u32 773529912), .lit (.int .u32 1294757372), .lit (.int .u32 1396182291), .lit (.int .u32 1695183700), .lit (.int .u32 1986661051), .lit (.int .u32 2177026350), .lit (.int .u32 2456956037), .lit (.int .u32 2730485921), .lit (.int .u32 2820302411), .lit (.int .u32 3259730800), .lit (.int .u32 3345764771), .lit (.int .u32 3516065817), .lit (.int .u32 3600352804), .lit (.int .u32 4094571909), .lit (.int .u32 275423344), .lit (.int .u32 430227734), .lit (.int .u32 506948616), .lit (.int .u32 659060556), .lit (.int .u32 883997877), .lit (.int .u32 958139571), .lit (.int .u32 1322822218), .lit (.int .u32 1537002063), .lit (.int .u32 1747873779), .lit (.int .u32 1955562222), .lit (.int .u32 2024104815), .lit (.int .u32 2227730452), .lit (.int .u32 2361852424), .lit (.int .u32 2428436474), .lit (.int .u32 2756734187), .lit (.int .u32 3204031479), .lit (.int .u32 3329325298)]

/-- 'gatepathlaw06.OnetimeRecovers': WHATEVER THE INPUT: true; the input reads as it did. -/
def onetimeRecoversSpec : ChangeSpec := { name := "onetimeRecovers", fn := fun _ => fun
  | [d1, d2] => { results := [.lit (.bool true)], args := [d1, d2] }
  | _ => none }
def onetimeRecoversRow : OpenClaim := { program := "ytfppaagdnpoemaadoor", sum := "7b56131a874eb20a0c9360c80d7419f9456e446b1f35b6ae01a516ae1a559ef7", func := "gatepath/gatepathlaw06.OnetimeRecovers", spec := "onetimeRecovers", unfollowed := true, recurses := true, named := ["gatepath/digest.roots"], apart := false, laid := [("gatepath/digest.roots", laid_gatepath_digest_roots)] }
def OnetimeRecoversSaid : Prop := onetimeRecoversRow.holds Tryd.pinned (OpenSpec.ofChange onetimeRecoversSpec)

/-- ITS FALSE NEIGHBOUR: 'it returns false'. Refute it at one input. -/
def onetimeRecoversWrong : ChangeSpec := { name := "onetimeRecovers", fn := fun _ => fun
  | [d1, d2] => { results := [.lit (.bool false)], args := [d1, d2] }
  | _ => none }
def OnetimeRecoversWrongFalsely : Prop := onetimeRecoversRow.holds Tryd.pinned (OpenSpec.ofChange onetimeRecoversWrong)

/-- 'gatepathlaw06.OnetimeSigns': WHATEVER THE INPUT: true; the input reads as it did. -/
def onetimeSignsSpec : ChangeSpec := { name := "onetimeSigns", fn := fun _ => fun
  | [d1, d2] => { results := [.lit (.bool true)], args := [d1, d2] }
  | _ => none }
def onetimeSignsRow : OpenClaim := { program := "ytfppaagdnpoemaadoor", sum := "7b56131a874eb20a0c9360c80d7419f9456e446b1f35b6ae01a516ae1a559ef7", func := "gatepath/gatepathlaw06.OnetimeSigns", spec := "onetimeSigns", unfollowed := true, recurses := true, named := ["gatepath/digest.roots"], apart := false, laid := [("gatepath/digest.roots", laid_gatepath_digest_roots)] }
def OnetimeSignsSaid : Prop := onetimeSignsRow.holds Tryd.pinned (OpenSpec.ofChange onetimeSignsSpec)

/-- ITS FALSE NEIGHBOUR: 'it returns false'. Refute it at one input. -/
def onetimeSignsWrong : ChangeSpec := { name := "onetimeSigns", fn := fun _ => fun
  | [d1, d2] => { results := [.lit (.bool false)], args := [d1, d2] }
  | _ => none }
def OnetimeSignsWrongFalsely : Prop := onetimeSignsRow.holds Tryd.pinned (OpenSpec.ofChange onetimeSignsWrong)

/-- 'gatepathlaw06.OnetimeNames': WHATEVER THE INPUT: true; the input reads as it did. -/
def onetimeNamesSpec : ChangeSpec := { name := "onetimeNames", fn := fun _ => fun
  | [] => { results := [.lit (.bool true)], args := [] }
  | _ => none }
def onetimeNamesRow : OpenClaim := { program := "ytfppaagdnpoemaadoor", sum := "7b56131a874eb20a0c9360c80d7419f9456e446b1f35b6ae01a516ae1a559ef7", func := "gatepath/gatepathlaw06.OnetimeNames", spec := "onetimeNames", unfollowed := true, recurses := true, named := ["gatepath/digest.roots"], apart := false, laid := [("gatepath/digest.roots", laid_gatepath_digest_roots)] }
def OnetimeNamesSaid : Prop := onetimeNamesRow.holds Tryd.pinned (OpenSpec.ofChange onetimeNamesSpec)

/-- ITS FALSE NEIGHBOUR: 'it returns false'. Refute it at one input. -/
def onetimeNamesWrong : ChangeSpec := { name := "onetimeNames", fn := fun _ => fun
  | [] => { results := [.lit (.bool false)], args := [] }
  | _ => none }
def OnetimeNamesWrongFalsely : Prop := onetimeNamesRow.holds Tryd.pinned (OpenSpec.ofChange onetimeNamesWrong)

/-- 'gatepathlaw06.OnetimeVerifies': WHATEVER THE INPUT: true; the input reads as it did. -/
def onetimeVerifiesSpec : ChangeSpec := { name := "onetimeVerifies", fn := fun _ => fun
  | [d1, d2] => { results := [.lit (.bool true)], args := [d1, d2] }
  | _ => none }
def onetimeVerifiesRow : OpenClaim := { program := "ytfppaagdnpoemaadoor", sum := "7b56131a874eb20a0c9360c80d7419f9456e446b1f35b6ae01a516ae1a559ef7", func := "gatepath/gatepathlaw06.OnetimeVerifies", spec := "onetimeVerifies", unfollowed := true, recurses := true, named := ["gatepath/digest.roots"], apart := false, laid := [("gatepath/digest.roots", laid_gatepath_digest_roots)] }
def OnetimeVerifiesSaid : Prop := onetimeVerifiesRow.holds Tryd.pinned (OpenSpec.ofChange onetimeVerifiesSpec)

/-- ITS FALSE NEIGHBOUR: 'it returns false'. Refute it at one input. -/
def onetimeVerifiesWrong : ChangeSpec := { name := "onetimeVerifies", fn := fun _ => fun
  | [d1, d2] => { results := [.lit (.bool false)], args := [d1, d2] }
  | _ => none }
def OnetimeVerifiesWrongFalsely : Prop := onetimeVerifiesRow.holds Tryd.pinned (OpenSpec.ofChange onetimeVerifiesWrong)

/-- 'gatepathlaw06.OnetimeGuards': WHATEVER THE INPUT: true; the input reads as it did. -/
def onetimeGuardsSpec : ChangeSpec := { name := "onetimeGuards", fn := fun _ => fun
  | [d1, d2] => { results := [.lit (.bool true)], args := [d1, d2] }
  | _ => none }
def onetimeGuardsRow : OpenClaim := { program := "ytfppaagdnpoemaadoor", sum := "7b56131a874eb20a0c9360c80d7419f9456e446b1f35b6ae01a516ae1a559ef7", func := "gatepath/gatepathlaw06.OnetimeGuards", spec := "onetimeGuards", unfollowed := true, recurses := true, named := ["gatepath/digest.roots"], apart := false, laid := [("gatepath/digest.roots", laid_gatepath_digest_roots)] }
def OnetimeGuardsSaid : Prop := onetimeGuardsRow.holds Tryd.pinned (OpenSpec.ofChange onetimeGuardsSpec)

/-- ITS FALSE NEIGHBOUR: 'it returns false'. Refute it at one input. -/
def onetimeGuardsWrong : ChangeSpec := { name := "onetimeGuards", fn := fun _ => fun
  | [d1, d2] => { results := [.lit (.bool false)], args := [d1, d2] }
  | _ => none }
def OnetimeGuardsWrongFalsely : Prop := onetimeGuardsRow.holds Tryd.pinned (OpenSpec.ofChange onetimeGuardsWrong)

/-- 'gatepathlaw06.OnetimeClimbs': WHATEVER THE INPUT: true; the input reads as it did. -/
def onetimeClimbsSpec : ChangeSpec := { name := "onetimeClimbs", fn := fun _ => fun
  | [d1, d2, d3] => { results := [.lit (.bool true)], args := [d1, d2, d3] }
  | _ => none }
def onetimeClimbsRow : OpenClaim := { program := "ytfppaagdnpoemaadoor", sum := "7b56131a874eb20a0c9360c80d7419f9456e446b1f35b6ae01a516ae1a559ef7", func := "gatepath/gatepathlaw06.OnetimeClimbs", spec := "onetimeClimbs", unfollowed := true, recurses := true, named := ["gatepath/digest.roots"], apart := false, laid := [("gatepath/digest.roots", laid_gatepath_digest_roots)] }
def OnetimeClimbsSaid : Prop := onetimeClimbsRow.holds Tryd.pinned (OpenSpec.ofChange onetimeClimbsSpec)

/-- ITS FALSE NEIGHBOUR: 'it returns false'. Refute it at one input. -/
def onetimeClimbsWrong : ChangeSpec := { name := "onetimeClimbs", fn := fun _ => fun
  | [d1, d2, d3] => { results := [.lit (.bool false)], args := [d1, d2, d3] }
  | _ => none }
def OnetimeClimbsWrongFalsely : Prop := onetimeClimbsRow.holds Tryd.pinned (OpenSpec.ofChange onetimeClimbsWrong)

/-- 'gatepathlaw06.OnetimeEnds': WHATEVER THE INPUT: true; the input reads as it did. -/
def onetimeEndsSpec : ChangeSpec := { name := "onetimeEnds", fn := fun _ => fun
  | [d1, d2] => { results := [.lit (.bool true)], args := [d1, d2] }
  | _ => none }
def onetimeEndsRow : OpenClaim := { program := "ytfppaagdnpoemaadoor", sum := "7b56131a874eb20a0c9360c80d7419f9456e446b1f35b6ae01a516ae1a559ef7", func := "gatepath/gatepathlaw06.OnetimeEnds", spec := "onetimeEnds", unfollowed := true, recurses := true, named := ["gatepath/digest.roots"], apart := false, laid := [("gatepath/digest.roots", laid_gatepath_digest_roots)] }
def OnetimeEndsSaid : Prop := onetimeEndsRow.holds Tryd.pinned (OpenSpec.ofChange onetimeEndsSpec)

/-- ITS FALSE NEIGHBOUR: 'it returns false'. Refute it at one input. -/
def onetimeEndsWrong : ChangeSpec := { name := "onetimeEnds", fn := fun _ => fun
  | [d1, d2] => { results := [.lit (.bool false)], args := [d1, d2] }
  | _ => none }
def OnetimeEndsWrongFalsely : Prop := onetimeEndsRow.holds Tryd.pinned (OpenSpec.ofChange onetimeEndsWrong)

/- THE SECOND FORM. 'bulk': how many values and letters a reading holds, each counted each time it is reached (what is shared counts as often as it is met; a slice's spare places count too). A statement '..UptoSaid' is the law's where the arguments, and the package variables that the reading takes, are together of bulk at most 1048576: NARROWER than '..Said'. Prove '..Said' where nothing that the law and all that it calls make is longer than what came in: it says more and counts as full. Else prove '..UptoSaid'. A law counts once. -/
mutual
def uptoBulk {H : Type} : DataW H → Nat
  | .lit (.string bytes) => bytes.length + 1
  | .lit _ => 1
  | .nil => 1
  | .ptr d => uptoBulk d + 1
  | .slice elems spare => uptoBulkAll elems + uptoBulkAll spare + 1
  | .agg parts => uptoBulkAll parts + 1
  | .iface _ d => uptoBulk d + 1
  | .map entries => uptoBulkEntries entries + 1
  | .held _ => 1
def uptoBulkAll {H : Type} : List (DataW H) → Nat
  | [] => 0
  | d :: r => uptoBulk d + uptoBulkAll r
def uptoBulkEntries {H : Type} : List (Lit × DataW H) → Nat
  | [] => 0
  | x :: r => uptoBulkEntry x + uptoBulkEntries r
def uptoBulkEntry {H : Type} : Lit × DataW H → Nat
  | (.string bytes, d) => bytes.length + uptoBulk d + 1
  | (_, d) => uptoBulk d + 1
 end
def uptoSmall : (H : Type) → List (DataW H) → Bool := fun _ ds => decide (uptoBulkAll ds ≤ 1048576)
def OpenSpec.upto (s : _root_.Go.ChangeSpec) : _root_.Go.OpenSpec := { _root_.Go.OpenSpec.ofChange s with cond := some uptoSmall }

/-- 'gatepathlaw06.OnetimeRecovers', WHERE WHAT IT READS IS OF BULK AT MOST 1048576: true; the input reads as it did. -/
def onetimeRecoversUptoRow : OpenClaim := { program := "ytfppaagdnpoemaadoor", sum := "7b56131a874eb20a0c9360c80d7419f9456e446b1f35b6ae01a516ae1a559ef7", func := "gatepath/gatepathlaw06.OnetimeRecovers", spec := "onetimeRecovers", unfollowed := true, recurses := true, named := ["gatepath/digest.roots"], apart := false, laid := [("gatepath/digest.roots", laid_gatepath_digest_roots)], narrowed := true }
def OnetimeRecoversUptoSaid : Prop := onetimeRecoversUptoRow.holds Tryd.pinned (OpenSpec.upto onetimeRecoversSpec)

/-- 'gatepathlaw06.OnetimeSigns', WHERE WHAT IT READS IS OF BULK AT MOST 1048576: true; the input reads as it did. -/
def onetimeSignsUptoRow : OpenClaim := { program := "ytfppaagdnpoemaadoor", sum := "7b56131a874eb20a0c9360c80d7419f9456e446b1f35b6ae01a516ae1a559ef7", func := "gatepath/gatepathlaw06.OnetimeSigns", spec := "onetimeSigns", unfollowed := true, recurses := true, named := ["gatepath/digest.roots"], apart := false, laid := [("gatepath/digest.roots", laid_gatepath_digest_roots)], narrowed := true }
def OnetimeSignsUptoSaid : Prop := onetimeSignsUptoRow.holds Tryd.pinned (OpenSpec.upto onetimeSignsSpec)

/-- 'gatepathlaw06.OnetimeNames', WHERE WHAT IT READS IS OF BULK AT MOST 1048576: true; the input reads as it did. -/
def onetimeNamesUptoRow : OpenClaim := { program := "ytfppaagdnpoemaadoor", sum := "7b56131a874eb20a0c9360c80d7419f9456e446b1f35b6ae01a516ae1a559ef7", func := "gatepath/gatepathlaw06.OnetimeNames", spec := "onetimeNames", unfollowed := true, recurses := true, named := ["gatepath/digest.roots"], apart := false, laid := [("gatepath/digest.roots", laid_gatepath_digest_roots)], narrowed := true }
def OnetimeNamesUptoSaid : Prop := onetimeNamesUptoRow.holds Tryd.pinned (OpenSpec.upto onetimeNamesSpec)

/-- 'gatepathlaw06.OnetimeVerifies', WHERE WHAT IT READS IS OF BULK AT MOST 1048576: true; the input reads as it did. -/
def onetimeVerifiesUptoRow : OpenClaim := { program := "ytfppaagdnpoemaadoor", sum := "7b56131a874eb20a0c9360c80d7419f9456e446b1f35b6ae01a516ae1a559ef7", func := "gatepath/gatepathlaw06.OnetimeVerifies", spec := "onetimeVerifies", unfollowed := true, recurses := true, named := ["gatepath/digest.roots"], apart := false, laid := [("gatepath/digest.roots", laid_gatepath_digest_roots)], narrowed := true }
def OnetimeVerifiesUptoSaid : Prop := onetimeVerifiesUptoRow.holds Tryd.pinned (OpenSpec.upto onetimeVerifiesSpec)

/-- 'gatepathlaw06.OnetimeGuards', WHERE WHAT IT READS IS OF BULK AT MOST 1048576: true; the input reads as it did. -/
def onetimeGuardsUptoRow : OpenClaim := { program := "ytfppaagdnpoemaadoor", sum := "7b56131a874eb20a0c9360c80d7419f9456e446b1f35b6ae01a516ae1a559ef7", func := "gatepath/gatepathlaw06.OnetimeGuards", spec := "onetimeGuards", unfollowed := true, recurses := true, named := ["gatepath/digest.roots"], apart := false, laid := [("gatepath/digest.roots", laid_gatepath_digest_roots)], narrowed := true }
def OnetimeGuardsUptoSaid : Prop := onetimeGuardsUptoRow.holds Tryd.pinned (OpenSpec.upto onetimeGuardsSpec)

/-- 'gatepathlaw06.OnetimeClimbs', WHERE WHAT IT READS IS OF BULK AT MOST 1048576: true; the input reads as it did. -/
def onetimeClimbsUptoRow : OpenClaim := { program := "ytfppaagdnpoemaadoor", sum := "7b56131a874eb20a0c9360c80d7419f9456e446b1f35b6ae01a516ae1a559ef7", func := "gatepath/gatepathlaw06.OnetimeClimbs", spec := "onetimeClimbs", unfollowed := true, recurses := true, named := ["gatepath/digest.roots"], apart := false, laid := [("gatepath/digest.roots", laid_gatepath_digest_roots)], narrowed := true }
def OnetimeClimbsUptoSaid : Prop := onetimeClimbsUptoRow.holds Tryd.pinned (OpenSpec.upto onetimeClimbsSpec)

/-- 'gatepathlaw06.OnetimeEnds', WHERE WHAT IT READS IS OF BULK AT MOST 1048576: true; the input reads as it did. -/
def onetimeEndsUptoRow : OpenClaim := { program := "ytfppaagdnpoemaadoor", sum := "7b56131a874eb20a0c9360c80d7419f9456e446b1f35b6ae01a516ae1a559ef7", func := "gatepath/gatepathlaw06.OnetimeEnds", spec := "onetimeEnds", unfollowed := true, recurses := true, named := ["gatepath/digest.roots"], apart := false, laid := [("gatepath/digest.roots", laid_gatepath_digest_roots)], narrowed := true }
def OnetimeEndsUptoSaid : Prop := onetimeEndsUptoRow.holds Tryd.pinned (OpenSpec.upto onetimeEndsSpec)

end Rows
end Go.Proofs.YtfppaagdnpoemaaDoor
