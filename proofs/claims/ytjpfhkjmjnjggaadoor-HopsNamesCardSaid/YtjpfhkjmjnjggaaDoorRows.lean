/-
  NARROWER THAN 'FOR EVERY INPUT', by the rows' own cells (each row's printed sentence says how): HopsShapes: laid · HopsTells: laid · HopsSigns: laid · HopsNames: laid · HopsExact: laid · HopsChain: laid · HopsMore: laid · HopsDiffers: laid.
  DERIVED. THE GIVEN ROWS OF THIS SEAT. 8 by the template 'for every input the law returns true; each argument reads behind the call as it read before'; 0 by the template 'total and deterministic' (their statements: YtjpfhkjmjnjggaaDoorTotals.lean).
  GIVEN WITH THE SEED: the statements are not yours to turn. If you find one false, say at which input.
  Laid BY PROGRAM, IN A SANDBOX (cutbox-rows.mjs): the forced cells as the released guide's own fill.sh prints them over the translation 7620b37253782711… (all of the seat's roots in one cut). By AI agents, Wed Nov 11 2026. No macro, syntax, notation, axiom, sorry.
-/
import Derived.Test.YtjpfhkjmjnjggaaDoorChecked
import GoSem.Claim
import GoSem.ClaimJoined
import GoSem.ClaimMapViews
import Derived.JoinedTies
import Derived.KernelRfl
namespace Go.Proofs.YtjpfhkjmjnjggaaDoor
/- THE CELL 'sum', in the pinned program and in every row, IS THE sha256 OF THE DUMP (.gsa) THAT YtjpfhkjmjnjggaaDoorProg.lean LOADS. Nothing in Lean hashes anything: it is a label: what it is worth is what the hold of that sum in a sandbox is worth. -/
noncomputable def Tryd.pinned : Pinned := { name := "ytjpfhkjmjnjggaadoor", sum := "7620b372537827118f155a4d4d95c43fa9d4e0d157afecf1d27b1f88de1c01af", checked := Tryd.checked }
namespace Rows
def none {H : Type} : Left H := { results := [], args := [] }

/- WHAT THE LISTED PACKAGE-LEVEL VARIABLES READ AS WHEN THE CALL BEGINS. Each datum BY PROGRAM (the guide's laid-datum.mjs) off the statement by which the dump's own 'gosem.cut.vars' lays the variable. In a bare row this is a premise. The card (YtjpfhkjmjnjggaaDoorCards.lean) ties it to the program's text. -/
def laid_gatepath_digest_roots {H : Type} : DataW H := .agg [.lit (.int .u32 1116352408), .lit (.int .u32 1899447441), .lit (.int .u32 3049323471), .lit (.int .u32 3921009573), .lit (.int .u32 961987163), .lit (.int .u32 1508970993), .lit (.int .u32 2453635748), .lit (.int .u32 2870763221), .lit (.int .u32 3624381080), .lit (.int .u32 310598401), .lit (.int .u32 607225278), .lit (.int .u32 1426881987), .lit (.int .u32 1925078388), .lit (.int .u32 2162078206), .lit (.int .u32 2614888103), .lit (.int .u32 3248222580), .lit (.int .u32 3835390401), .lit (.int .u32 4022224774), .lit (.int .u32 264347078), .lit (.int .u32 604807628), .lit (.int .u32 770255983), .lit (.int .u32 1249150122), .lit (.int .u32 1555081692), .lit (.int .u32 1996064986), .lit (.int .u32 2554220882), .lit (.int .u32 2821834349), .lit (.int .u32 2952996808), .lit (.int .u32 3210313671), .lit (.int .u32 3336571891), .lit (.int .u32 3584528711), .lit (.int .u32 113926993), .lit (.int .u32 338241895), .lit (.int .u32 666307205), .lit (.int .u32 773529912), .lit (.int .u32 1294757372), .lit (.int .u32 1396182291), .lit (.int .u32 1695183700), .lit (.int .u32 1986661051), .lit (.int .u32 2177026350), .lit (.int .u32 2456956037), .lit (.int .u32 2730485921), .lit (.int .u32 2820302411), .lit (.int .u32 3259730800), .lit (.int .u32 3345764771), .lit (.int .u32 3516065817), .lit (.int .u32 3600352804), .lit (.int .u32 4094571909), .lit (.int .u32 275423344), .lit (.int .u32 430227734), .lit (.int .u32 506948616), .lit (.int .u32 659060556), .lit (.int .u32 883997877), .lit (.int .u32 958139571), .lit (.int .u32 1322822218), .lit (.int .u32 1537002063), .lit (.int .u32 1747873779), .lit (.int .u32 1955562222), .lit (.int .u32 2024104815), .lit (.int .u32 2227730452), .lit (.int .u32 2361852424), .lit (.int .u32 2428436474), .lit (.int .u32 2756734187), .lit (.int .u32 3204031479), .lit (.int .u32 3329325298)]

/-- 'gatepathlaw42.HopsShapes': WHATEVER THE INPUT: true; the input reads as it did. -/
def hopsShapesSpec : ChangeSpec := { name := "hopsShapes", fn := fun _ => fun
  | [d1, d2] => { results := [.lit (.bool true)], args := [d1, d2] }
  | _ => none }
def hopsShapesRow : OpenClaim := { program := "ytjpfhkjmjnjggaadoor", sum := "7620b372537827118f155a4d4d95c43fa9d4e0d157afecf1d27b1f88de1c01af", func := "gatepath/gatepathlaw42.HopsShapes", spec := "hopsShapes", unfollowed := true, recurses := true, named := ["gatepath/digest.roots"], apart := false, laid := [("gatepath/digest.roots", laid_gatepath_digest_roots)] }
def HopsShapesSaid : Prop := hopsShapesRow.holds Tryd.pinned (OpenSpec.ofChange hopsShapesSpec)

/-- ITS FALSE NEIGHBOUR: 'it returns false'. Refute it at one input. -/
def hopsShapesWrong : ChangeSpec := { name := "hopsShapes", fn := fun _ => fun
  | [d1, d2] => { results := [.lit (.bool false)], args := [d1, d2] }
  | _ => none }
def HopsShapesWrongFalsely : Prop := hopsShapesRow.holds Tryd.pinned (OpenSpec.ofChange hopsShapesWrong)

/-- 'gatepathlaw42.HopsTells': WHATEVER THE INPUT: true; the input reads as it did. -/
def hopsTellsSpec : ChangeSpec := { name := "hopsTells", fn := fun _ => fun
  | [d1, d2, d3] => { results := [.lit (.bool true)], args := [d1, d2, d3] }
  | _ => none }
def hopsTellsRow : OpenClaim := { program := "ytjpfhkjmjnjggaadoor", sum := "7620b372537827118f155a4d4d95c43fa9d4e0d157afecf1d27b1f88de1c01af", func := "gatepath/gatepathlaw42.HopsTells", spec := "hopsTells", unfollowed := true, recurses := true, named := ["gatepath/digest.roots"], apart := false, laid := [("gatepath/digest.roots", laid_gatepath_digest_roots)] }
def HopsTellsSaid : Prop := hopsTellsRow.holds Tryd.pinned (OpenSpec.ofChange hopsTellsSpec)

/-- ITS FALSE NEIGHBOUR: 'it returns false'. Refute it at one input. -/
def hopsTellsWrong : ChangeSpec := { name := "hopsTells", fn := fun _ => fun
  | [d1, d2, d3] => { results := [.lit (.bool false)], args := [d1, d2, d3] }
  | _ => none }
def HopsTellsWrongFalsely : Prop := hopsTellsRow.holds Tryd.pinned (OpenSpec.ofChange hopsTellsWrong)

/-- 'gatepathlaw42.HopsSigns': WHATEVER THE INPUT: true; the input reads as it did. -/
def hopsSignsSpec : ChangeSpec := { name := "hopsSigns", fn := fun _ => fun
  | [d1, d2, d3, d4, d5, d6] => { results := [.lit (.bool true)], args := [d1, d2, d3, d4, d5, d6] }
  | _ => none }
def hopsSignsRow : OpenClaim := { program := "ytjpfhkjmjnjggaadoor", sum := "7620b372537827118f155a4d4d95c43fa9d4e0d157afecf1d27b1f88de1c01af", func := "gatepath/gatepathlaw42.HopsSigns", spec := "hopsSigns", unfollowed := true, recurses := true, named := ["gatepath/digest.roots"], apart := false, laid := [("gatepath/digest.roots", laid_gatepath_digest_roots)] }
def HopsSignsSaid : Prop := hopsSignsRow.holds Tryd.pinned (OpenSpec.ofChange hopsSignsSpec)

/-- ITS FALSE NEIGHBOUR: 'it returns false'. Refute it at one input. -/
def hopsSignsWrong : ChangeSpec := { name := "hopsSigns", fn := fun _ => fun
  | [d1, d2, d3, d4, d5, d6] => { results := [.lit (.bool false)], args := [d1, d2, d3, d4, d5, d6] }
  | _ => none }
def HopsSignsWrongFalsely : Prop := hopsSignsRow.holds Tryd.pinned (OpenSpec.ofChange hopsSignsWrong)

/-- 'gatepathlaw42.HopsNames': WHATEVER THE INPUT: true; the input reads as it did. -/
def hopsNamesSpec : ChangeSpec := { name := "hopsNames", fn := fun _ => fun
  | [] => { results := [.lit (.bool true)], args := [] }
  | _ => none }
def hopsNamesRow : OpenClaim := { program := "ytjpfhkjmjnjggaadoor", sum := "7620b372537827118f155a4d4d95c43fa9d4e0d157afecf1d27b1f88de1c01af", func := "gatepath/gatepathlaw42.HopsNames", spec := "hopsNames", unfollowed := true, recurses := true, named := ["gatepath/digest.roots"], apart := false, laid := [("gatepath/digest.roots", laid_gatepath_digest_roots)] }
def HopsNamesSaid : Prop := hopsNamesRow.holds Tryd.pinned (OpenSpec.ofChange hopsNamesSpec)

/-- ITS FALSE NEIGHBOUR: 'it returns false'. Refute it at one input. -/
def hopsNamesWrong : ChangeSpec := { name := "hopsNames", fn := fun _ => fun
  | [] => { results := [.lit (.bool false)], args := [] }
  | _ => none }
def HopsNamesWrongFalsely : Prop := hopsNamesRow.holds Tryd.pinned (OpenSpec.ofChange hopsNamesWrong)

/-- 'gatepathlaw42.HopsExact': WHATEVER THE INPUT: true; the input reads as it did. -/
def hopsExactSpec : ChangeSpec := { name := "hopsExact", fn := fun _ => fun
  | [d1, d2, d3] => { results := [.lit (.bool true)], args := [d1, d2, d3] }
  | _ => none }
def hopsExactRow : OpenClaim := { program := "ytjpfhkjmjnjggaadoor", sum := "7620b372537827118f155a4d4d95c43fa9d4e0d157afecf1d27b1f88de1c01af", func := "gatepath/gatepathlaw42.HopsExact", spec := "hopsExact", unfollowed := true, recurses := true, named := ["gatepath/digest.roots"], apart := false, laid := [("gatepath/digest.roots", laid_gatepath_digest_roots)] }
def HopsExactSaid : Prop := hopsExactRow.holds Tryd.pinned (OpenSpec.ofChange hopsExactSpec)

/-- ITS FALSE NEIGHBOUR: 'it returns false'. Refute it at one input. -/
def hopsExactWrong : ChangeSpec := { name := "hopsExact", fn := fun _ => fun
  | [d1, d2, d3] => { results := [.lit (.bool false)], args := [d1, d2, d3] }
  | _ => none }
def HopsExactWrongFalsely : Prop := hopsExactRow.holds Tryd.pinned (OpenSpec.ofChange hopsExactWrong)

/-- 'gatepathlaw42.HopsChain': WHATEVER THE INPUT: true; the input reads as it did. -/
def hopsChainSpec : ChangeSpec := { name := "hopsChain", fn := fun _ => fun
  | [d1, d2, d3, d4, d5, d6, d7] => { results := [.lit (.bool true)], args := [d1, d2, d3, d4, d5, d6, d7] }
  | _ => none }
def hopsChainRow : OpenClaim := { program := "ytjpfhkjmjnjggaadoor", sum := "7620b372537827118f155a4d4d95c43fa9d4e0d157afecf1d27b1f88de1c01af", func := "gatepath/gatepathlaw42.HopsChain", spec := "hopsChain", unfollowed := true, recurses := true, named := ["gatepath/digest.roots"], apart := false, laid := [("gatepath/digest.roots", laid_gatepath_digest_roots)] }
def HopsChainSaid : Prop := hopsChainRow.holds Tryd.pinned (OpenSpec.ofChange hopsChainSpec)

/-- ITS FALSE NEIGHBOUR: 'it returns false'. Refute it at one input. -/
def hopsChainWrong : ChangeSpec := { name := "hopsChain", fn := fun _ => fun
  | [d1, d2, d3, d4, d5, d6, d7] => { results := [.lit (.bool false)], args := [d1, d2, d3, d4, d5, d6, d7] }
  | _ => none }
def HopsChainWrongFalsely : Prop := hopsChainRow.holds Tryd.pinned (OpenSpec.ofChange hopsChainWrong)

/-- 'gatepathlaw42.HopsMore': WHATEVER THE INPUT: true; the input reads as it did. -/
def hopsMoreSpec : ChangeSpec := { name := "hopsMore", fn := fun _ => fun
  | [d1, d2, d3, d4] => { results := [.lit (.bool true)], args := [d1, d2, d3, d4] }
  | _ => none }
def hopsMoreRow : OpenClaim := { program := "ytjpfhkjmjnjggaadoor", sum := "7620b372537827118f155a4d4d95c43fa9d4e0d157afecf1d27b1f88de1c01af", func := "gatepath/gatepathlaw42.HopsMore", spec := "hopsMore", unfollowed := true, recurses := true, named := ["gatepath/digest.roots"], apart := false, laid := [("gatepath/digest.roots", laid_gatepath_digest_roots)] }
def HopsMoreSaid : Prop := hopsMoreRow.holds Tryd.pinned (OpenSpec.ofChange hopsMoreSpec)

/-- ITS FALSE NEIGHBOUR: 'it returns false'. Refute it at one input. -/
def hopsMoreWrong : ChangeSpec := { name := "hopsMore", fn := fun _ => fun
  | [d1, d2, d3, d4] => { results := [.lit (.bool false)], args := [d1, d2, d3, d4] }
  | _ => none }
def HopsMoreWrongFalsely : Prop := hopsMoreRow.holds Tryd.pinned (OpenSpec.ofChange hopsMoreWrong)

/-- 'gatepathlaw42.HopsDiffers': WHATEVER THE INPUT: true; the input reads as it did. -/
def hopsDiffersSpec : ChangeSpec := { name := "hopsDiffers", fn := fun _ => fun
  | [d1, d2, d3] => { results := [.lit (.bool true)], args := [d1, d2, d3] }
  | _ => none }
def hopsDiffersRow : OpenClaim := { program := "ytjpfhkjmjnjggaadoor", sum := "7620b372537827118f155a4d4d95c43fa9d4e0d157afecf1d27b1f88de1c01af", func := "gatepath/gatepathlaw42.HopsDiffers", spec := "hopsDiffers", unfollowed := true, recurses := true, named := ["gatepath/digest.roots"], apart := false, laid := [("gatepath/digest.roots", laid_gatepath_digest_roots)] }
def HopsDiffersSaid : Prop := hopsDiffersRow.holds Tryd.pinned (OpenSpec.ofChange hopsDiffersSpec)

/-- ITS FALSE NEIGHBOUR: 'it returns false'. Refute it at one input. -/
def hopsDiffersWrong : ChangeSpec := { name := "hopsDiffers", fn := fun _ => fun
  | [d1, d2, d3] => { results := [.lit (.bool false)], args := [d1, d2, d3] }
  | _ => none }
def HopsDiffersWrongFalsely : Prop := hopsDiffersRow.holds Tryd.pinned (OpenSpec.ofChange hopsDiffersWrong)

/- THE SECOND FORM. 'bulk': how many values and letters a reading holds, each counted each time it is reached (what is shared counts as often as it is met; a slice's spare places count too). A statement '..UptoSaid' is the law's where the arguments, and the package variables that the reading takes, are together of bulk at most 1048576: NARROWER than '..Said'. Prove '..Said' where nothing that the law and all that it calls make is longer than what came in: it says more and counts as full. Else prove '..UptoSaid'. A law counts once. -/
mutual
def uptoBulk {H : Type} : DataW H → Nat
  | .lit (.string bytes) => bytes.length + 1
  | .lit _ => 1
  | .nil => 1
  | .ptr d => uptoBulk d + 1
  | .slice elems spare => uptoBulkAll elems + uptoBulkAll spare + 1
  | .agg parts => uptoBulkAll parts + 1
  | .iface _ d => uptoBulk d + 1
  | .map entries => uptoBulkEntries entries + 1
  | .held _ => 1
def uptoBulkAll {H : Type} : List (DataW H) → Nat
  | [] => 0
  | d :: r => uptoBulk d + uptoBulkAll r
def uptoBulkEntries {H : Type} : List (Lit × DataW H) → Nat
  | [] => 0
  | x :: r => uptoBulkEntry x + uptoBulkEntries r
def uptoBulkEntry {H : Type} : Lit × DataW H → Nat
  | (.string bytes, d) => bytes.length + uptoBulk d + 1
  | (_, d) => uptoBulk d + 1
 end
def uptoSmall : (H : Type) → List (DataW H) → Bool := fun _ ds => decide (uptoBulkAll ds ≤ 1048576)
def OpenSpec.upto (s : _root_.Go.ChangeSpec) : _root_.Go.OpenSpec := { _root_.Go.OpenSpec.ofChange s with cond := some uptoSmall }

/-- 'gatepathlaw42.HopsShapes', WHERE WHAT IT READS IS OF BULK AT MOST 1048576: true; the input reads as it did. -/
def hopsShapesUptoRow : OpenClaim := { program := "ytjpfhkjmjnjggaadoor", sum := "7620b372537827118f155a4d4d95c43fa9d4e0d157afecf1d27b1f88de1c01af", func := "gatepath/gatepathlaw42.HopsShapes", spec := "hopsShapes", unfollowed := true, recurses := true, named := ["gatepath/digest.roots"], apart := false, laid := [("gatepath/digest.roots", laid_gatepath_digest_roots)], narrowed := true }
def HopsShapesUptoSaid : Prop := hopsShapesUptoRow.holds Tryd.pinned (OpenSpec.upto hopsShapesSpec)

/-- 'gatepathlaw42.HopsTells', WHERE WHAT IT READS IS OF BULK AT MOST 1048576: true; the input reads as it did. -/
def hopsTellsUptoRow : OpenClaim := { program := "ytjpfhkjmjnjggaadoor", sum := "7620b372537827118f155a4d4d95c43fa9d4e0d157afecf1d27b1f88de1c01af", func := "gatepath/gatepathlaw42.HopsTells", spec := "hopsTells", unfollowed := true, recurses := true, named := ["gatepath/digest.roots"], apart := false, laid := [("gatepath/digest.roots", laid_gatepath_digest_roots)], narrowed := true }
def HopsTellsUptoSaid : Prop := hopsTellsUptoRow.holds Tryd.pinned (OpenSpec.upto hopsTellsSpec)

/-- 'gatepathlaw42.HopsSigns', WHERE WHAT IT READS IS OF BULK AT MOST 1048576: true; the input reads as it did. -/
def hopsSignsUptoRow : OpenClaim := { program := "ytjpfhkjmjnjggaadoor", sum := "7620b372537827118f155a4d4d95c43fa9d4e0d157afecf1d27b1f88de1c01af", func := "gatepath/gatepathlaw42.HopsSigns", spec := "hopsSigns", unfollowed := true, recurses := true, named := ["gatepath/digest.roots"], apart := false, laid := [("gatepath/digest.roots", laid_gatepath_digest_roots)], narrowed := true }
def HopsSignsUptoSaid : Prop := hopsSignsUptoRow.holds Tryd.pinned (OpenSpec.upto hopsSignsSpec)

/-- 'gatepathlaw42.HopsNames', WHERE WHAT IT READS IS OF BULK AT MOST 1048576: true; the input reads as it did. -/
def hopsNamesUptoRow : OpenClaim := { program := "ytjpfhkjmjnjggaadoor", sum := "7620b372537827118f155a4d4d95c43fa9d4e0d157afecf1d27b1f88de1c01af", func := "gatepath/gatepathlaw42.HopsNames", spec := "hopsNames", unfollowed := true, recurses := true, named := ["gatepath/digest.roots"], apart := false, laid := [("gatepath/digest.roots", laid_gatepath_digest_roots)], narrowed := true }
def HopsNamesUptoSaid : Prop := hopsNamesUptoRow.holds Tryd.pinned (OpenSpec.upto hopsNamesSpec)

/-- 'gatepathlaw42.HopsExact', WHERE WHAT IT READS IS OF BULK AT MOST 1048576: true; the input reads as it did. -/
def hopsExactUptoRow : OpenClaim := { program := "ytjpfhkjmjnjggaadoor", sum := "7620b372537827118f155a4d4d95c43fa9d4e0d157afecf1d27b1f88de1c01af", func := "gatepath/gatepathlaw42.HopsExact", spec := "hopsExact", unfollowed := true, recurses := true, named := ["gatepath/digest.roots"], apart := false, laid := [("gatepath/digest.roots", laid_gatepath_digest_roots)], narrowed := true }
def HopsExactUptoSaid : Prop := hopsExactUptoRow.holds Tryd.pinned (OpenSpec.upto hopsExactSpec)

/-- 'gatepathlaw42.HopsChain', WHERE WHAT IT READS IS OF BULK AT MOST 1048576: true; the input reads as it did. -/
def hopsChainUptoRow : OpenClaim := { program := "ytjpfhkjmjnjggaadoor", sum := "7620b372537827118f155a4d4d95c43fa9d4e0d157afecf1d27b1f88de1c01af", func := "gatepath/gatepathlaw42.HopsChain", spec := "hopsChain", unfollowed := true, recurses := true, named := ["gatepath/digest.roots"], apart := false, laid := [("gatepath/digest.roots", laid_gatepath_digest_roots)], narrowed := true }
def HopsChainUptoSaid : Prop := hopsChainUptoRow.holds Tryd.pinned (OpenSpec.upto hopsChainSpec)

/-- 'gatepathlaw42.HopsMore', WHERE WHAT IT READS IS OF BULK AT MOST 1048576: true; the input reads as it did. -/
def hopsMoreUptoRow : OpenClaim := { program := "ytjpfhkjmjnjggaadoor", sum := "7620b372537827118f155a4d4d95c43fa9d4e0d157afecf1d27b1f88de1c01af", func := "gatepath/gatepathlaw42.HopsMore", spec := "hopsMore", unfollowed := true, recurses := true, named := ["gatepath/digest.roots"], apart := false, laid := [("gatepath/digest.roots", laid_gatepath_digest_roots)], narrowed := true }
def HopsMoreUptoSaid : Prop := hopsMoreUptoRow.holds Tryd.pinned (OpenSpec.upto hopsMoreSpec)

/-- 'gatepathlaw42.HopsDiffers', WHERE WHAT IT READS IS OF BULK AT MOST 1048576: true; the input reads as it did. -/
def hopsDiffersUptoRow : OpenClaim := { program := "ytjpfhkjmjnjggaadoor", sum := "7620b372537827118f155a4d4d95c43fa9d4e0d157afecf1d27b1f88de1c01af", func := "gatepath/gatepathlaw42.HopsDiffers", spec := "hopsDiffers", unfollowed := true, recurses := true, named := ["gatepath/digest.roots"], apart := false, laid := [("gatepath/digest.roots", laid_gatepath_digest_roots)], narrowed := true }
def HopsDiffersUptoSaid : Prop := hopsDiffersUptoRow.holds Tryd.pinned (OpenSpec.upto hopsDiffersSpec)

end Rows
end Go.Proofs.YtjpfhkjmjnjggaaDoor
