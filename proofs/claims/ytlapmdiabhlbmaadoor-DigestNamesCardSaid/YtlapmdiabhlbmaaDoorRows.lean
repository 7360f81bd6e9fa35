/-
  NARROWER THAN 'FOR EVERY INPUT', by the rows' own cells (each row's printed sentence says how): DigestSums: laid · DigestJoins: laid · DigestLengths: laid · DigestShorts: laid · DigestTexts: laid · DigestNames: laid · DigestInverse: laid.
  DERIVED. THE GIVEN ROWS OF THIS SEAT. 7 by the template 'for every input the law returns true; each argument reads behind the call as it read before'; 0 by the template 'total and deterministic' (their statements: YtlapmdiabhlbmaaDoorTotals.lean).
  GIVEN WITH THE SEED: the statements are not yours to turn. If you find one false, say at which input.
  Laid BY PROGRAM, IN A SANDBOX (cutbox-rows.mjs): the forced cells as the released guide's own fill.sh prints them over the translation 003ce911b3a4e9b8… (all of the seat's roots in one cut). By AI agents, Wed Nov 11 2026. No macro, syntax, notation, axiom, sorry.
-/
import Derived.Test.YtlapmdiabhlbmaaDoorChecked
import GoSem.PinnedTables
import GoSem.Claim
import GoSem.ClaimJoined
import GoSem.ClaimMapViews
import Derived.JoinedTies
import Derived.KernelRfl
namespace Go.Proofs.YtlapmdiabhlbmaaDoor
/- THE CELL 'sum', in the pinned program and in every row, IS THE sha256 OF THE DUMP (.gsa) THAT YtlapmdiabhlbmaaDoorProg.lean LOADS. Nothing in Lean hashes anything: it is a label: what it is worth is what the hold of that sum in a sandbox is worth. -/
noncomputable def Tryd.pinned : Pinned := { name := "ytlapmdiabhlbmaadoor", sum := "003ce911b3a4e9b807cfad84ff70ca5e61308323e5eeff29aef541be442cfcb2", checked := Tryd.checked }
namespace Rows
def none {H : Type} : Left H := { results := [], args := [] }

/- WHAT THE LISTED PACKAGE-LEVEL VARIABLES READ AS WHEN THE CALL BEGINS. Each datum BY PROGRAM (the guide's laid-datum.mjs) off the statement by which the dump's own 'gosem.cut.vars' lays the variable. In a bare row this is a premise. The card (YtlapmdiabhlbmaaDoorCards.lean) ties it to the program's text. -/
def laid_gatepath_digest_roots {H : Type} : DataW H := .agg [.lit (.int .u32 1116352408), .lit (.int .u32 1899447441), .lit (.int .u32 3049323471), .lit (.int .u32 3921009573), .lit (.int .u32 961987163), .lit (.int .u32 1508970993), .lit (.int .u32 2453635748), .lit (.int .u32 2870763221), .lit (.int .u32 3624381080), .lit (.int .u32 310598401), .lit (.int .u32 607225278), .lit (.int .u32 1426881987), .lit (.int .u32 1925078388), .lit (.int .u32 2162078206), .lit (.int .u32 2614888103), .lit (.int .u32 3248222580), .lit (.int .u32 3835390401), .lit (.int .u32 4022224774), .lit (.int .u32 264347078), .lit (.int .u32 604807628), .lit (.int .u32 770255983), .lit (.int .u32 1249150122), .lit (.int .u32 1555081692), .lit (.int .u32 1996064986), .lit (.int .u32 2554220882), .lit (.int .u32 2821834349), .lit (.int .u32 2952996808), .lit (.int .u32 3210313671), .lit (.int .u32 3336571891), .lit (.int .u32 3584528711), .lit (.int .u32 113926993), .lit (.int .u32 338241895), .lit (.int .u32 666307205), .lit (.int .u32 773529912), .lit (.int .u32 1294757372), .lit (.int .u32 1396182291), .lit (.int .u32 1695183700), .lit (.int .u32 1986661051), .lit (.int .u32 2177026350), .lit (.int .u32 2456956037), .lit (.int .u32 2730485921), .lit (.int .u32 2820302411), .lit (.int .u32 3259730800), .lit (.int .u32 3345764771), .lit (.int .u32 3516065817), .lit (.int .u32 3600352804), .lit (.int .u32 4094571909), .lit (.int .u32 275423344), .lit (.int .u32 430227734), .lit (.int .u32 506948616), .lit (.int .u32 659060556), .lit (.int .u32 883997877), .lit (.int .u32 958139571), .lit (.int .u32 1322822218), .lit (.int .u32 1537002063), .lit (.int .u32 1747873779), .lit (.int .u32 1955562222), .lit (.int .u32 2024104815), .lit (.int .u32 2227730452), .lit (.int .u32 2361852424), .lit (.int .u32 2428436474), .lit (.int .u32 2756734187), .lit (.int .u32 3204031479), .lit (.int .u32 3329325298)]
def laid_unicode_utf8_acceptRanges {H : Type} : DataW H := .agg [.agg [.lit (.int .u8 128), .lit (.int .u8 191)], .agg [.lit (.int .u8 160), .lit (.int .u8 191)], .agg [.lit (.int .u8 128), .lit (.int .u8 159)], .agg [.lit (.int .u8 144), .lit (.int .u8 191)], .agg [.lit (.int .u8 128), .lit (.int .u8 143)], .agg [.lit (.int .u8 0), .lit (.int .u8 0)], .agg [.lit (.int .u8 0), .lit (.int .u8 0)], .agg [.lit (.int .u8 0), .lit (.int .u8 0)], .agg [.lit (.int .u8 0), .lit (.int .u8 0)], .agg [.lit (.int .u8 0), .lit (.int .u8 0)], .agg [.lit (.int .u8 0), .lit (.int .u8 0)], .agg [.lit (.int .u8 0), .lit (.int .u8 0)], .agg [.lit (.int .u8 0), .lit (.int .u8 0)], .agg [.lit (.int .u8 0), .lit (.int .u8 0)], .agg [.lit (.int .u8 0), .lit (.int .u8 0)], .agg [.lit (.int .u8 0), .lit (.int .u8 0)]]
def laid_bytes_ErrTooLarge {H : Type} : DataW H := .iface "*errors.errorString" (.ptr (.agg [.lit (.string [98, 121, 116, 101, 115, 46, 66, 117, 102, 102, 101, 114, 58, 32, 116, 111, 111, 32, 108, 97, 114, 103, 101])]))
/-- One of Go's own tables, pinned by name: the form's constant. -/
def laid_unicode_utf8_first : DataW Unit := Go.Pinned.utf8First

/-- 'gatepathlaw05.DigestSums': WHATEVER THE INPUT: true; the input reads as it did. -/
def digestSumsSpec : ChangeSpec := { name := "digestSums", fn := fun _ => fun
  | [d1, d2] => { results := [.lit (.bool true)], args := [d1, d2] }
  | _ => none }
def digestSumsRow : OpenClaim := { program := "ytlapmdiabhlbmaadoor", sum := "003ce911b3a4e9b807cfad84ff70ca5e61308323e5eeff29aef541be442cfcb2", func := "gatepath/gatepathlaw05.DigestSums", spec := "digestSums", unfollowed := true, recurses := true, named := ["gatepath/digest.roots"], apart := false, laid := [("gatepath/digest.roots", laid_gatepath_digest_roots)] }
def DigestSumsSaid : Prop := digestSumsRow.holds Tryd.pinned (OpenSpec.ofChange digestSumsSpec)

/-- ITS FALSE NEIGHBOUR: 'it returns false'. Refute it at one input. -/
def digestSumsWrong : ChangeSpec := { name := "digestSums", fn := fun _ => fun
  | [d1, d2] => { results := [.lit (.bool false)], args := [d1, d2] }
  | _ => none }
def DigestSumsWrongFalsely : Prop := digestSumsRow.holds Tryd.pinned (OpenSpec.ofChange digestSumsWrong)

/-- 'gatepathlaw05.DigestJoins': WHATEVER THE INPUT: true; the input reads as it did. -/
def digestJoinsSpec : ChangeSpec := { name := "digestJoins", fn := fun _ => fun
  | [d1, d2, d3] => { results := [.lit (.bool true)], args := [d1, d2, d3] }
  | _ => none }
def digestJoinsRow : OpenClaim := { program := "ytlapmdiabhlbmaadoor", sum := "003ce911b3a4e9b807cfad84ff70ca5e61308323e5eeff29aef541be442cfcb2", func := "gatepath/gatepathlaw05.DigestJoins", spec := "digestJoins", inPlace := ["internal/abi.NoEscape"], unfollowed := true, recurses := true, named := ["gatepath/digest.roots"], apart := false, laid := [("gatepath/digest.roots", laid_gatepath_digest_roots)] }
def DigestJoinsSaid : Prop := digestJoinsRow.holds Tryd.pinned (OpenSpec.ofChange digestJoinsSpec)

/-- ITS FALSE NEIGHBOUR: 'it returns false'. Refute it at one input. -/
def digestJoinsWrong : ChangeSpec := { name := "digestJoins", fn := fun _ => fun
  | [d1, d2, d3] => { results := [.lit (.bool false)], args := [d1, d2, d3] }
  | _ => none }
def DigestJoinsWrongFalsely : Prop := digestJoinsRow.holds Tryd.pinned (OpenSpec.ofChange digestJoinsWrong)

/-- 'gatepathlaw05.DigestLengths': WHATEVER THE INPUT: true; the input reads as it did. -/
def digestLengthsSpec : ChangeSpec := { name := "digestLengths", fn := fun _ => fun
  | [d] => { results := [.lit (.bool true)], args := [d] }
  | _ => none }
def digestLengthsRow : OpenClaim := { program := "ytlapmdiabhlbmaadoor", sum := "003ce911b3a4e9b807cfad84ff70ca5e61308323e5eeff29aef541be442cfcb2", func := "gatepath/gatepathlaw05.DigestLengths", spec := "digestLengths", inPlace := ["internal/abi.NoEscape"], unfollowed := true, recurses := true, named := ["gatepath/digest.roots"], apart := false, laid := [("gatepath/digest.roots", laid_gatepath_digest_roots)] }
def DigestLengthsSaid : Prop := digestLengthsRow.holds Tryd.pinned (OpenSpec.ofChange digestLengthsSpec)

/-- ITS FALSE NEIGHBOUR: 'it returns false'. Refute it at one input. -/
def digestLengthsWrong : ChangeSpec := { name := "digestLengths", fn := fun _ => fun
  | [d] => { results := [.lit (.bool false)], args := [d] }
  | _ => none }
def DigestLengthsWrongFalsely : Prop := digestLengthsRow.holds Tryd.pinned (OpenSpec.ofChange digestLengthsWrong)

/-- 'gatepathlaw05.DigestShorts': WHATEVER THE INPUT: true; the input reads as it did. -/
def digestShortsSpec : ChangeSpec := { name := "digestShorts", fn := fun _ => fun
  | [d] => { results := [.lit (.bool true)], args := [d] }
  | _ => none }
def digestShortsRow : OpenClaim := { program := "ytlapmdiabhlbmaadoor", sum := "003ce911b3a4e9b807cfad84ff70ca5e61308323e5eeff29aef541be442cfcb2", func := "gatepath/gatepathlaw05.DigestShorts", spec := "digestShorts", inPlace := ["internal/abi.NoEscape"], unfollowed := true, recurses := true, named := ["gatepath/digest.roots"], apart := false, laid := [("gatepath/digest.roots", laid_gatepath_digest_roots)] }
def DigestShortsSaid : Prop := digestShortsRow.holds Tryd.pinned (OpenSpec.ofChange digestShortsSpec)

/-- ITS FALSE NEIGHBOUR: 'it returns false'. Refute it at one input. -/
def digestShortsWrong : ChangeSpec := { name := "digestShorts", fn := fun _ => fun
  | [d] => { results := [.lit (.bool false)], args := [d] }
  | _ => none }
def DigestShortsWrongFalsely : Prop := digestShortsRow.holds Tryd.pinned (OpenSpec.ofChange digestShortsWrong)

/-- 'gatepathlaw05.DigestTexts': WHATEVER THE INPUT: true; the input reads as it did. -/
def digestTextsSpec : ChangeSpec := { name := "digestTexts", fn := fun _ => fun
  | [d1, d2] => { results := [.lit (.bool true)], args := [d1, d2] }
  | _ => none }
def digestTextsRow : OpenClaim := { program := "ytlapmdiabhlbmaadoor", sum := "003ce911b3a4e9b807cfad84ff70ca5e61308323e5eeff29aef541be442cfcb2", func := "gatepath/gatepathlaw05.DigestTexts", spec := "digestTexts", inPlace := ["internal/bytealg.IndexByteString", "internal/bytealg.IndexString", "internal/abi.NoEscape"], named := ["unicode/utf8.first", "unicode/utf8.acceptRanges", "bytes.ErrTooLarge", "internal/bytealg.MaxLen"], apart := false, laid := [("unicode/utf8.acceptRanges", laid_unicode_utf8_acceptRanges), ("bytes.ErrTooLarge", laid_bytes_ErrTooLarge), ("unicode/utf8.first", laid_unicode_utf8_first)] }
def DigestTextsSaid : Prop := digestTextsRow.holds Tryd.pinned (OpenSpec.ofChange digestTextsSpec)

/-- ITS FALSE NEIGHBOUR: 'it returns false'. Refute it at one input. -/
def digestTextsWrong : ChangeSpec := { name := "digestTexts", fn := fun _ => fun
  | [d1, d2] => { results := [.lit (.bool false)], args := [d1, d2] }
  | _ => none }
def DigestTextsWrongFalsely : Prop := digestTextsRow.holds Tryd.pinned (OpenSpec.ofChange digestTextsWrong)

/-- 'gatepathlaw05.DigestNames': WHATEVER THE INPUT: true; the input reads as it did. -/
def digestNamesSpec : ChangeSpec := { name := "digestNames", fn := fun _ => fun
  | [] => { results := [.lit (.bool true)], args := [] }
  | _ => none }
def digestNamesRow : OpenClaim := { program := "ytlapmdiabhlbmaadoor", sum := "003ce911b3a4e9b807cfad84ff70ca5e61308323e5eeff29aef541be442cfcb2", func := "gatepath/gatepathlaw05.DigestNames", spec := "digestNames", inPlace := ["internal/abi.NoEscape", "internal/bytealg.IndexByteString", "internal/bytealg.IndexString"], unfollowed := true, recurses := true, named := ["gatepath/digest.roots", "unicode/utf8.first", "unicode/utf8.acceptRanges", "bytes.ErrTooLarge", "internal/bytealg.MaxLen"], apart := false, laid := [("unicode/utf8.acceptRanges", laid_unicode_utf8_acceptRanges), ("bytes.ErrTooLarge", laid_bytes_ErrTooLarge), ("gatepath/digest.roots", laid_gatepath_digest_roots), ("unicode/utf8.first", laid_unicode_utf8_first)] }
def DigestNamesSaid : Prop := digestNamesRow.holds Tryd.pinned (OpenSpec.ofChange digestNamesSpec)

/-- ITS FALSE NEIGHBOUR: 'it returns false'. Refute it at one input. -/
def digestNamesWrong : ChangeSpec := { name := "digestNames", fn := fun _ => fun
  | [] => { results := [.lit (.bool false)], args := [] }
  | _ => none }
def DigestNamesWrongFalsely : Prop := digestNamesRow.holds Tryd.pinned (OpenSpec.ofChange digestNamesWrong)

/-- 'gatepathlaw05.DigestInverse': WHATEVER THE INPUT: true; the input reads as it did. -/
def digestInverseSpec : ChangeSpec := { name := "digestInverse", fn := fun _ => fun
  | [d1, d2] => { results := [.lit (.bool true)], args := [d1, d2] }
  | _ => none }
def digestInverseRow : OpenClaim := { program := "ytlapmdiabhlbmaadoor", sum := "003ce911b3a4e9b807cfad84ff70ca5e61308323e5eeff29aef541be442cfcb2", func := "gatepath/gatepathlaw05.DigestInverse", spec := "digestInverse", inPlace := ["internal/abi.NoEscape", "internal/bytealg.IndexByteString", "internal/bytealg.IndexString"], unfollowed := true, recurses := true, named := ["gatepath/digest.roots", "unicode/utf8.first", "unicode/utf8.acceptRanges", "bytes.ErrTooLarge", "internal/bytealg.MaxLen"], apart := false, laid := [("unicode/utf8.acceptRanges", laid_unicode_utf8_acceptRanges), ("bytes.ErrTooLarge", laid_bytes_ErrTooLarge), ("gatepath/digest.roots", laid_gatepath_digest_roots), ("unicode/utf8.first", laid_unicode_utf8_first)] }
def DigestInverseSaid : Prop := digestInverseRow.holds Tryd.pinned (OpenSpec.ofChange digestInverseSpec)

/-- ITS FALSE NEIGHBOUR: 'it returns false'. Refute it at one input. -/
def digestInverseWrong : ChangeSpec := { name := "digestInverse", fn := fun _ => fun
  | [d1, d2] => { results := [.lit (.bool false)], args := [d1, d2] }
  | _ => none }
def DigestInverseWrongFalsely : Prop := digestInverseRow.holds Tryd.pinned (OpenSpec.ofChange digestInverseWrong)

/- THE SECOND FORM. 'bulk': how many values and letters a reading holds, each counted each time it is reached (what is shared counts as often as it is met; a slice's spare places count too). A statement '..UptoSaid' is the law's where the arguments, and the package variables that the reading takes, are together of bulk at most 1048576: NARROWER than '..Said'. Prove '..Said' where nothing that the law and all that it calls make is longer than what came in: it says more and counts as full. Else prove '..UptoSaid'. A law counts once. -/
mutual
def uptoBulk {H : Type} : DataW H → Nat
  | .lit (.string bytes) => bytes.length + 1
  | .lit _ => 1
  | .nil => 1
  | .ptr d => uptoBulk d + 1
  | .slice elems spare => uptoBulkAll elems + uptoBulkAll spare + 1
  | .agg parts => uptoBulkAll parts + 1
  | .iface _ d => uptoBulk d + 1
  | .map entries => uptoBulkEntries entries + 1
  | .held _ => 1
def uptoBulkAll {H : Type} : List (DataW H) → Nat
  | [] => 0
  | d :: r => uptoBulk d + uptoBulkAll r
def uptoBulkEntries {H : Type} : List (Lit × DataW H) → Nat
  | [] => 0
  | x :: r => uptoBulkEntry x + uptoBulkEntries r
def uptoBulkEntry {H : Type} : Lit × DataW H → Nat
  | (.string bytes, d) => bytes.length + uptoBulk d + 1
  | (_, d) => uptoBulk d + 1
 end
def uptoSmall : (H : Type) → List (DataW H) → Bool := fun _ ds => decide (uptoBulkAll ds ≤ 1048576)
def OpenSpec.upto (s : _root_.Go.ChangeSpec) : _root_.Go.OpenSpec := { _root_.Go.OpenSpec.ofChange s with cond := some uptoSmall }

/-- 'gatepathlaw05.DigestSums', WHERE WHAT IT READS IS OF BULK AT MOST 1048576: true; the input reads as it did. -/
def digestSumsUptoRow : OpenClaim := { program := "ytlapmdiabhlbmaadoor", sum := "003ce911b3a4e9b807cfad84ff70ca5e61308323e5eeff29aef541be442cfcb2", func := "gatepath/gatepathlaw05.DigestSums", spec := "digestSums", unfollowed := true, recurses := true, named := ["gatepath/digest.roots"], apart := false, laid := [("gatepath/digest.roots", laid_gatepath_digest_roots)], narrowed := true }
def DigestSumsUptoSaid : Prop := digestSumsUptoRow.holds Tryd.pinned (OpenSpec.upto digestSumsSpec)

/-- 'gatepathlaw05.DigestJoins', WHERE WHAT IT READS IS OF BULK AT MOST 1048576: true; the input reads as it did. -/
def digestJoinsUptoRow : OpenClaim := { program := "ytlapmdiabhlbmaadoor", sum := "003ce911b3a4e9b807cfad84ff70ca5e61308323e5eeff29aef541be442cfcb2", func := "gatepath/gatepathlaw05.DigestJoins", spec := "digestJoins", inPlace := ["internal/abi.NoEscape"], unfollowed := true, recurses := true, named := ["gatepath/digest.roots"], apart := false, laid := [("gatepath/digest.roots", laid_gatepath_digest_roots)], narrowed := true }
def DigestJoinsUptoSaid : Prop := digestJoinsUptoRow.holds Tryd.pinned (OpenSpec.upto digestJoinsSpec)

/-- 'gatepathlaw05.DigestLengths', WHERE WHAT IT READS IS OF BULK AT MOST 1048576: true; the input reads as it did. -/
def digestLengthsUptoRow : OpenClaim := { program := "ytlapmdiabhlbmaadoor", sum := "003ce911b3a4e9b807cfad84ff70ca5e61308323e5eeff29aef541be442cfcb2", func := "gatepath/gatepathlaw05.DigestLengths", spec := "digestLengths", inPlace := ["internal/abi.NoEscape"], unfollowed := true, recurses := true, named := ["gatepath/digest.roots"], apart := false, laid := [("gatepath/digest.roots", laid_gatepath_digest_roots)], narrowed := true }
def DigestLengthsUptoSaid : Prop := digestLengthsUptoRow.holds Tryd.pinned (OpenSpec.upto digestLengthsSpec)

/-- 'gatepathlaw05.DigestShorts', WHERE WHAT IT READS IS OF BULK AT MOST 1048576: true; the input reads as it did. -/
def digestShortsUptoRow : OpenClaim := { program := "ytlapmdiabhlbmaadoor", sum := "003ce911b3a4e9b807cfad84ff70ca5e61308323e5eeff29aef541be442cfcb2", func := "gatepath/gatepathlaw05.DigestShorts", spec := "digestShorts", inPlace := ["internal/abi.NoEscape"], unfollowed := true, recurses := true, named := ["gatepath/digest.roots"], apart := false, laid := [("gatepath/digest.roots", laid_gatepath_digest_roots)], narrowed := true }
def DigestShortsUptoSaid : Prop := digestShortsUptoRow.holds Tryd.pinned (OpenSpec.upto digestShortsSpec)

/-- 'gatepathlaw05.DigestTexts', WHERE WHAT IT READS IS OF BULK AT MOST 1048576: true; the input reads as it did. -/
def digestTextsUptoRow : OpenClaim := { program := "ytlapmdiabhlbmaadoor", sum := "003ce911b3a4e9b807cfad84ff70ca5e61308323e5eeff29aef541be442cfcb2", func := "gatepath/gatepathlaw05.DigestTexts", spec := "digestTexts", inPlace := ["internal/bytealg.IndexByteString", "internal/bytealg.IndexString", "internal/abi.NoEscape"], named := ["unicode/utf8.first", "unicode/utf8.acceptRanges", "bytes.ErrTooLarge", "internal/bytealg.MaxLen"], apart := false, laid := [("unicode/utf8.acceptRanges", laid_unicode_utf8_acceptRanges), ("bytes.ErrTooLarge", laid_bytes_ErrTooLarge), ("unicode/utf8.first", laid_unicode_utf8_first)], narrowed := true }
def DigestTextsUptoSaid : Prop := digestTextsUptoRow.holds Tryd.pinned (OpenSpec.upto digestTextsSpec)

/-- 'gatepathlaw05.DigestNames', WHERE WHAT IT READS IS OF BULK AT MOST 1048576: true; the input reads as it did. -/
def digestNamesUptoRow : OpenClaim := { program := "ytlapmdiabhlbmaadoor", sum := "003ce911b3a4e9b807cfad84ff70ca5e61308323e5eeff29aef541be442cfcb2", func := "gatepath/gatepathlaw05.DigestNames", spec := "digestNames", inPlace := ["internal/abi.NoEscape", "internal/bytealg.IndexByteString", "internal/bytealg.IndexString"], unfollowed := true, recurses := true, named := ["gatepath/digest.roots", "unicode/utf8.first", "unicode/utf8.acceptRanges", "bytes.ErrTooLarge", "internal/bytealg.MaxLen"], apart := false, laid := [("unicode/utf8.acceptRanges", laid_unicode_utf8_acceptRanges), ("bytes.ErrTooLarge", laid_bytes_ErrTooLarge), ("gatepath/digest.roots", laid_gatepath_digest_roots), ("unicode/utf8.first", laid_unicode_utf8_first)], narrowed := true }
def DigestNamesUptoSaid : Prop := digestNamesUptoRow.holds Tryd.pinned (OpenSpec.upto digestNamesSpec)

/-- 'gatepathlaw05.DigestInverse', WHERE WHAT IT READS IS OF BULK AT MOST 1048576: true; the input reads as it did. -/
def digestInverseUptoRow : OpenClaim := { program := "ytlapmdiabhlbmaadoor", sum := "003ce911b3a4e9b807cfad84ff70ca5e61308323e5eeff29aef541be442cfcb2", func := "gatepath/gatepathlaw05.DigestInverse", spec := "digestInverse", inPlace := ["internal/abi.NoEscape", "internal/bytealg.IndexByteString", "internal/bytealg.IndexString"], unfollowed := true, recurses := true, named := ["gatepath/digest.roots", "unicode/utf8.first", "unicode/utf8.acceptRanges", "bytes.ErrTooLarge", "internal/bytealg.MaxLen"], apart := false, laid := [("unicode/utf8.acceptRanges", laid_unicode_utf8_acceptRanges), ("bytes.ErrTooLarge", laid_bytes_ErrTooLarge), ("gatepath/digest.roots", laid_gatepath_digest_roots), ("unicode/utf8.first", laid_unicode_utf8_first)], narrowed := true }
def DigestInverseUptoSaid : Prop := digestInverseUptoRow.holds Tryd.pinned (OpenSpec.upto digestInverseSpec)

end Rows
end Go.Proofs.YtlapmdiabhlbmaaDoor
