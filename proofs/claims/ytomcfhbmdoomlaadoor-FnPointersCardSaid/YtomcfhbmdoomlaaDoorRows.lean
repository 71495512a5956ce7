/-
  NARROWER THAN 'FOR EVERY INPUT', by the rows' own cells (each row's printed sentence says how): FnExactTakeName: laid · FnExactSuffixesOf: laid · FnExactUnpackNames: laid · FnExactPutName: laid · FnExactPackNames: laid · FnExactPackedSize: laid · FnPointers: laid · FnPacked: laid.
  DERIVED. THE GIVEN ROWS OF THIS SEAT. 8 by the template 'for every input the law returns true; each argument reads behind the call as it read before'; 0 by the template 'total and deterministic' (their statements: YtomcfhbmdoomlaaDoorTotals.lean).
  GIVEN WITH THE SEED: the statements are not yours to turn. If you find one false, say at which input.
  Laid BY PROGRAM, IN A SANDBOX (cutbox-rows.mjs): the forced cells as the released guide's own fill.sh prints them over the translation 7ba51789fb0d829e… (all of the seat's roots in one cut). By AI agents, Wed Nov 11 2026. No macro, syntax, notation, axiom, sorry.
-/
import Derived.Test.YtomcfhbmdoomlaaDoorChecked
import GoSem.PinnedTables
import GoSem.Claim
import GoSem.ClaimJoined
import GoSem.ClaimMapViews
import Derived.JoinedTies
import Derived.KernelRfl
namespace Go.Proofs.YtomcfhbmdoomlaaDoor
/- THE CELL 'sum', in the pinned program and in every row, IS THE sha256 OF THE DUMP (.gsa) THAT YtomcfhbmdoomlaaDoorProg.lean LOADS. Nothing in Lean hashes anything: it is a label: what it is worth is what the hold of that sum in a sandbox is worth. -/
noncomputable def Tryd.pinned : Pinned := { name := "ytomcfhbmdoomlaadoor", sum := "7ba51789fb0d829ea8580ae66533ef415b4f2f73761548d8bcd69c1290f47a7f", checked := Tryd.checked }
namespace Rows
def none {H : Type} : Left H := { results := [], args := [] }

/- WHAT THE LISTED PACKAGE-LEVEL VARIABLES READ AS WHEN THE CALL BEGINS. Each datum BY PROGRAM (the guide's laid-datum.mjs) off the statement by which the dump's own 'gosem.cut.vars' lays the variable. In a bare row this is a premise. The card (YtomcfhbmdoomlaaDoorCards.lean) ties it to the program's text. -/
def laid_unicode_utf8_acceptRanges {H : Type} : DataW H := .agg [.agg [.lit (.int .u8 128), .lit (.int .u8 191)], .agg [.lit (.int .u8 160), .lit (.int .u8 191)], .agg [.lit (.int .u8 128), .lit (.int .u8 159)], .agg [.lit (.int .u8 144), .lit (.int .u8 191)], .agg [.lit (.int .u8 128), .lit (.int .u8 143)], .agg [.lit (.int .u8 0), .lit (.int .u8 0)], .agg [.lit (.int .u8 0), .lit (.int .u8 0)], .agg [.lit (.int .u8 0), .lit (.int .u8 0)], .agg [.lit (.int .u8 0), .lit (.int .u8 0)], .agg [.lit (.int .u8 0), .lit (.int .u8 0)], .agg [.lit (.int .u8 0), .lit (.int .u8 0)], .agg [.lit (.int .u8 0), .lit (.int .u8 0)], .agg [.lit (.int .u8 0), .lit (.int .u8 0)], .agg [.lit (.int .u8 0), .lit (.int .u8 0)], .agg [.lit (.int .u8 0), .lit (.int .u8 0)], .agg [.lit (.int .u8 0), .lit (.int .u8 0)]]
/-- One of Go's own tables, pinned by name: the form's constant. -/
def laid_unicode_utf8_first : DataW Unit := Go.Pinned.utf8First

/-- 'laws.FnExactTakeName': WHATEVER THE INPUT: true; the input reads as it did. -/
def fnExactTakeNameSpec : ChangeSpec := { name := "fnExactTakeName", fn := fun _ => fun
  | [d1, d2] => { results := [.lit (.bool true)], args := [d1, d2] }
  | _ => none }
def fnExactTakeNameRow : OpenClaim := { program := "ytomcfhbmdoomlaadoor", sum := "7ba51789fb0d829ea8580ae66533ef415b4f2f73761548d8bcd69c1290f47a7f", func := "loop.example/g00300/laws.FnExactTakeName", spec := "fnExactTakeName", inPlace := ["internal/bytealg.IndexByteString", "internal/bytealg.IndexString", "internal/abi.NoEscape", "internal/bytealg.MakeNoZero", "internal/bytealg.CountString"], unfollowed := true, recurses := true, named := ["unicode/utf8.first", "unicode/utf8.acceptRanges", "internal/bytealg.MaxLen"], apart := false, laid := [("unicode/utf8.acceptRanges", laid_unicode_utf8_acceptRanges), ("unicode/utf8.first", laid_unicode_utf8_first)] }
def FnExactTakeNameSaid : Prop := fnExactTakeNameRow.holds Tryd.pinned (OpenSpec.ofChange fnExactTakeNameSpec)

/-- ITS FALSE NEIGHBOUR: 'it returns false'. Refute it at one input. -/
def fnExactTakeNameWrong : ChangeSpec := { name := "fnExactTakeName", fn := fun _ => fun
  | [d1, d2] => { results := [.lit (.bool false)], args := [d1, d2] }
  | _ => none }
def FnExactTakeNameWrongFalsely : Prop := fnExactTakeNameRow.holds Tryd.pinned (OpenSpec.ofChange fnExactTakeNameWrong)

/-- 'laws.FnExactSuffixesOf': WHATEVER THE INPUT: true; the input reads as it did. -/
def fnExactSuffixesOfSpec : ChangeSpec := { name := "fnExactSuffixesOf", fn := fun _ => fun
  | [d] => { results := [.lit (.bool true)], args := [d] }
  | _ => none }
def fnExactSuffixesOfRow : OpenClaim := { program := "ytomcfhbmdoomlaadoor", sum := "7ba51789fb0d829ea8580ae66533ef415b4f2f73761548d8bcd69c1290f47a7f", func := "loop.example/g00300/laws.FnExactSuffixesOf", spec := "fnExactSuffixesOf", inPlace := ["internal/bytealg.IndexByteString", "internal/bytealg.IndexString", "internal/abi.NoEscape", "internal/bytealg.MakeNoZero", "internal/bytealg.CountString"], unfollowed := true, recurses := true, named := ["unicode/utf8.first", "unicode/utf8.acceptRanges", "internal/bytealg.MaxLen"], apart := false, laid := [("unicode/utf8.acceptRanges", laid_unicode_utf8_acceptRanges), ("unicode/utf8.first", laid_unicode_utf8_first)] }
def FnExactSuffixesOfSaid : Prop := fnExactSuffixesOfRow.holds Tryd.pinned (OpenSpec.ofChange fnExactSuffixesOfSpec)

/-- ITS FALSE NEIGHBOUR: 'it returns false'. Refute it at one input. -/
def fnExactSuffixesOfWrong : ChangeSpec := { name := "fnExactSuffixesOf", fn := fun _ => fun
  | [d] => { results := [.lit (.bool false)], args := [d] }
  | _ => none }
def FnExactSuffixesOfWrongFalsely : Prop := fnExactSuffixesOfRow.holds Tryd.pinned (OpenSpec.ofChange fnExactSuffixesOfWrong)

/-- 'laws.FnExactUnpackNames': WHATEVER THE INPUT: true; the input reads as it did. -/
def fnExactUnpackNamesSpec : ChangeSpec := { name := "fnExactUnpackNames", fn := fun _ => fun
  | [d1, d2] => { results := [.lit (.bool true)], args := [d1, d2] }
  | _ => none }
def fnExactUnpackNamesRow : OpenClaim := { program := "ytomcfhbmdoomlaadoor", sum := "7ba51789fb0d829ea8580ae66533ef415b4f2f73761548d8bcd69c1290f47a7f", func := "loop.example/g00300/laws.FnExactUnpackNames", spec := "fnExactUnpackNames", inPlace := ["internal/bytealg.IndexByteString", "internal/bytealg.IndexString", "internal/abi.NoEscape", "internal/bytealg.MakeNoZero", "internal/bytealg.CountString"], unfollowed := true, recurses := true, named := ["unicode/utf8.first", "unicode/utf8.acceptRanges", "internal/bytealg.MaxLen"], apart := false, laid := [("unicode/utf8.acceptRanges", laid_unicode_utf8_acceptRanges), ("unicode/utf8.first", laid_unicode_utf8_first)] }
def FnExactUnpackNamesSaid : Prop := fnExactUnpackNamesRow.holds Tryd.pinned (OpenSpec.ofChange fnExactUnpackNamesSpec)

/-- ITS FALSE NEIGHBOUR: 'it returns false'. Refute it at one input. -/
def fnExactUnpackNamesWrong : ChangeSpec := { name := "fnExactUnpackNames", fn := fun _ => fun
  | [d1, d2] => { results := [.lit (.bool false)], args := [d1, d2] }
  | _ => none }
def FnExactUnpackNamesWrongFalsely : Prop := fnExactUnpackNamesRow.holds Tryd.pinned (OpenSpec.ofChange fnExactUnpackNamesWrong)

/-- 'laws.FnExactPutName': WHATEVER THE INPUT: true; the input reads as it did. -/
def fnExactPutNameSpec : ChangeSpec := { name := "fnExactPutName", fn := fun _ => fun
  | [d1, d2] => { results := [.lit (.bool true)], args := [d1, d2] }
  | _ => none }
def fnExactPutNameRow : OpenClaim := { program := "ytomcfhbmdoomlaadoor", sum := "7ba51789fb0d829ea8580ae66533ef415b4f2f73761548d8bcd69c1290f47a7f", func := "loop.example/g00300/laws.FnExactPutName", spec := "fnExactPutName", inPlace := ["internal/bytealg.CountString", "internal/bytealg.IndexByteString", "internal/bytealg.IndexString", "internal/abi.NoEscape", "internal/bytealg.MakeNoZero"], unfollowed := true, recurses := true, named := ["unicode/utf8.first", "unicode/utf8.acceptRanges", "internal/bytealg.MaxLen"], apart := false, laid := [("unicode/utf8.acceptRanges", laid_unicode_utf8_acceptRanges), ("unicode/utf8.first", laid_unicode_utf8_first)] }
def FnExactPutNameSaid : Prop := fnExactPutNameRow.holds Tryd.pinned (OpenSpec.ofChange fnExactPutNameSpec)

/-- ITS FALSE NEIGHBOUR: 'it returns false'. Refute it at one input. -/
def fnExactPutNameWrong : ChangeSpec := { name := "fnExactPutName", fn := fun _ => fun
  | [d1, d2] => { results := [.lit (.bool false)], args := [d1, d2] }
  | _ => none }
def FnExactPutNameWrongFalsely : Prop := fnExactPutNameRow.holds Tryd.pinned (OpenSpec.ofChange fnExactPutNameWrong)

/-- 'laws.FnExactPackNames': WHATEVER THE INPUT: true; the input reads as it did. -/
def fnExactPackNamesSpec : ChangeSpec := { name := "fnExactPackNames", fn := fun _ => fun
  | [d] => { results := [.lit (.bool true)], args := [d] }
  | _ => none }
def fnExactPackNamesRow : OpenClaim := { program := "ytomcfhbmdoomlaadoor", sum := "7ba51789fb0d829ea8580ae66533ef415b4f2f73761548d8bcd69c1290f47a7f", func := "loop.example/g00300/laws.FnExactPackNames", spec := "fnExactPackNames", inPlace := ["internal/bytealg.CountString", "internal/bytealg.IndexByteString", "internal/bytealg.IndexString", "internal/abi.NoEscape", "internal/bytealg.MakeNoZero"], unfollowed := true, recurses := true, named := ["unicode/utf8.first", "unicode/utf8.acceptRanges", "internal/bytealg.MaxLen"], apart := false, laid := [("unicode/utf8.acceptRanges", laid_unicode_utf8_acceptRanges), ("unicode/utf8.first", laid_unicode_utf8_first)] }
def FnExactPackNamesSaid : Prop := fnExactPackNamesRow.holds Tryd.pinned (OpenSpec.ofChange fnExactPackNamesSpec)

/-- ITS FALSE NEIGHBOUR: 'it returns false'. Refute it at one input. -/
def fnExactPackNamesWrong : ChangeSpec := { name := "fnExactPackNames", fn := fun _ => fun
  | [d] => { results := [.lit (.bool false)], args := [d] }
  | _ => none }
def FnExactPackNamesWrongFalsely : Prop := fnExactPackNamesRow.holds Tryd.pinned (OpenSpec.ofChange fnExactPackNamesWrong)

/-- 'laws.FnExactPackedSize': WHATEVER THE INPUT: true; the input reads as it did. -/
def fnExactPackedSizeSpec : ChangeSpec := { name := "fnExactPackedSize", fn := fun _ => fun
  | [d] => { results := [.lit (.bool true)], args := [d] }
  | _ => none }
def fnExactPackedSizeRow : OpenClaim := { program := "ytomcfhbmdoomlaadoor", sum := "7ba51789fb0d829ea8580ae66533ef415b4f2f73761548d8bcd69c1290f47a7f", func := "loop.example/g00300/laws.FnExactPackedSize", spec := "fnExactPackedSize", inPlace := ["internal/bytealg.CountString", "internal/bytealg.IndexByteString", "internal/bytealg.IndexString", "internal/abi.NoEscape", "internal/bytealg.MakeNoZero"], unfollowed := true, recurses := true, named := ["unicode/utf8.first", "unicode/utf8.acceptRanges", "internal/bytealg.MaxLen"], apart := false, laid := [("unicode/utf8.acceptRanges", laid_unicode_utf8_acceptRanges), ("unicode/utf8.first", laid_unicode_utf8_first)] }
def FnExactPackedSizeSaid : Prop := fnExactPackedSizeRow.holds Tryd.pinned (OpenSpec.ofChange fnExactPackedSizeSpec)

/-- ITS FALSE NEIGHBOUR: 'it returns false'. Refute it at one input. -/
def fnExactPackedSizeWrong : ChangeSpec := { name := "fnExactPackedSize", fn := fun _ => fun
  | [d] => { results := [.lit (.bool false)], args := [d] }
  | _ => none }
def FnExactPackedSizeWrongFalsely : Prop := fnExactPackedSizeRow.holds Tryd.pinned (OpenSpec.ofChange fnExactPackedSizeWrong)

/-- 'laws.FnPointers': WHATEVER THE INPUT: true; the input reads as it did. -/
def fnPointersSpec : ChangeSpec := { name := "fnPointers", fn := fun _ => fun
  | [d1, d2] => { results := [.lit (.bool true)], args := [d1, d2] }
  | _ => none }
def fnPointersRow : OpenClaim := { program := "ytomcfhbmdoomlaadoor", sum := "7ba51789fb0d829ea8580ae66533ef415b4f2f73761548d8bcd69c1290f47a7f", func := "loop.example/g00300/laws.FnPointers", spec := "fnPointers", inPlace := ["internal/bytealg.CountString", "internal/bytealg.IndexByteString", "internal/bytealg.IndexString", "internal/abi.NoEscape", "internal/bytealg.MakeNoZero"], unfollowed := true, recurses := true, named := ["unicode/utf8.first", "unicode/utf8.acceptRanges", "internal/bytealg.MaxLen"], apart := false, laid := [("unicode/utf8.acceptRanges", laid_unicode_utf8_acceptRanges), ("unicode/utf8.first", laid_unicode_utf8_first)] }
def FnPointersSaid : Prop := fnPointersRow.holds Tryd.pinned (OpenSpec.ofChange fnPointersSpec)

/-- ITS FALSE NEIGHBOUR: 'it returns false'. Refute it at one input. -/
def fnPointersWrong : ChangeSpec := { name := "fnPointers", fn := fun _ => fun
  | [d1, d2] => { results := [.lit (.bool false)], args := [d1, d2] }
  | _ => none }
def FnPointersWrongFalsely : Prop := fnPointersRow.holds Tryd.pinned (OpenSpec.ofChange fnPointersWrong)

/-- 'laws.FnPacked': WHATEVER THE INPUT: true; the input reads as it did. -/
def fnPackedSpec : ChangeSpec := { name := "fnPacked", fn := fun _ => fun
  | [d1, d2] => { results := [.lit (.bool true)], args := [d1, d2] }
  | _ => none }
def fnPackedRow : OpenClaim := { program := "ytomcfhbmdoomlaadoor", sum := "7ba51789fb0d829ea8580ae66533ef415b4f2f73761548d8bcd69c1290f47a7f", func := "loop.example/g00300/laws.FnPacked", spec := "fnPacked", inPlace := ["internal/bytealg.CountString", "internal/bytealg.IndexByteString", "internal/bytealg.IndexString", "internal/abi.NoEscape", "internal/bytealg.MakeNoZero"], unfollowed := true, recurses := true, named := ["unicode/utf8.first", "unicode/utf8.acceptRanges", "internal/bytealg.MaxLen"], apart := false, laid := [("unicode/utf8.acceptRanges", laid_unicode_utf8_acceptRanges), ("unicode/utf8.first", laid_unicode_utf8_first)] }
def FnPackedSaid : Prop := fnPackedRow.holds Tryd.pinned (OpenSpec.ofChange fnPackedSpec)

/-- ITS FALSE NEIGHBOUR: 'it returns false'. Refute it at one input. -/
def fnPackedWrong : ChangeSpec := { name := "fnPacked", fn := fun _ => fun
  | [d1, d2] => { results := [.lit (.bool false)], args := [d1, d2] }
  | _ => none }
def FnPackedWrongFalsely : Prop := fnPackedRow.holds Tryd.pinned (OpenSpec.ofChange fnPackedWrong)

/- THE SECOND FORM. 'bulk': how many values and letters a reading holds, each counted each time it is reached (what is shared counts as often as it is met; a slice's spare places count too). A statement '..UptoSaid' is the law's where the arguments, and the package variables that the reading takes, are together of bulk at most 1048576: NARROWER than '..Said'. Prove '..Said' where nothing that the law and all that it calls make is longer than what came in: it says more and counts as full. Else prove '..UptoSaid'. A law counts once. -/
mutual
def uptoBulk {H : Type} : DataW H → Nat
  | .lit (.string bytes) => bytes.length + 1
  | .lit _ => 1
  | .nil => 1
  | .ptr d => uptoBulk d + 1
  | .slice elems spare => uptoBulkAll elems + uptoBulkAll spare + 1
  | .agg parts => uptoBulkAll parts + 1
  | .iface _ d => uptoBulk d + 1
  | .map entries => uptoBulkEntries entries + 1
  | .held _ => 1
def uptoBulkAll {H : Type} : List (DataW H) → Nat
  | [] => 0
  | d :: r => uptoBulk d + uptoBulkAll r
def uptoBulkEntries {H : Type} : List (Lit × DataW H) → Nat
  | [] => 0
  | x :: r => uptoBulkEntry x + uptoBulkEntries r
def uptoBulkEntry {H : Type} : Lit × DataW H → Nat
  | (.string bytes, d) => bytes.length + uptoBulk d + 1
  | (_, d) => uptoBulk d + 1
 end
def uptoSmall : (H : Type) → List (DataW H) → Bool := fun _ ds => decide (uptoBulkAll ds ≤ 1048576)
def OpenSpec.upto (s : _root_.Go.ChangeSpec) : _root_.Go.OpenSpec := { _root_.Go.OpenSpec.ofChange s with cond := some uptoSmall }

/-- 'laws.FnExactTakeName', WHERE WHAT IT READS IS OF BULK AT MOST 1048576: true; the input reads as it did. -/
def fnExactTakeNameUptoRow : OpenClaim := { program := "ytomcfhbmdoomlaadoor", sum := "7ba51789fb0d829ea8580ae66533ef415b4f2f73761548d8bcd69c1290f47a7f", func := "loop.example/g00300/laws.FnExactTakeName", spec := "fnExactTakeName", inPlace := ["internal/bytealg.IndexByteString", "internal/bytealg.IndexString", "internal/abi.NoEscape", "internal/bytealg.MakeNoZero", "internal/bytealg.CountString"], unfollowed := true, recurses := true, named := ["unicode/utf8.first", "unicode/utf8.acceptRanges", "internal/bytealg.MaxLen"], apart := false, laid := [("unicode/utf8.acceptRanges", laid_unicode_utf8_acceptRanges), ("unicode/utf8.first", laid_unicode_utf8_first)], narrowed := true }
def FnExactTakeNameUptoSaid : Prop := fnExactTakeNameUptoRow.holds Tryd.pinned (OpenSpec.upto fnExactTakeNameSpec)

/-- 'laws.FnExactSuffixesOf', WHERE WHAT IT READS IS OF BULK AT MOST 1048576: true; the input reads as it did. -/
def fnExactSuffixesOfUptoRow : OpenClaim := { program := "ytomcfhbmdoomlaadoor", sum := "7ba51789fb0d829ea8580ae66533ef415b4f2f73761548d8bcd69c1290f47a7f", func := "loop.example/g00300/laws.FnExactSuffixesOf", spec := "fnExactSuffixesOf", inPlace := ["internal/bytealg.IndexByteString", "internal/bytealg.IndexString", "internal/abi.NoEscape", "internal/bytealg.MakeNoZero", "internal/bytealg.CountString"], unfollowed := true, recurses := true, named := ["unicode/utf8.first", "unicode/utf8.acceptRanges", "internal/bytealg.MaxLen"], apart := false, laid := [("unicode/utf8.acceptRanges", laid_unicode_utf8_acceptRanges), ("unicode/utf8.first", laid_unicode_utf8_first)], narrowed := true }
def FnExactSuffixesOfUptoSaid : Prop := fnExactSuffixesOfUptoRow.holds Tryd.pinned (OpenSpec.upto fnExactSuffixesOfSpec)

/-- 'laws.FnExactUnpackNames', WHERE WHAT IT READS IS OF BULK AT MOST 1048576: true; the input reads as it did. -/
def fnExactUnpackNamesUptoRow : OpenClaim := { program := "ytomcfhbmdoomlaadoor", sum := "7ba51789fb0d829ea8580ae66533ef415b4f2f73761548d8bcd69c1290f47a7f", func := "loop.example/g00300/laws.FnExactUnpackNames", spec := "fnExactUnpackNames", inPlace := ["internal/bytealg.IndexByteString", "internal/bytealg.IndexString", "internal/abi.NoEscape", "internal/bytealg.MakeNoZero", "internal/bytealg.CountString"], unfollowed := true, recurses := true, named := ["unicode/utf8.first", "unicode/utf8.acceptRanges", "internal/bytealg.MaxLen"], apart := false, laid := [("unicode/utf8.acceptRanges", laid_unicode_utf8_acceptRanges), ("unicode/utf8.first", laid_unicode_utf8_first)], narrowed := true }
def FnExactUnpackNamesUptoSaid : Prop := fnExactUnpackNamesUptoRow.holds Tryd.pinned (OpenSpec.upto fnExactUnpackNamesSpec)

/-- 'laws.FnExactPutName', WHERE WHAT IT READS IS OF BULK AT MOST 1048576: true; the input reads as it did. -/
def fnExactPutNameUptoRow : OpenClaim := { program := "ytomcfhbmdoomlaadoor", sum := "7ba51789fb0d829ea8580ae66533ef415b4f2f73761548d8bcd69c1290f47a7f", func := "loop.example/g00300/laws.FnExactPutName", spec := "fnExactPutName", inPlace := ["internal/bytealg.CountString", "internal/bytealg.IndexByteString", "internal/bytealg.IndexString", "internal/abi.NoEscape", "internal/bytealg.MakeNoZero"], unfollowed := true, recurses := true, named := ["unicode/utf8.first", "unicode/utf8.acceptRanges", "internal/bytealg.MaxLen"], apart := false, laid := [("unicode/utf8.acceptRanges", laid_unicode_utf8_acceptRanges), ("unicode/utf8.first", laid_unicode_utf8_first)], narrowed := true }
def FnExactPutNameUptoSaid : Prop := fnExactPutNameUptoRow.holds Tryd.pinned (OpenSpec.upto fnExactPutNameSpec)

/-- 'laws.FnExactPackNames', WHERE WHAT IT READS IS OF BULK AT MOST 1048576: true; the input reads as it did. -/
def fnExactPackNamesUptoRow : OpenClaim := { program := "ytomcfhbmdoomlaadoor", sum := "7ba51789fb0d829ea8580ae66533ef415b4f2f73761548d8bcd69c1290f47a7f", func := "loop.example/g00300/laws.FnExactPackNames", spec := "fnExactPackNames", inPlace := ["internal/bytealg.CountString", "internal/bytealg.IndexByteString", "internal/bytealg.IndexString", "internal/abi.NoEscape", "internal/bytealg.MakeNoZero"], unfollowed := true, recurses := true, named := ["unicode/utf8.first", "unicode/utf8.acceptRanges", "internal/bytealg.MaxLen"], apart := false, laid := [("unicode/utf8.acceptRanges", laid_unicode_utf8_acceptRanges), ("unicode/utf8.first", laid_unicode_utf8_first)], narrowed := true }
def FnExactPackNamesUptoSaid : Prop := fnExactPackNamesUptoRow.holds Tryd.pinned (OpenSpec.upto fnExactPackNamesSpec)

/-- 'laws.FnExactPackedSize', WHERE WHAT IT READS IS OF BULK AT MOST 1048576: true; the input reads as it did. -/
def fnExactPackedSizeUptoRow : OpenClaim := { program := "ytomcfhbmdoomlaadoor", sum := "7ba51789fb0d829ea8580ae66533ef415b4f2f73761548d8bcd69c1290f47a7f", func := "loop.example/g00300/laws.FnExactPackedSize", spec := "fnExactPackedSize", inPlace := ["internal/bytealg.CountString", "internal/bytealg.IndexByteString", "internal/bytealg.IndexString", "internal/abi.NoEscape", "internal/bytealg.MakeNoZero"], unfollowed := true, recurses := true, named := ["unicode/utf8.first", "unicode/utf8.acceptRanges", "internal/bytealg.MaxLen"], apart := false, laid := [("unicode/utf8.acceptRanges", laid_unicode_utf8_acceptRanges), ("unicode/utf8.first", laid_unicode_utf8_first)], narrowed := true }
def FnExactPackedSizeUptoSaid : Prop := fnExactPackedSizeUptoRow.holds Tryd.pinned (OpenSpec.upto fnExactPackedSizeSpec)

/-- 'laws.FnPointers', WHERE WHAT IT READS IS OF BULK AT MOST 1048576: true; the input reads as it did. -/
def fnPointersUptoRow : OpenClaim := { program := "ytomcfhbmdoomlaadoor", sum := "7ba51789fb0d829ea8580ae66533ef415b4f2f73761548d8bcd69c1290f47a7f", func := "loop.example/g00300/laws.FnPointers", spec := "fnPointers", inPlace := ["internal/bytealg.CountString", "internal/bytealg.IndexByteString", "internal/bytealg.IndexString", "internal/abi.NoEscape", "internal/bytealg.MakeNoZero"], unfollowed := true, recurses := true, named := ["unicode/utf8.first", "unicode/utf8.acceptRanges", "internal/bytealg.MaxLen"], apart := false, laid := [("unicode/utf8.acceptRanges", laid_unicode_utf8_acceptRanges), ("unicode/utf8.first", laid_unicode_utf8_first)], narrowed := true }
def FnPointersUptoSaid : Prop := fnPointersUptoRow.holds Tryd.pinned (OpenSpec.upto fnPointersSpec)

/-- 'laws.FnPacked', WHERE WHAT IT READS IS OF BULK AT MOST 1048576: true; the input reads as it did. -/
def fnPackedUptoRow : OpenClaim := { program := "ytomcfhbmdoomlaadoor", sum := "7ba51789fb0d829ea8580ae66533ef415b4f2f73761548d8bcd69c1290f47a7f", func := "loop.example/g00300/laws.FnPacked", spec := "fnPacked", inPlace := ["internal/bytealg.CountString", "internal/bytealg.IndexByteString", "internal/bytealg.IndexString", "internal/abi.NoEscape", "internal/bytealg.MakeNoZero"], unfollowed := true, recurses := true, named := ["unicode/utf8.first", "unicode/utf8.acceptRanges", "internal/bytealg.MaxLen"], apart := false, laid := [("unicode/utf8.acceptRanges", laid_unicode_utf8_acceptRanges), ("unicode/utf8.first", laid_unicode_utf8_first)], narrowed := true }
def FnPackedUptoSaid : Prop := fnPackedUptoRow.holds Tryd.pinned (OpenSpec.upto fnPackedSpec)

end Rows
end Go.Proofs.YtomcfhbmdoomlaaDoor
