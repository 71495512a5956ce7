/-
  No cell of these rows narrows 'for every input' (looked for: loops, veiled, ifaces, maps, wideKeys, modest, calm, conditions, laid).
  DERIVED. THE GIVEN ROWS OF THIS SEAT. 9 by the template 'for every input the law returns true; each argument reads behind the call as it read before'; 0 by the template 'total and deterministic' (their statements: YtkbhmikjnoncfaaTotals.lean).
  GIVEN WITH THE SEED: the statements are not yours to turn. If you find one false, say at which input.
  Laid BY PROGRAM, IN A SANDBOX (cutbox-rows.mjs): the forced cells as the released guide's own fill.sh prints them over the translation 4b5efe1b630cd101… (all of the seat's roots in one cut). By AI agents, Wed Nov 11 2026. No macro, syntax, notation, axiom, sorry.
-/
import Derived.Test.YtkbhmikjnoncfaaChecked
import GoSem.Claim
import GoSem.ClaimJoined
import GoSem.ClaimMapViews
import Derived.JoinedTies
import Derived.KernelRfl
namespace Go.Proofs.Ytkbhmikjnoncfaa
/- THE CELL 'sum', in the pinned program and in every row, IS THE sha256 OF THE DUMP (.gsa) THAT YtkbhmikjnoncfaaProg.lean LOADS. Nothing in Lean hashes anything: it is a label: what it is worth is what the hold of that sum in a sandbox is worth. -/
noncomputable def Try.pinned : Pinned := { name := "ytkbhmikjnoncfaa", sum := "4b5efe1b630cd101bb9cf6a39bb1f6d4296ccdbddc7dd8c8b3f44de511596eac", checked := Try.checked }
namespace Rows
def none {H : Type} : Left H := { results := [], args := [] }

/-- 'laws.FnExactConstants': WHATEVER THE INPUT: true; the input reads as it did. -/
def fnExactConstantsSpec : ChangeSpec := { name := "fnExactConstants", fn := fun _ => fun
  | [] => { results := [.lit (.bool true)], args := [] }
  | _ => none }
def fnExactConstantsRow : OpenClaim := { program := "ytkbhmikjnoncfaa", sum := "4b5efe1b630cd101bb9cf6a39bb1f6d4296ccdbddc7dd8c8b3f44de511596eac", func := "loop.example/g00300/laws.FnExactConstants", spec := "fnExactConstants", apart := false }
def FnExactConstantsSaid : Prop := fnExactConstantsRow.holds Try.pinned (OpenSpec.ofChange fnExactConstantsSpec)

/-- ITS FALSE NEIGHBOUR: 'it returns false'. Refute it at one input. -/
def fnExactConstantsWrong : ChangeSpec := { name := "fnExactConstants", fn := fun _ => fun
  | [] => { results := [.lit (.bool false)], args := [] }
  | _ => none }
def FnExactConstantsWrongFalsely : Prop := fnExactConstantsRow.holds Try.pinned (OpenSpec.ofChange fnExactConstantsWrong)

/-- 'laws.FnExactSerialOf': WHATEVER THE INPUT: true; the input reads as it did. -/
def fnExactSerialOfSpec : ChangeSpec := { name := "fnExactSerialOf", fn := fun _ => fun
  | [d] => { results := [.lit (.bool true)], args := [d] }
  | _ => none }
def fnExactSerialOfRow : OpenClaim := { program := "ytkbhmikjnoncfaa", sum := "4b5efe1b630cd101bb9cf6a39bb1f6d4296ccdbddc7dd8c8b3f44de511596eac", func := "loop.example/g00300/laws.FnExactSerialOf", spec := "fnExactSerialOf", apart := false }
def FnExactSerialOfSaid : Prop := fnExactSerialOfRow.holds Try.pinned (OpenSpec.ofChange fnExactSerialOfSpec)

/-- ITS FALSE NEIGHBOUR: 'it returns false'. Refute it at one input. -/
def fnExactSerialOfWrong : ChangeSpec := { name := "fnExactSerialOf", fn := fun _ => fun
  | [d] => { results := [.lit (.bool false)], args := [d] }
  | _ => none }
def FnExactSerialOfWrongFalsely : Prop := fnExactSerialOfRow.holds Try.pinned (OpenSpec.ofChange fnExactSerialOfWrong)

/-- 'laws.FnExactSerialAdd': WHATEVER THE INPUT: true; the input reads as it did. -/
def fnExactSerialAddSpec : ChangeSpec := { name := "fnExactSerialAdd", fn := fun _ => fun
  | [d1, d2] => { results := [.lit (.bool true)], args := [d1, d2] }
  | _ => none }
def fnExactSerialAddRow : OpenClaim := { program := "ytkbhmikjnoncfaa", sum := "4b5efe1b630cd101bb9cf6a39bb1f6d4296ccdbddc7dd8c8b3f44de511596eac", func := "loop.example/g00300/laws.FnExactSerialAdd", spec := "fnExactSerialAdd", apart := false }
def FnExactSerialAddSaid : Prop := fnExactSerialAddRow.holds Try.pinned (OpenSpec.ofChange fnExactSerialAddSpec)

/-- ITS FALSE NEIGHBOUR: 'it returns false'. Refute it at one input. -/
def fnExactSerialAddWrong : ChangeSpec := { name := "fnExactSerialAdd", fn := fun _ => fun
  | [d1, d2] => { results := [.lit (.bool false)], args := [d1, d2] }
  | _ => none }
def FnExactSerialAddWrongFalsely : Prop := fnExactSerialAddRow.holds Try.pinned (OpenSpec.ofChange fnExactSerialAddWrong)

/-- 'laws.FnExactStepsBetween': WHATEVER THE INPUT: true; the input reads as it did. -/
def fnExactStepsBetweenSpec : ChangeSpec := { name := "fnExactStepsBetween", fn := fun _ => fun
  | [d1, d2] => { results := [.lit (.bool true)], args := [d1, d2] }
  | _ => none }
def fnExactStepsBetweenRow : OpenClaim := { program := "ytkbhmikjnoncfaa", sum := "4b5efe1b630cd101bb9cf6a39bb1f6d4296ccdbddc7dd8c8b3f44de511596eac", func := "loop.example/g00300/laws.FnExactStepsBetween", spec := "fnExactStepsBetween", apart := false }
def FnExactStepsBetweenSaid : Prop := fnExactStepsBetweenRow.holds Try.pinned (OpenSpec.ofChange fnExactStepsBetweenSpec)

/-- ITS FALSE NEIGHBOUR: 'it returns false'. Refute it at one input. -/
def fnExactStepsBetweenWrong : ChangeSpec := { name := "fnExactStepsBetween", fn := fun _ => fun
  | [d1, d2] => { results := [.lit (.bool false)], args := [d1, d2] }
  | _ => none }
def FnExactStepsBetweenWrongFalsely : Prop := fnExactStepsBetweenRow.holds Try.pinned (OpenSpec.ofChange fnExactStepsBetweenWrong)

/-- 'laws.FnExactSerialLess': WHATEVER THE INPUT: true; the input reads as it did. -/
def fnExactSerialLessSpec : ChangeSpec := { name := "fnExactSerialLess", fn := fun _ => fun
  | [d1, d2] => { results := [.lit (.bool true)], args := [d1, d2] }
  | _ => none }
def fnExactSerialLessRow : OpenClaim := { program := "ytkbhmikjnoncfaa", sum := "4b5efe1b630cd101bb9cf6a39bb1f6d4296ccdbddc7dd8c8b3f44de511596eac", func := "loop.example/g00300/laws.FnExactSerialLess", spec := "fnExactSerialLess", apart := false }
def FnExactSerialLessSaid : Prop := fnExactSerialLessRow.holds Try.pinned (OpenSpec.ofChange fnExactSerialLessSpec)

/-- ITS FALSE NEIGHBOUR: 'it returns false'. Refute it at one input. -/
def fnExactSerialLessWrong : ChangeSpec := { name := "fnExactSerialLess", fn := fun _ => fun
  | [d1, d2] => { results := [.lit (.bool false)], args := [d1, d2] }
  | _ => none }
def FnExactSerialLessWrongFalsely : Prop := fnExactSerialLessRow.holds Try.pinned (OpenSpec.ofChange fnExactSerialLessWrong)

/-- 'laws.FnExactCounterFor': WHATEVER THE INPUT: true; the input reads as it did. -/
def fnExactCounterForSpec : ChangeSpec := { name := "fnExactCounterFor", fn := fun _ => fun
  | [d1, d2] => { results := [.lit (.bool true)], args := [d1, d2] }
  | _ => none }
def fnExactCounterForRow : OpenClaim := { program := "ytkbhmikjnoncfaa", sum := "4b5efe1b630cd101bb9cf6a39bb1f6d4296ccdbddc7dd8c8b3f44de511596eac", func := "loop.example/g00300/laws.FnExactCounterFor", spec := "fnExactCounterFor", apart := false }
def FnExactCounterForSaid : Prop := fnExactCounterForRow.holds Try.pinned (OpenSpec.ofChange fnExactCounterForSpec)

/-- ITS FALSE NEIGHBOUR: 'it returns false'. Refute it at one input. -/
def fnExactCounterForWrong : ChangeSpec := { name := "fnExactCounterFor", fn := fun _ => fun
  | [d1, d2] => { results := [.lit (.bool false)], args := [d1, d2] }
  | _ => none }
def FnExactCounterForWrongFalsely : Prop := fnExactCounterForRow.holds Try.pinned (OpenSpec.ofChange fnExactCounterForWrong)

/-- 'laws.FnSerials': WHATEVER THE INPUT: true; the input reads as it did. -/
def fnSerialsSpec : ChangeSpec := { name := "fnSerials", fn := fun _ => fun
  | [d1, d2] => { results := [.lit (.bool true)], args := [d1, d2] }
  | _ => none }
def fnSerialsRow : OpenClaim := { program := "ytkbhmikjnoncfaa", sum := "4b5efe1b630cd101bb9cf6a39bb1f6d4296ccdbddc7dd8c8b3f44de511596eac", func := "loop.example/g00300/laws.FnSerials", spec := "fnSerials", apart := false }
def FnSerialsSaid : Prop := fnSerialsRow.holds Try.pinned (OpenSpec.ofChange fnSerialsSpec)

/-- ITS FALSE NEIGHBOUR: 'it returns false'. Refute it at one input. -/
def fnSerialsWrong : ChangeSpec := { name := "fnSerials", fn := fun _ => fun
  | [d1, d2] => { results := [.lit (.bool false)], args := [d1, d2] }
  | _ => none }
def FnSerialsWrongFalsely : Prop := fnSerialsRow.holds Try.pinned (OpenSpec.ofChange fnSerialsWrong)

/-- 'laws.FnExactNewestOf': WHATEVER THE INPUT: true; the input reads as it did. -/
def fnExactNewestOfSpec : ChangeSpec := { name := "fnExactNewestOf", fn := fun _ => fun
  | [d] => { results := [.lit (.bool true)], args := [d] }
  | _ => none }
def fnExactNewestOfRow : OpenClaim := { program := "ytkbhmikjnoncfaa", sum := "4b5efe1b630cd101bb9cf6a39bb1f6d4296ccdbddc7dd8c8b3f44de511596eac", func := "loop.example/g00300/laws.FnExactNewestOf", spec := "fnExactNewestOf", unfollowed := true, recurses := true, apart := false }
def FnExactNewestOfSaid : Prop := fnExactNewestOfRow.holds Try.pinned (OpenSpec.ofChange fnExactNewestOfSpec)

/-- ITS FALSE NEIGHBOUR: 'it returns false'. Refute it at one input. -/
def fnExactNewestOfWrong : ChangeSpec := { name := "fnExactNewestOf", fn := fun _ => fun
  | [d] => { results := [.lit (.bool false)], args := [d] }
  | _ => none }
def FnExactNewestOfWrongFalsely : Prop := fnExactNewestOfRow.holds Try.pinned (OpenSpec.ofChange fnExactNewestOfWrong)

/-- 'laws.FnCounters': WHATEVER THE INPUT: true; the input reads as it did. -/
def fnCountersSpec : ChangeSpec := { name := "fnCounters", fn := fun _ => fun
  | [d1, d2] => { results := [.lit (.bool true)], args := [d1, d2] }
  | _ => none }
def fnCountersRow : OpenClaim := { program := "ytkbhmikjnoncfaa", sum := "4b5efe1b630cd101bb9cf6a39bb1f6d4296ccdbddc7dd8c8b3f44de511596eac", func := "loop.example/g00300/laws.FnCounters", spec := "fnCounters", unfollowed := true, recurses := true, apart := false }
def FnCountersSaid : Prop := fnCountersRow.holds Try.pinned (OpenSpec.ofChange fnCountersSpec)

/-- ITS FALSE NEIGHBOUR: 'it returns false'. Refute it at one input. -/
def fnCountersWrong : ChangeSpec := { name := "fnCounters", fn := fun _ => fun
  | [d1, d2] => { results := [.lit (.bool false)], args := [d1, d2] }
  | _ => none }
def FnCountersWrongFalsely : Prop := fnCountersRow.holds Try.pinned (OpenSpec.ofChange fnCountersWrong)

/- THE SECOND FORM. 'bulk': how many values and letters a reading holds, each counted each time it is reached (what is shared counts as often as it is met; a slice's spare places count too). A statement '..UptoSaid' is the law's where the arguments, and the package variables that the reading takes, are together of bulk at most 1048576: NARROWER than '..Said'. Prove '..Said' where nothing that the law and all that it calls make is longer than what came in: it says more and counts as full. Else prove '..UptoSaid'. A law counts once. -/
mutual
def uptoBulk {H : Type} : DataW H → Nat
  | .lit (.string bytes) => bytes.length + 1
  | .lit _ => 1
  | .nil => 1
  | .ptr d => uptoBulk d + 1
  | .slice elems spare => uptoBulkAll elems + uptoBulkAll spare + 1
  | .agg parts => uptoBulkAll parts + 1
  | .iface _ d => uptoBulk d + 1
  | .map entries => uptoBulkEntries entries + 1
  | .held _ => 1
def uptoBulkAll {H : Type} : List (DataW H) → Nat
  | [] => 0
  | d :: r => uptoBulk d + uptoBulkAll r
def uptoBulkEntries {H : Type} : List (Lit × DataW H) → Nat
  | [] => 0
  | x :: r => uptoBulkEntry x + uptoBulkEntries r
def uptoBulkEntry {H : Type} : Lit × DataW H → Nat
  | (.string bytes, d) => bytes.length + uptoBulk d + 1
  | (_, d) => uptoBulk d + 1
 end
def uptoSmall : (H : Type) → List (DataW H) → Bool := fun _ ds => decide (uptoBulkAll ds ≤ 1048576)
def OpenSpec.upto (s : _root_.Go.ChangeSpec) : _root_.Go.OpenSpec := { _root_.Go.OpenSpec.ofChange s with cond := some uptoSmall }

/-- 'laws.FnExactConstants', WHERE WHAT IT READS IS OF BULK AT MOST 1048576: true; the input reads as it did. -/
def fnExactConstantsUptoRow : OpenClaim := { program := "ytkbhmikjnoncfaa", sum := "4b5efe1b630cd101bb9cf6a39bb1f6d4296ccdbddc7dd8c8b3f44de511596eac", func := "loop.example/g00300/laws.FnExactConstants", spec := "fnExactConstants", apart := false, narrowed := true }
def FnExactConstantsUptoSaid : Prop := fnExactConstantsUptoRow.holds Try.pinned (OpenSpec.upto fnExactConstantsSpec)

/-- 'laws.FnExactSerialOf', WHERE WHAT IT READS IS OF BULK AT MOST 1048576: true; the input reads as it did. -/
def fnExactSerialOfUptoRow : OpenClaim := { program := "ytkbhmikjnoncfaa", sum := "4b5efe1b630cd101bb9cf6a39bb1f6d4296ccdbddc7dd8c8b3f44de511596eac", func := "loop.example/g00300/laws.FnExactSerialOf", spec := "fnExactSerialOf", apart := false, narrowed := true }
def FnExactSerialOfUptoSaid : Prop := fnExactSerialOfUptoRow.holds Try.pinned (OpenSpec.upto fnExactSerialOfSpec)

/-- 'laws.FnExactSerialAdd', WHERE WHAT IT READS IS OF BULK AT MOST 1048576: true; the input reads as it did. -/
def fnExactSerialAddUptoRow : OpenClaim := { program := "ytkbhmikjnoncfaa", sum := "4b5efe1b630cd101bb9cf6a39bb1f6d4296ccdbddc7dd8c8b3f44de511596eac", func := "loop.example/g00300/laws.FnExactSerialAdd", spec := "fnExactSerialAdd", apart := false, narrowed := true }
def FnExactSerialAddUptoSaid : Prop := fnExactSerialAddUptoRow.holds Try.pinned (OpenSpec.upto fnExactSerialAddSpec)

/-- 'laws.FnExactStepsBetween', WHERE WHAT IT READS IS OF BULK AT MOST 1048576: true; the input reads as it did. -/
def fnExactStepsBetweenUptoRow : OpenClaim := { program := "ytkbhmikjnoncfaa", sum := "4b5efe1b630cd101bb9cf6a39bb1f6d4296ccdbddc7dd8c8b3f44de511596eac", func := "loop.example/g00300/laws.FnExactStepsBetween", spec := "fnExactStepsBetween", apart := false, narrowed := true }
def FnExactStepsBetweenUptoSaid : Prop := fnExactStepsBetweenUptoRow.holds Try.pinned (OpenSpec.upto fnExactStepsBetweenSpec)

/-- 'laws.FnExactSerialLess', WHERE WHAT IT READS IS OF BULK AT MOST 1048576: true; the input reads as it did. -/
def fnExactSerialLessUptoRow : OpenClaim := { program := "ytkbhmikjnoncfaa", sum := "4b5efe1b630cd101bb9cf6a39bb1f6d4296ccdbddc7dd8c8b3f44de511596eac", func := "loop.example/g00300/laws.FnExactSerialLess", spec := "fnExactSerialLess", apart := false, narrowed := true }
def FnExactSerialLessUptoSaid : Prop := fnExactSerialLessUptoRow.holds Try.pinned (OpenSpec.upto fnExactSerialLessSpec)

/-- 'laws.FnExactCounterFor', WHERE WHAT IT READS IS OF BULK AT MOST 1048576: true; the input reads as it did. -/
def fnExactCounterForUptoRow : OpenClaim := { program := "ytkbhmikjnoncfaa", sum := "4b5efe1b630cd101bb9cf6a39bb1f6d4296ccdbddc7dd8c8b3f44de511596eac", func := "loop.example/g00300/laws.FnExactCounterFor", spec := "fnExactCounterFor", apart := false, narrowed := true }
def FnExactCounterForUptoSaid : Prop := fnExactCounterForUptoRow.holds Try.pinned (OpenSpec.upto fnExactCounterForSpec)

/-- 'laws.FnSerials', WHERE WHAT IT READS IS OF BULK AT MOST 1048576: true; the input reads as it did. -/
def fnSerialsUptoRow : OpenClaim := { program := "ytkbhmikjnoncfaa", sum := "4b5efe1b630cd101bb9cf6a39bb1f6d4296ccdbddc7dd8c8b3f44de511596eac", func := "loop.example/g00300/laws.FnSerials", spec := "fnSerials", apart := false, narrowed := true }
def FnSerialsUptoSaid : Prop := fnSerialsUptoRow.holds Try.pinned (OpenSpec.upto fnSerialsSpec)

/-- 'laws.FnExactNewestOf', WHERE WHAT IT READS IS OF BULK AT MOST 1048576: true; the input reads as it did. -/
def fnExactNewestOfUptoRow : OpenClaim := { program := "ytkbhmikjnoncfaa", sum := "4b5efe1b630cd101bb9cf6a39bb1f6d4296ccdbddc7dd8c8b3f44de511596eac", func := "loop.example/g00300/laws.FnExactNewestOf", spec := "fnExactNewestOf", unfollowed := true, recurses := true, apart := false, narrowed := true }
def FnExactNewestOfUptoSaid : Prop := fnExactNewestOfUptoRow.holds Try.pinned (OpenSpec.upto fnExactNewestOfSpec)

/-- 'laws.FnCounters', WHERE WHAT IT READS IS OF BULK AT MOST 1048576: true; the input reads as it did. -/
def fnCountersUptoRow : OpenClaim := { program := "ytkbhmikjnoncfaa", sum := "4b5efe1b630cd101bb9cf6a39bb1f6d4296ccdbddc7dd8c8b3f44de511596eac", func := "loop.example/g00300/laws.FnCounters", spec := "fnCounters", unfollowed := true, recurses := true, apart := false, narrowed := true }
def FnCountersUptoSaid : Prop := fnCountersUptoRow.holds Try.pinned (OpenSpec.upto fnCountersSpec)

end Rows
end Go.Proofs.Ytkbhmikjnoncfaa
