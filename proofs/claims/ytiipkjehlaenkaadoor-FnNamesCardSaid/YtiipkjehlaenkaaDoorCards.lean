/-
  DERIVED. GIVEN WITH THE SEED: THE CARDS: each row of YtiipkjehlaenkaaDoorRows.lean that lists a variable, with what it lists TIED to the program's text (the seventh form; the later family's looks); each row that meets fmt, with fmt's text TOLD by the authors' own Lean function (tested against real Go, not proved from fmt's source: count such statements apart). THE CARD IS WHAT COUNTS. Prove the row's statement (the work); the ties are given (YtiipkjehlaenkaaDoorTie.lean); close each card by the builder's one call (the guide's Derived/Test/ToyasCard.lean, 'card_holds'). Laid BY PROGRAM, IN A SANDBOX (cutbox-door.mjs). By AI agents, Wed Nov 11 2026. No macro, syntax, notation, axiom, sorry.
-/
import Derived.Test.YtiipkjehlaenkaaDoorRows
import GoSem.ClaimSeven
namespace Go.Proofs.YtiipkjehlaenkaaDoor
namespace Rows

/-- THE TIED CARD OF 'laws.FnExactCompareNames'. -/
def fnExactCompareNamesCard : Claim7 := { stood := { row := fnExactCompareNamesRow, standIns := [], harness := (true, "a667052d8b674a6731e1ed668e4f6ac0fa471e68d87e9779da29d48d7303c3a7"), looks := false }, kinds := [], alts := [], laidByText := true, laidKinds := [.data, .pinned], laidTests := true, laidLooks := .later }
def FnExactCompareNamesCardSaid : Prop := Claim7.holds Tryd.pinned (.plain (OpenSpec.ofChange fnExactCompareNamesSpec)) fnExactCompareNamesCard

/-- THE TIED CARD OF 'laws.FnCommon'. -/
def fnCommonCard : Claim7 := { stood := { row := fnCommonRow, standIns := [], harness := (true, "a667052d8b674a6731e1ed668e4f6ac0fa471e68d87e9779da29d48d7303c3a7"), looks := false }, kinds := [], alts := [], laidByText := true, laidKinds := [.data, .pinned], laidTests := true, laidLooks := .later }
def FnCommonCardSaid : Prop := Claim7.holds Tryd.pinned (.plain (OpenSpec.ofChange fnCommonSpec)) fnCommonCard

/-- THE TIED CARD OF 'laws.FnExactNameOf'. -/
def fnExactNameOfCard : Claim7 := { stood := { row := fnExactNameOfRow, standIns := [], harness := (true, "a667052d8b674a6731e1ed668e4f6ac0fa471e68d87e9779da29d48d7303c3a7"), looks := false }, kinds := [], alts := [], laidByText := true, laidKinds := [.data, .pinned], laidTests := true, laidLooks := .later }
def FnExactNameOfCardSaid : Prop := Claim7.holds Tryd.pinned (.plain (OpenSpec.ofChange fnExactNameOfSpec)) fnExactNameOfCard

/-- THE TIED CARD OF 'laws.FnNames'. -/
def fnNamesCard : Claim7 := { stood := { row := fnNamesRow, standIns := [], harness := (true, "a667052d8b674a6731e1ed668e4f6ac0fa471e68d87e9779da29d48d7303c3a7"), looks := false }, kinds := [], alts := [], laidByText := true, laidKinds := [.data, .pinned], laidTests := true, laidLooks := .later }
def FnNamesCardSaid : Prop := Claim7.holds Tryd.pinned (.plain (OpenSpec.ofChange fnNamesSpec)) fnNamesCard

/-- THE TIED CARD OF 'laws.FnExactSortNames'. -/
def fnExactSortNamesCard : Claim7 := { stood := { row := fnExactSortNamesRow, standIns := [], harness := (true, "a667052d8b674a6731e1ed668e4f6ac0fa471e68d87e9779da29d48d7303c3a7"), looks := false }, kinds := [], alts := [], laidByText := true, laidKinds := [.data, .pinned], laidTests := true, laidLooks := .later }
def FnExactSortNamesCardSaid : Prop := Claim7.holds Tryd.pinned (.plain (OpenSpec.ofChange fnExactSortNamesSpec)) fnExactSortNamesCard

/-- THE TIED CARD OF 'laws.FnCanon'. -/
def fnCanonCard : Claim7 := { stood := { row := fnCanonRow, standIns := [], harness := (true, "a667052d8b674a6731e1ed668e4f6ac0fa471e68d87e9779da29d48d7303c3a7"), looks := false }, kinds := [], alts := [], laidByText := true, laidKinds := [.data, .pinned], laidTests := true, laidLooks := .later }
def FnCanonCardSaid : Prop := Claim7.holds Tryd.pinned (.plain (OpenSpec.ofChange fnCanonSpec)) fnCanonCard

/-- THE SECOND FORM's CARD OF 'laws.FnExactCompareNames'. -/
def fnExactCompareNamesUptoCard : Claim7 := { stood := { row := fnExactCompareNamesUptoRow, standIns := [], harness := (true, "a667052d8b674a6731e1ed668e4f6ac0fa471e68d87e9779da29d48d7303c3a7"), looks := false }, kinds := [], alts := [], laidByText := true, laidKinds := [.data, .pinned], laidTests := true, laidLooks := .later }
def FnExactCompareNamesUptoCardSaid : Prop := Claim7.holds Tryd.pinned (.plain (OpenSpec.upto fnExactCompareNamesSpec)) fnExactCompareNamesUptoCard

/-- THE SECOND FORM's CARD OF 'laws.FnCommon'. -/
def fnCommonUptoCard : Claim7 := { stood := { row := fnCommonUptoRow, standIns := [], harness := (true, "a667052d8b674a6731e1ed668e4f6ac0fa471e68d87e9779da29d48d7303c3a7"), looks := false }, kinds := [], alts := [], laidByText := true, laidKinds := [.data, .pinned], laidTests := true, laidLooks := .later }
def FnCommonUptoCardSaid : Prop := Claim7.holds Tryd.pinned (.plain (OpenSpec.upto fnCommonSpec)) fnCommonUptoCard

/-- THE SECOND FORM's CARD OF 'laws.FnExactNameOf'. -/
def fnExactNameOfUptoCard : Claim7 := { stood := { row := fnExactNameOfUptoRow, standIns := [], harness := (true, "a667052d8b674a6731e1ed668e4f6ac0fa471e68d87e9779da29d48d7303c3a7"), looks := false }, kinds := [], alts := [], laidByText := true, laidKinds := [.data, .pinned], laidTests := true, laidLooks := .later }
def FnExactNameOfUptoCardSaid : Prop := Claim7.holds Tryd.pinned (.plain (OpenSpec.upto fnExactNameOfSpec)) fnExactNameOfUptoCard

/-- THE SECOND FORM's CARD OF 'laws.FnNames'. -/
def fnNamesUptoCard : Claim7 := { stood := { row := fnNamesUptoRow, standIns := [], harness := (true, "a667052d8b674a6731e1ed668e4f6ac0fa471e68d87e9779da29d48d7303c3a7"), looks := false }, kinds := [], alts := [], laidByText := true, laidKinds := [.data, .pinned], laidTests := true, laidLooks := .later }
def FnNamesUptoCardSaid : Prop := Claim7.holds Tryd.pinned (.plain (OpenSpec.upto fnNamesSpec)) fnNamesUptoCard

/-- THE SECOND FORM's CARD OF 'laws.FnExactSortNames'. -/
def fnExactSortNamesUptoCard : Claim7 := { stood := { row := fnExactSortNamesUptoRow, standIns := [], harness := (true, "a667052d8b674a6731e1ed668e4f6ac0fa471e68d87e9779da29d48d7303c3a7"), looks := false }, kinds := [], alts := [], laidByText := true, laidKinds := [.data, .pinned], laidTests := true, laidLooks := .later }
def FnExactSortNamesUptoCardSaid : Prop := Claim7.holds Tryd.pinned (.plain (OpenSpec.upto fnExactSortNamesSpec)) fnExactSortNamesUptoCard

/-- THE SECOND FORM's CARD OF 'laws.FnCanon'. -/
def fnCanonUptoCard : Claim7 := { stood := { row := fnCanonUptoRow, standIns := [], harness := (true, "a667052d8b674a6731e1ed668e4f6ac0fa471e68d87e9779da29d48d7303c3a7"), looks := false }, kinds := [], alts := [], laidByText := true, laidKinds := [.data, .pinned], laidTests := true, laidLooks := .later }
def FnCanonUptoCardSaid : Prop := Claim7.holds Tryd.pinned (.plain (OpenSpec.upto fnCanonSpec)) fnCanonUptoCard
end Rows
end Go.Proofs.YtiipkjehlaenkaaDoor
