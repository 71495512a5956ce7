/-
  DERIVED. GIVEN WITH THE SEED: THE CARDS: each row of YtkpkfallgjdkmaaGreatDoorRows.lean that lists a variable, with what it lists TIED to the program's text (the seventh form; the later family's looks); each row that meets fmt, with fmt's text TOLD by the authors' own Lean function (tested against real Go, not proved from fmt's source: count such statements apart). THE CARD IS WHAT COUNTS. Prove the row's statement (the work); the ties are given (YtkpkfallgjdkmaaGreatDoorTie.lean); close each card by the builder's one call (the guide's Derived/Test/ToyasCard.lean, 'card_holds'). Laid BY PROGRAM, IN A SANDBOX (cutbox-door.mjs). By AI agents, Wed Nov 11 2026. No macro, syntax, notation, axiom, sorry.
-/
import Derived.Test.YtkpkfallgjdkmaaGreatDoorRows
import GoSem.ClaimSeven
namespace Go.Proofs.YtkpkfallgjdkmaaGreatDoor
namespace Rows

/-- THE TIED CARD OF 'laws.FnExactQuestionFor'. -/
def fnExactQuestionForCard : Claim7 := { stood := { row := fnExactQuestionForRow, standIns := [], harness := (true, "7a06ff88be4fc83b247ff15b1e1d59364a5530d251962b18afa91cbd1d8708d5"), looks := true }, kinds := [], alts := [], laidByText := true, laidKinds := [.data, .data, .data, .data, .sentinel, .sentinel, .pinned], laidTests := true, laidLooks := .later }
def FnExactQuestionForCardSaid : Prop := Claim7.holds Tryz.pinned (.plain (OpenSpec.ofChange fnExactQuestionForSpec)) fnExactQuestionForCard

/-- THE TIED CARD OF 'laws.FnExactReplyTo'. -/
def fnExactReplyToCard : Claim7 := { stood := { row := fnExactReplyToRow, standIns := [], harness := (true, "7a06ff88be4fc83b247ff15b1e1d59364a5530d251962b18afa91cbd1d8708d5"), looks := true }, kinds := [], alts := [], laidByText := true, laidKinds := [.data, .data, .data, .data, .sentinel, .sentinel, .pinned], laidTests := true, laidLooks := .later }
def FnExactReplyToCardSaid : Prop := Claim7.holds Tryz.pinned (.plain (OpenSpec.ofChange fnExactReplyToSpec)) fnExactReplyToCard

/-- THE TIED CARD OF 'laws.FnExactNewZone'. -/
def fnExactNewZoneCard : Claim7 := { stood := { row := fnExactNewZoneRow, standIns := [], harness := (true, "7a06ff88be4fc83b247ff15b1e1d59364a5530d251962b18afa91cbd1d8708d5"), looks := true }, kinds := [], alts := [], laidByText := true, laidKinds := [.data, .data, .data, .data, .sentinel, .sentinel, .pinned], laidTests := true, laidLooks := .later }
def FnExactNewZoneCardSaid : Prop := Claim7.holds Tryz.pinned (.plain (OpenSpec.ofChange fnExactNewZoneSpec)) fnExactNewZoneCard

/-- THE TIED CARD OF 'laws.FnExactRuleOf'. -/
def fnExactRuleOfCard : Claim7 := { stood := { row := fnExactRuleOfRow, standIns := [], harness := (true, "7a06ff88be4fc83b247ff15b1e1d59364a5530d251962b18afa91cbd1d8708d5"), looks := true }, kinds := [], alts := [], laidByText := true, laidKinds := [.data, .data, .data, .data, .sentinel, .sentinel, .pinned], laidTests := true, laidLooks := .later }
def FnExactRuleOfCardSaid : Prop := Claim7.holds Tryz.pinned (.plain (OpenSpec.ofChange fnExactRuleOfSpec)) fnExactRuleOfCard

/-- THE TIED CARD OF 'laws.FnExactGoodZone'. -/
def fnExactGoodZoneCard : Claim7 := { stood := { row := fnExactGoodZoneRow, standIns := [], harness := (true, "7a06ff88be4fc83b247ff15b1e1d59364a5530d251962b18afa91cbd1d8708d5"), looks := true }, kinds := [], alts := [], laidByText := true, laidKinds := [.data, .data, .data, .data, .sentinel, .sentinel, .pinned], laidTests := true, laidLooks := .later }
def FnExactGoodZoneCardSaid : Prop := Claim7.holds Tryz.pinned (.plain (OpenSpec.ofChange fnExactGoodZoneSpec)) fnExactGoodZoneCard

/-- THE TIED CARD OF 'laws.FnExactSerialIn'. -/
def fnExactSerialInCard : Claim7 := { stood := { row := fnExactSerialInRow, standIns := [], harness := (true, "7a06ff88be4fc83b247ff15b1e1d59364a5530d251962b18afa91cbd1d8708d5"), looks := true }, kinds := [], alts := [], laidByText := true, laidKinds := [.data, .data, .data, .data, .sentinel, .sentinel, .pinned], laidTests := true, laidLooks := .later }
def FnExactSerialInCardSaid : Prop := Claim7.holds Tryz.pinned (.plain (OpenSpec.ofChange fnExactSerialInSpec)) fnExactSerialInCard

/-- THE TIED CARD OF 'laws.FnExactZoneText'. -/
def fnExactZoneTextCard : Claim7 := { stood := { row := fnExactZoneTextRow, standIns := [], harness := (true, "7a06ff88be4fc83b247ff15b1e1d59364a5530d251962b18afa91cbd1d8708d5"), looks := true }, kinds := [], alts := [], laidByText := true, laidKinds := [.data, .data, .data, .data, .sentinel, .sentinel, .pinned], laidTests := true, laidLooks := .later }
def FnExactZoneTextCardSaid : Prop := Claim7.holds Tryz.pinned (.plain (OpenSpec.ofChange fnExactZoneTextSpec)) fnExactZoneTextCard

/-- THE TIED CARD OF 'laws.FnExactSetIn'. -/
def fnExactSetInCard : Claim7 := { stood := { row := fnExactSetInRow, standIns := [], harness := (true, "7a06ff88be4fc83b247ff15b1e1d59364a5530d251962b18afa91cbd1d8708d5"), looks := true }, kinds := [], alts := [], laidByText := true, laidKinds := [.data, .data, .data, .data, .sentinel, .sentinel, .pinned], laidTests := true, laidLooks := .later }
def FnExactSetInCardSaid : Prop := Claim7.holds Tryz.pinned (.plain (OpenSpec.ofChange fnExactSetInSpec)) fnExactSetInCard

/-- THE TIED CARD OF 'laws.FnExactNamesIn'. -/
def fnExactNamesInCard : Claim7 := { stood := { row := fnExactNamesInRow, standIns := [], harness := (true, "7a06ff88be4fc83b247ff15b1e1d59364a5530d251962b18afa91cbd1d8708d5"), looks := true }, kinds := [], alts := [], laidByText := true, laidKinds := [.data, .data, .data, .data, .sentinel, .sentinel, .pinned], laidTests := true, laidLooks := .later }
def FnExactNamesInCardSaid : Prop := Claim7.holds Tryz.pinned (.plain (OpenSpec.ofChange fnExactNamesInSpec)) fnExactNamesInCard

/-- THE SECOND FORM's CARD OF 'laws.FnExactQuestionFor'. -/
def fnExactQuestionForUptoCard : Claim7 := { stood := { row := fnExactQuestionForUptoRow, standIns := [], harness := (true, "7a06ff88be4fc83b247ff15b1e1d59364a5530d251962b18afa91cbd1d8708d5"), looks := true }, kinds := [], alts := [], laidByText := true, laidKinds := [.data, .data, .data, .data, .sentinel, .sentinel, .pinned], laidTests := true, laidLooks := .later }
def FnExactQuestionForUptoCardSaid : Prop := Claim7.holds Tryz.pinned (.plain (OpenSpec.upto fnExactQuestionForSpec)) fnExactQuestionForUptoCard

/-- THE SECOND FORM's CARD OF 'laws.FnExactReplyTo'. -/
def fnExactReplyToUptoCard : Claim7 := { stood := { row := fnExactReplyToUptoRow, standIns := [], harness := (true, "7a06ff88be4fc83b247ff15b1e1d59364a5530d251962b18afa91cbd1d8708d5"), looks := true }, kinds := [], alts := [], laidByText := true, laidKinds := [.data, .data, .data, .data, .sentinel, .sentinel, .pinned], laidTests := true, laidLooks := .later }
def FnExactReplyToUptoCardSaid : Prop := Claim7.holds Tryz.pinned (.plain (OpenSpec.upto fnExactReplyToSpec)) fnExactReplyToUptoCard

/-- THE SECOND FORM's CARD OF 'laws.FnExactNewZone'. -/
def fnExactNewZoneUptoCard : Claim7 := { stood := { row := fnExactNewZoneUptoRow, standIns := [], harness := (true, "7a06ff88be4fc83b247ff15b1e1d59364a5530d251962b18afa91cbd1d8708d5"), looks := true }, kinds := [], alts := [], laidByText := true, laidKinds := [.data, .data, .data, .data, .sentinel, .sentinel, .pinned], laidTests := true, laidLooks := .later }
def FnExactNewZoneUptoCardSaid : Prop := Claim7.holds Tryz.pinned (.plain (OpenSpec.upto fnExactNewZoneSpec)) fnExactNewZoneUptoCard

/-- THE SECOND FORM's CARD OF 'laws.FnExactRuleOf'. -/
def fnExactRuleOfUptoCard : Claim7 := { stood := { row := fnExactRuleOfUptoRow, standIns := [], harness := (true, "7a06ff88be4fc83b247ff15b1e1d59364a5530d251962b18afa91cbd1d8708d5"), looks := true }, kinds := [], alts := [], laidByText := true, laidKinds := [.data, .data, .data, .data, .sentinel, .sentinel, .pinned], laidTests := true, laidLooks := .later }
def FnExactRuleOfUptoCardSaid : Prop := Claim7.holds Tryz.pinned (.plain (OpenSpec.upto fnExactRuleOfSpec)) fnExactRuleOfUptoCard

/-- THE SECOND FORM's CARD OF 'laws.FnExactGoodZone'. -/
def fnExactGoodZoneUptoCard : Claim7 := { stood := { row := fnExactGoodZoneUptoRow, standIns := [], harness := (true, "7a06ff88be4fc83b247ff15b1e1d59364a5530d251962b18afa91cbd1d8708d5"), looks := true }, kinds := [], alts := [], laidByText := true, laidKinds := [.data, .data, .data, .data, .sentinel, .sentinel, .pinned], laidTests := true, laidLooks := .later }
def FnExactGoodZoneUptoCardSaid : Prop := Claim7.holds Tryz.pinned (.plain (OpenSpec.upto fnExactGoodZoneSpec)) fnExactGoodZoneUptoCard

/-- THE SECOND FORM's CARD OF 'laws.FnExactSerialIn'. -/
def fnExactSerialInUptoCard : Claim7 := { stood := { row := fnExactSerialInUptoRow, standIns := [], harness := (true, "7a06ff88be4fc83b247ff15b1e1d59364a5530d251962b18afa91cbd1d8708d5"), looks := true }, kinds := [], alts := [], laidByText := true, laidKinds := [.data, .data, .data, .data, .sentinel, .sentinel, .pinned], laidTests := true, laidLooks := .later }
def FnExactSerialInUptoCardSaid : Prop := Claim7.holds Tryz.pinned (.plain (OpenSpec.upto fnExactSerialInSpec)) fnExactSerialInUptoCard

/-- THE SECOND FORM's CARD OF 'laws.FnExactZoneText'. -/
def fnExactZoneTextUptoCard : Claim7 := { stood := { row := fnExactZoneTextUptoRow, standIns := [], harness := (true, "7a06ff88be4fc83b247ff15b1e1d59364a5530d251962b18afa91cbd1d8708d5"), looks := true }, kinds := [], alts := [], laidByText := true, laidKinds := [.data, .data, .data, .data, .sentinel, .sentinel, .pinned], laidTests := true, laidLooks := .later }
def FnExactZoneTextUptoCardSaid : Prop := Claim7.holds Tryz.pinned (.plain (OpenSpec.upto fnExactZoneTextSpec)) fnExactZoneTextUptoCard

/-- THE SECOND FORM's CARD OF 'laws.FnExactSetIn'. -/
def fnExactSetInUptoCard : Claim7 := { stood := { row := fnExactSetInUptoRow, standIns := [], harness := (true, "7a06ff88be4fc83b247ff15b1e1d59364a5530d251962b18afa91cbd1d8708d5"), looks := true }, kinds := [], alts := [], laidByText := true, laidKinds := [.data, .data, .data, .data, .sentinel, .sentinel, .pinned], laidTests := true, laidLooks := .later }
def FnExactSetInUptoCardSaid : Prop := Claim7.holds Tryz.pinned (.plain (OpenSpec.upto fnExactSetInSpec)) fnExactSetInUptoCard

/-- THE SECOND FORM's CARD OF 'laws.FnExactNamesIn'. -/
def fnExactNamesInUptoCard : Claim7 := { stood := { row := fnExactNamesInUptoRow, standIns := [], harness := (true, "7a06ff88be4fc83b247ff15b1e1d59364a5530d251962b18afa91cbd1d8708d5"), looks := true }, kinds := [], alts := [], laidByText := true, laidKinds := [.data, .data, .data, .data, .sentinel, .sentinel, .pinned], laidTests := true, laidLooks := .later }
def FnExactNamesInUptoCardSaid : Prop := Claim7.holds Tryz.pinned (.plain (OpenSpec.upto fnExactNamesInSpec)) fnExactNamesInUptoCard
end Rows
end Go.Proofs.YtkpkfallgjdkmaaGreatDoor
