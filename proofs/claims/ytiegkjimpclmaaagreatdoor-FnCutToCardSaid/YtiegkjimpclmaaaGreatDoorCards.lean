/-
  DERIVED. GIVEN WITH THE SEED: THE CARDS: each row of YtiegkjimpclmaaaGreatDoorRows.lean that lists a variable, with what it lists TIED to the program's text (the seventh form; the later family's looks); each row that meets fmt, with fmt's text TOLD by the authors' own Lean function (tested against real Go, not proved from fmt's source: count such statements apart). THE CARD IS WHAT COUNTS. Prove the row's statement (the work); the ties are given (YtiegkjimpclmaaaGreatDoorTie.lean); close each card by the builder's one call (the guide's Derived/Test/ToyasCard.lean, 'card_holds'). Laid BY PROGRAM, IN A SANDBOX (cutbox-door.mjs). By AI agents, Wed Nov 11 2026. No macro, syntax, notation, axiom, sorry.
-/
import Derived.Test.YtiegkjimpclmaaaGreatDoorRows
import GoSem.ClaimSeven
namespace Go.Proofs.YtiegkjimpclmaaaGreatDoor
namespace Rows

/-- THE TIED CARD OF 'laws.FnExactReadData'. -/
def fnExactReadDataCard : Claim7 := { stood := { row := fnExactReadDataRow, standIns := [], harness := (true, "fbcdb989a8a76087842253439633f0b8c15ac042e57908a57c0832ad55c01f15"), looks := true }, kinds := [], alts := [], laidByText := true, laidKinds := [.data, .data, .data, .data, .sentinel, .sentinel, .pinned], laidTests := true, laidLooks := .later }
def FnExactReadDataCardSaid : Prop := Claim7.holds Tryz.pinned (.plain (OpenSpec.ofChange fnExactReadDataSpec)) fnExactReadDataCard

/-- THE TIED CARD OF 'laws.FnExactRecordsOf'. -/
def fnExactRecordsOfCard : Claim7 := { stood := { row := fnExactRecordsOfRow, standIns := [], harness := (true, "fbcdb989a8a76087842253439633f0b8c15ac042e57908a57c0832ad55c01f15"), looks := true }, kinds := [], alts := [], laidByText := true, laidKinds := [.data, .data, .data, .data, .sentinel, .sentinel, .pinned], laidTests := true, laidLooks := .later }
def FnExactRecordsOfCardSaid : Prop := Claim7.holds Tryz.pinned (.plain (OpenSpec.ofChange fnExactRecordsOfSpec)) fnExactRecordsOfCard

/-- THE TIED CARD OF 'laws.FnExactSetsOf'. -/
def fnExactSetsOfCard : Claim7 := { stood := { row := fnExactSetsOfRow, standIns := [], harness := (true, "fbcdb989a8a76087842253439633f0b8c15ac042e57908a57c0832ad55c01f15"), looks := true }, kinds := [], alts := [], laidByText := true, laidKinds := [.data, .data, .data, .data, .sentinel, .sentinel, .pinned], laidTests := true, laidLooks := .later }
def FnExactSetsOfCardSaid : Prop := Claim7.holds Tryz.pinned (.plain (OpenSpec.ofChange fnExactSetsOfSpec)) fnExactSetsOfCard

/-- THE TIED CARD OF 'laws.FnRecords'. -/
def fnRecordsCard : Claim7 := { stood := { row := fnRecordsRow, standIns := [], harness := (true, "fbcdb989a8a76087842253439633f0b8c15ac042e57908a57c0832ad55c01f15"), looks := true }, kinds := [], alts := [], laidByText := true, laidKinds := [.data, .data, .data, .data, .sentinel, .sentinel, .pinned], laidTests := true, laidLooks := .later }
def FnRecordsCardSaid : Prop := Claim7.holds Tryz.pinned (.plain (OpenSpec.ofChange fnRecordsSpec)) fnRecordsCard

/-- THE TIED CARD OF 'laws.FnExactCutMessage'. -/
def fnExactCutMessageCard : Claim7 := { stood := { row := fnExactCutMessageRow, standIns := [], harness := (true, "fbcdb989a8a76087842253439633f0b8c15ac042e57908a57c0832ad55c01f15"), looks := true }, kinds := [], alts := [], laidByText := true, laidKinds := [.data, .data, .data, .data, .sentinel, .sentinel, .pinned], laidTests := true, laidLooks := .later }
def FnExactCutMessageCardSaid : Prop := Claim7.holds Tryz.pinned (.plain (OpenSpec.ofChange fnExactCutMessageSpec)) fnExactCutMessageCard

/-- THE TIED CARD OF 'laws.FnSets'. -/
def fnSetsCard : Claim7 := { stood := { row := fnSetsRow, standIns := [], harness := (true, "fbcdb989a8a76087842253439633f0b8c15ac042e57908a57c0832ad55c01f15"), looks := true }, kinds := [], alts := [], laidByText := true, laidKinds := [.data, .data, .data, .data, .sentinel, .sentinel, .pinned], laidTests := true, laidLooks := .later }
def FnSetsCardSaid : Prop := Claim7.holds Tryz.pinned (.plain (OpenSpec.ofChange fnSetsSpec)) fnSetsCard

/-- THE TIED CARD OF 'laws.FnCutTo'. -/
def fnCutToCard : Claim7 := { stood := { row := fnCutToRow, standIns := [], harness := (true, "fbcdb989a8a76087842253439633f0b8c15ac042e57908a57c0832ad55c01f15"), looks := true }, kinds := [], alts := [], laidByText := true, laidKinds := [.data, .data, .data, .data, .sentinel, .sentinel, .pinned], laidTests := true, laidLooks := .later }
def FnCutToCardSaid : Prop := Claim7.holds Tryz.pinned (.plain (OpenSpec.ofChange fnCutToSpec)) fnCutToCard

/-- THE SECOND FORM's CARD OF 'laws.FnExactReadData'. -/
def fnExactReadDataUptoCard : Claim7 := { stood := { row := fnExactReadDataUptoRow, standIns := [], harness := (true, "fbcdb989a8a76087842253439633f0b8c15ac042e57908a57c0832ad55c01f15"), looks := true }, kinds := [], alts := [], laidByText := true, laidKinds := [.data, .data, .data, .data, .sentinel, .sentinel, .pinned], laidTests := true, laidLooks := .later }
def FnExactReadDataUptoCardSaid : Prop := Claim7.holds Tryz.pinned (.plain (OpenSpec.upto fnExactReadDataSpec)) fnExactReadDataUptoCard

/-- THE SECOND FORM's CARD OF 'laws.FnExactRecordsOf'. -/
def fnExactRecordsOfUptoCard : Claim7 := { stood := { row := fnExactRecordsOfUptoRow, standIns := [], harness := (true, "fbcdb989a8a76087842253439633f0b8c15ac042e57908a57c0832ad55c01f15"), looks := true }, kinds := [], alts := [], laidByText := true, laidKinds := [.data, .data, .data, .data, .sentinel, .sentinel, .pinned], laidTests := true, laidLooks := .later }
def FnExactRecordsOfUptoCardSaid : Prop := Claim7.holds Tryz.pinned (.plain (OpenSpec.upto fnExactRecordsOfSpec)) fnExactRecordsOfUptoCard

/-- THE SECOND FORM's CARD OF 'laws.FnExactSetsOf'. -/
def fnExactSetsOfUptoCard : Claim7 := { stood := { row := fnExactSetsOfUptoRow, standIns := [], harness := (true, "fbcdb989a8a76087842253439633f0b8c15ac042e57908a57c0832ad55c01f15"), looks := true }, kinds := [], alts := [], laidByText := true, laidKinds := [.data, .data, .data, .data, .sentinel, .sentinel, .pinned], laidTests := true, laidLooks := .later }
def FnExactSetsOfUptoCardSaid : Prop := Claim7.holds Tryz.pinned (.plain (OpenSpec.upto fnExactSetsOfSpec)) fnExactSetsOfUptoCard

/-- THE SECOND FORM's CARD OF 'laws.FnRecords'. -/
def fnRecordsUptoCard : Claim7 := { stood := { row := fnRecordsUptoRow, standIns := [], harness := (true, "fbcdb989a8a76087842253439633f0b8c15ac042e57908a57c0832ad55c01f15"), looks := true }, kinds := [], alts := [], laidByText := true, laidKinds := [.data, .data, .data, .data, .sentinel, .sentinel, .pinned], laidTests := true, laidLooks := .later }
def FnRecordsUptoCardSaid : Prop := Claim7.holds Tryz.pinned (.plain (OpenSpec.upto fnRecordsSpec)) fnRecordsUptoCard

/-- THE SECOND FORM's CARD OF 'laws.FnExactCutMessage'. -/
def fnExactCutMessageUptoCard : Claim7 := { stood := { row := fnExactCutMessageUptoRow, standIns := [], harness := (true, "fbcdb989a8a76087842253439633f0b8c15ac042e57908a57c0832ad55c01f15"), looks := true }, kinds := [], alts := [], laidByText := true, laidKinds := [.data, .data, .data, .data, .sentinel, .sentinel, .pinned], laidTests := true, laidLooks := .later }
def FnExactCutMessageUptoCardSaid : Prop := Claim7.holds Tryz.pinned (.plain (OpenSpec.upto fnExactCutMessageSpec)) fnExactCutMessageUptoCard

/-- THE SECOND FORM's CARD OF 'laws.FnSets'. -/
def fnSetsUptoCard : Claim7 := { stood := { row := fnSetsUptoRow, standIns := [], harness := (true, "fbcdb989a8a76087842253439633f0b8c15ac042e57908a57c0832ad55c01f15"), looks := true }, kinds := [], alts := [], laidByText := true, laidKinds := [.data, .data, .data, .data, .sentinel, .sentinel, .pinned], laidTests := true, laidLooks := .later }
def FnSetsUptoCardSaid : Prop := Claim7.holds Tryz.pinned (.plain (OpenSpec.upto fnSetsSpec)) fnSetsUptoCard

/-- THE SECOND FORM's CARD OF 'laws.FnCutTo'. -/
def fnCutToUptoCard : Claim7 := { stood := { row := fnCutToUptoRow, standIns := [], harness := (true, "fbcdb989a8a76087842253439633f0b8c15ac042e57908a57c0832ad55c01f15"), looks := true }, kinds := [], alts := [], laidByText := true, laidKinds := [.data, .data, .data, .data, .sentinel, .sentinel, .pinned], laidTests := true, laidLooks := .later }
def FnCutToUptoCardSaid : Prop := Claim7.holds Tryz.pinned (.plain (OpenSpec.upto fnCutToSpec)) fnCutToUptoCard
end Rows
end Go.Proofs.YtiegkjimpclmaaaGreatDoor
