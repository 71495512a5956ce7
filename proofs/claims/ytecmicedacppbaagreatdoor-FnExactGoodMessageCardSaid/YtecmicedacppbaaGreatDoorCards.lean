/-
  DERIVED. GIVEN WITH THE SEED: THE CARDS: each row of YtecmicedacppbaaGreatDoorRows.lean that lists a variable, with what it lists TIED to the program's text (the seventh form; the later family's looks); each row that meets fmt, with fmt's text TOLD by the authors' own Lean function (tested against real Go, not proved from fmt's source: count such statements apart). THE CARD IS WHAT COUNTS. Prove the row's statement (the work); the ties are given (YtecmicedacppbaaGreatDoorTie.lean); close each card by the builder's one call (the guide's Derived/Test/ToyasCard.lean, 'card_holds'). Laid BY PROGRAM, IN A SANDBOX (cutbox-door.mjs). By AI agents, Wed Nov 11 2026. No macro, syntax, notation, axiom, sorry.
-/
import Derived.Test.YtecmicedacppbaaGreatDoorRows
import GoSem.ClaimSeven
namespace Go.Proofs.YtecmicedacppbaaGreatDoor
namespace Rows

/-- THE TIED CARD OF 'laws.FnExactCompareRecords'. -/
def fnExactCompareRecordsCard : Claim7 := { stood := { row := fnExactCompareRecordsRow, standIns := [], harness := (true, "d38dfcd9b57e91dac5ffacb1fdc1fcca323504fce7d22f652f40099a020b9ac0"), looks := true }, kinds := [], alts := [], laidByText := true, laidKinds := [.data, .data, .data, .data, .sentinel, .sentinel, .pinned], laidTests := true, laidLooks := .later }
def FnExactCompareRecordsCardSaid : Prop := Claim7.holds Tryz.pinned (.plain (OpenSpec.ofChange fnExactCompareRecordsSpec)) fnExactCompareRecordsCard

/-- THE TIED CARD OF 'laws.FnExactGoodMessage'. -/
def fnExactGoodMessageCard : Claim7 := { stood := { row := fnExactGoodMessageRow, standIns := [], harness := (true, "d38dfcd9b57e91dac5ffacb1fdc1fcca323504fce7d22f652f40099a020b9ac0"), looks := true }, kinds := [], alts := [], laidByText := true, laidKinds := [.data, .data, .data, .data, .sentinel, .sentinel, .pinned], laidTests := true, laidLooks := .later }
def FnExactGoodMessageCardSaid : Prop := Claim7.holds Tryz.pinned (.plain (OpenSpec.ofChange fnExactGoodMessageSpec)) fnExactGoodMessageCard

/-- THE TIED CARD OF 'laws.FnExactReadData'. -/
def fnExactReadDataCard : Claim7 := { stood := { row := fnExactReadDataRow, standIns := [], harness := (true, "d38dfcd9b57e91dac5ffacb1fdc1fcca323504fce7d22f652f40099a020b9ac0"), looks := true }, kinds := [], alts := [], laidByText := true, laidKinds := [.data, .data, .data, .data, .sentinel, .sentinel, .pinned], laidTests := true, laidLooks := .later }
def FnExactReadDataCardSaid : Prop := Claim7.holds Tryz.pinned (.plain (OpenSpec.ofChange fnExactReadDataSpec)) fnExactReadDataCard

/-- THE SECOND FORM's CARD OF 'laws.FnExactCompareRecords'. -/
def fnExactCompareRecordsUptoCard : Claim7 := { stood := { row := fnExactCompareRecordsUptoRow, standIns := [], harness := (true, "d38dfcd9b57e91dac5ffacb1fdc1fcca323504fce7d22f652f40099a020b9ac0"), looks := true }, kinds := [], alts := [], laidByText := true, laidKinds := [.data, .data, .data, .data, .sentinel, .sentinel, .pinned], laidTests := true, laidLooks := .later }
def FnExactCompareRecordsUptoCardSaid : Prop := Claim7.holds Tryz.pinned (.plain (OpenSpec.upto fnExactCompareRecordsSpec)) fnExactCompareRecordsUptoCard

/-- THE SECOND FORM's CARD OF 'laws.FnExactGoodMessage'. -/
def fnExactGoodMessageUptoCard : Claim7 := { stood := { row := fnExactGoodMessageUptoRow, standIns := [], harness := (true, "d38dfcd9b57e91dac5ffacb1fdc1fcca323504fce7d22f652f40099a020b9ac0"), looks := true }, kinds := [], alts := [], laidByText := true, laidKinds := [.data, .data, .data, .data, .sentinel, .sentinel, .pinned], laidTests := true, laidLooks := .later }
def FnExactGoodMessageUptoCardSaid : Prop := Claim7.holds Tryz.pinned (.plain (OpenSpec.upto fnExactGoodMessageSpec)) fnExactGoodMessageUptoCard

/-- THE SECOND FORM's CARD OF 'laws.FnExactReadData'. -/
def fnExactReadDataUptoCard : Claim7 := { stood := { row := fnExactReadDataUptoRow, standIns := [], harness := (true, "d38dfcd9b57e91dac5ffacb1fdc1fcca323504fce7d22f652f40099a020b9ac0"), looks := true }, kinds := [], alts := [], laidByText := true, laidKinds := [.data, .data, .data, .data, .sentinel, .sentinel, .pinned], laidTests := true, laidLooks := .later }
def FnExactReadDataUptoCardSaid : Prop := Claim7.holds Tryz.pinned (.plain (OpenSpec.upto fnExactReadDataSpec)) fnExactReadDataUptoCard
end Rows
end Go.Proofs.YtecmicedacppbaaGreatDoor
