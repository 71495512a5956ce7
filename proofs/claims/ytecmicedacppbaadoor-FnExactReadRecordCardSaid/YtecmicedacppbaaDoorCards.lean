/-
  DERIVED. GIVEN WITH THE SEED: THE CARDS: each row of YtecmicedacppbaaDoorRows.lean that lists a variable, with what it lists TIED to the program's text (the seventh form; the later family's looks); each row that meets fmt, with fmt's text TOLD by the authors' own Lean function (tested against real Go, not proved from fmt's source: count such statements apart). THE CARD IS WHAT COUNTS. Prove the row's statement (the work); the ties are given (YtecmicedacppbaaDoorTie.lean); close each card by the builder's one call (the guide's Derived/Test/ToyasCard.lean, 'card_holds'). Laid BY PROGRAM, IN A SANDBOX (cutbox-door.mjs). By AI agents, Wed Nov 11 2026. No macro, syntax, notation, axiom, sorry.
-/
import Derived.Test.YtecmicedacppbaaDoorRows
import GoSem.ClaimSeven
namespace Go.Proofs.YtecmicedacppbaaDoor
namespace Rows

/-- THE TIED CARD OF 'laws.FnExactDataBytes'. -/
def fnExactDataBytesCard : Claim7 := { stood := { row := fnExactDataBytesRow, standIns := [], harness := (true, "daf5d398163eb6b65c978b6304f81a9a8112b7266d83e1623e81c57b20d678ea"), looks := true }, kinds := [], alts := [], laidByText := true, laidKinds := [.data, .data, .data, .data, .sentinel, .sentinel, .pinned], laidTests := true, laidLooks := .later }
def FnExactDataBytesCardSaid : Prop := Claim7.holds Tryd.pinned (.plain (OpenSpec.ofChange fnExactDataBytesSpec)) fnExactDataBytesCard

/-- THE TIED CARD OF 'laws.FnExactGoodRecord'. -/
def fnExactGoodRecordCard : Claim7 := { stood := { row := fnExactGoodRecordRow, standIns := [], harness := (true, "daf5d398163eb6b65c978b6304f81a9a8112b7266d83e1623e81c57b20d678ea"), looks := true }, kinds := [], alts := [], laidByText := true, laidKinds := [.data, .data, .data, .data, .sentinel, .sentinel, .pinned], laidTests := true, laidLooks := .later }
def FnExactGoodRecordCardSaid : Prop := Claim7.holds Tryd.pinned (.plain (OpenSpec.ofChange fnExactGoodRecordSpec)) fnExactGoodRecordCard

/-- THE TIED CARD OF 'laws.FnExactTargetOf'. -/
def fnExactTargetOfCard : Claim7 := { stood := { row := fnExactTargetOfRow, standIns := [], harness := (true, "daf5d398163eb6b65c978b6304f81a9a8112b7266d83e1623e81c57b20d678ea"), looks := true }, kinds := [], alts := [], laidByText := true, laidKinds := [.data, .data, .data, .data, .sentinel, .sentinel, .pinned], laidTests := true, laidLooks := .later }
def FnExactTargetOfCardSaid : Prop := Claim7.holds Tryd.pinned (.plain (OpenSpec.ofChange fnExactTargetOfSpec)) fnExactTargetOfCard

/-- THE TIED CARD OF 'laws.FnExactRecordText'. -/
def fnExactRecordTextCard : Claim7 := { stood := { row := fnExactRecordTextRow, standIns := [], harness := (true, "daf5d398163eb6b65c978b6304f81a9a8112b7266d83e1623e81c57b20d678ea"), looks := true }, kinds := [], alts := [], laidByText := true, laidKinds := [.data, .data, .data, .data, .sentinel, .sentinel, .pinned], laidTests := true, laidLooks := .later }
def FnExactRecordTextCardSaid : Prop := Claim7.holds Tryd.pinned (.plain (OpenSpec.ofChange fnExactRecordTextSpec)) fnExactRecordTextCard

/-- THE TIED CARD OF 'laws.FnExactReadRecord'. -/
def fnExactReadRecordCard : Claim7 := { stood := { row := fnExactReadRecordRow, standIns := [], harness := (true, "daf5d398163eb6b65c978b6304f81a9a8112b7266d83e1623e81c57b20d678ea"), looks := true }, kinds := [], alts := [], laidByText := true, laidKinds := [.data, .data, .data, .data, .sentinel, .sentinel, .pinned], laidTests := true, laidLooks := .later }
def FnExactReadRecordCardSaid : Prop := Claim7.holds Tryd.pinned (.plain (OpenSpec.ofChange fnExactReadRecordSpec)) fnExactReadRecordCard

/-- THE SECOND FORM's CARD OF 'laws.FnExactDataBytes'. -/
def fnExactDataBytesUptoCard : Claim7 := { stood := { row := fnExactDataBytesUptoRow, standIns := [], harness := (true, "daf5d398163eb6b65c978b6304f81a9a8112b7266d83e1623e81c57b20d678ea"), looks := true }, kinds := [], alts := [], laidByText := true, laidKinds := [.data, .data, .data, .data, .sentinel, .sentinel, .pinned], laidTests := true, laidLooks := .later }
def FnExactDataBytesUptoCardSaid : Prop := Claim7.holds Tryd.pinned (.plain (OpenSpec.upto fnExactDataBytesSpec)) fnExactDataBytesUptoCard

/-- THE SECOND FORM's CARD OF 'laws.FnExactGoodRecord'. -/
def fnExactGoodRecordUptoCard : Claim7 := { stood := { row := fnExactGoodRecordUptoRow, standIns := [], harness := (true, "daf5d398163eb6b65c978b6304f81a9a8112b7266d83e1623e81c57b20d678ea"), looks := true }, kinds := [], alts := [], laidByText := true, laidKinds := [.data, .data, .data, .data, .sentinel, .sentinel, .pinned], laidTests := true, laidLooks := .later }
def FnExactGoodRecordUptoCardSaid : Prop := Claim7.holds Tryd.pinned (.plain (OpenSpec.upto fnExactGoodRecordSpec)) fnExactGoodRecordUptoCard

/-- THE SECOND FORM's CARD OF 'laws.FnExactTargetOf'. -/
def fnExactTargetOfUptoCard : Claim7 := { stood := { row := fnExactTargetOfUptoRow, standIns := [], harness := (true, "daf5d398163eb6b65c978b6304f81a9a8112b7266d83e1623e81c57b20d678ea"), looks := true }, kinds := [], alts := [], laidByText := true, laidKinds := [.data, .data, .data, .data, .sentinel, .sentinel, .pinned], laidTests := true, laidLooks := .later }
def FnExactTargetOfUptoCardSaid : Prop := Claim7.holds Tryd.pinned (.plain (OpenSpec.upto fnExactTargetOfSpec)) fnExactTargetOfUptoCard

/-- THE SECOND FORM's CARD OF 'laws.FnExactRecordText'. -/
def fnExactRecordTextUptoCard : Claim7 := { stood := { row := fnExactRecordTextUptoRow, standIns := [], harness := (true, "daf5d398163eb6b65c978b6304f81a9a8112b7266d83e1623e81c57b20d678ea"), looks := true }, kinds := [], alts := [], laidByText := true, laidKinds := [.data, .data, .data, .data, .sentinel, .sentinel, .pinned], laidTests := true, laidLooks := .later }
def FnExactRecordTextUptoCardSaid : Prop := Claim7.holds Tryd.pinned (.plain (OpenSpec.upto fnExactRecordTextSpec)) fnExactRecordTextUptoCard

/-- THE SECOND FORM's CARD OF 'laws.FnExactReadRecord'. -/
def fnExactReadRecordUptoCard : Claim7 := { stood := { row := fnExactReadRecordUptoRow, standIns := [], harness := (true, "daf5d398163eb6b65c978b6304f81a9a8112b7266d83e1623e81c57b20d678ea"), looks := true }, kinds := [], alts := [], laidByText := true, laidKinds := [.data, .data, .data, .data, .sentinel, .sentinel, .pinned], laidTests := true, laidLooks := .later }
def FnExactReadRecordUptoCardSaid : Prop := Claim7.holds Tryd.pinned (.plain (OpenSpec.upto fnExactReadRecordSpec)) fnExactReadRecordUptoCard
end Rows
end Go.Proofs.YtecmicedacppbaaDoor
