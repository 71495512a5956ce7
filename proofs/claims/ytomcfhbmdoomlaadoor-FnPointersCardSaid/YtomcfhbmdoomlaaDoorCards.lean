/-
  DERIVED. GIVEN WITH THE SEED: THE CARDS: each row of YtomcfhbmdoomlaaDoorRows.lean that lists a variable, with what it lists TIED to the program's text (the seventh form; the later family's looks); each row that meets fmt, with fmt's text TOLD by the authors' own Lean function (tested against real Go, not proved from fmt's source: count such statements apart). THE CARD IS WHAT COUNTS. Prove the row's statement (the work); the ties are given (YtomcfhbmdoomlaaDoorTie.lean); close each card by the builder's one call (the guide's Derived/Test/ToyasCard.lean, 'card_holds'). Laid BY PROGRAM, IN A SANDBOX (cutbox-door.mjs). By AI agents, Wed Nov 11 2026. No macro, syntax, notation, axiom, sorry.
-/
import Derived.Test.YtomcfhbmdoomlaaDoorRows
import GoSem.ClaimSeven
namespace Go.Proofs.YtomcfhbmdoomlaaDoor
namespace Rows

/-- THE TIED CARD OF 'laws.FnExactTakeName'. -/
def fnExactTakeNameCard : Claim7 := { stood := { row := fnExactTakeNameRow, standIns := [], harness := (true, "ae92f39ed96617515260d5df7384aa506e7debe71c3db514f2d1edb5c739bb0d"), looks := false }, kinds := [], alts := [], laidByText := true, laidKinds := [.data, .pinned], laidTests := true, laidLooks := .later }
def FnExactTakeNameCardSaid : Prop := Claim7.holds Tryd.pinned (.plain (OpenSpec.ofChange fnExactTakeNameSpec)) fnExactTakeNameCard

/-- THE TIED CARD OF 'laws.FnExactSuffixesOf'. -/
def fnExactSuffixesOfCard : Claim7 := { stood := { row := fnExactSuffixesOfRow, standIns := [], harness := (true, "ae92f39ed96617515260d5df7384aa506e7debe71c3db514f2d1edb5c739bb0d"), looks := false }, kinds := [], alts := [], laidByText := true, laidKinds := [.data, .pinned], laidTests := true, laidLooks := .later }
def FnExactSuffixesOfCardSaid : Prop := Claim7.holds Tryd.pinned (.plain (OpenSpec.ofChange fnExactSuffixesOfSpec)) fnExactSuffixesOfCard

/-- THE TIED CARD OF 'laws.FnExactUnpackNames'. -/
def fnExactUnpackNamesCard : Claim7 := { stood := { row := fnExactUnpackNamesRow, standIns := [], harness := (true, "ae92f39ed96617515260d5df7384aa506e7debe71c3db514f2d1edb5c739bb0d"), looks := false }, kinds := [], alts := [], laidByText := true, laidKinds := [.data, .pinned], laidTests := true, laidLooks := .later }
def FnExactUnpackNamesCardSaid : Prop := Claim7.holds Tryd.pinned (.plain (OpenSpec.ofChange fnExactUnpackNamesSpec)) fnExactUnpackNamesCard

/-- THE TIED CARD OF 'laws.FnExactPutName'. -/
def fnExactPutNameCard : Claim7 := { stood := { row := fnExactPutNameRow, standIns := [], harness := (true, "ae92f39ed96617515260d5df7384aa506e7debe71c3db514f2d1edb5c739bb0d"), looks := false }, kinds := [], alts := [], laidByText := true, laidKinds := [.data, .pinned], laidTests := true, laidLooks := .later }
def FnExactPutNameCardSaid : Prop := Claim7.holds Tryd.pinned (.plain (OpenSpec.ofChange fnExactPutNameSpec)) fnExactPutNameCard

/-- THE TIED CARD OF 'laws.FnExactPackNames'. -/
def fnExactPackNamesCard : Claim7 := { stood := { row := fnExactPackNamesRow, standIns := [], harness := (true, "ae92f39ed96617515260d5df7384aa506e7debe71c3db514f2d1edb5c739bb0d"), looks := false }, kinds := [], alts := [], laidByText := true, laidKinds := [.data, .pinned], laidTests := true, laidLooks := .later }
def FnExactPackNamesCardSaid : Prop := Claim7.holds Tryd.pinned (.plain (OpenSpec.ofChange fnExactPackNamesSpec)) fnExactPackNamesCard

/-- THE TIED CARD OF 'laws.FnExactPackedSize'. -/
def fnExactPackedSizeCard : Claim7 := { stood := { row := fnExactPackedSizeRow, standIns := [], harness := (true, "ae92f39ed96617515260d5df7384aa506e7debe71c3db514f2d1edb5c739bb0d"), looks := false }, kinds := [], alts := [], laidByText := true, laidKinds := [.data, .pinned], laidTests := true, laidLooks := .later }
def FnExactPackedSizeCardSaid : Prop := Claim7.holds Tryd.pinned (.plain (OpenSpec.ofChange fnExactPackedSizeSpec)) fnExactPackedSizeCard

/-- THE TIED CARD OF 'laws.FnPointers'. -/
def fnPointersCard : Claim7 := { stood := { row := fnPointersRow, standIns := [], harness := (true, "ae92f39ed96617515260d5df7384aa506e7debe71c3db514f2d1edb5c739bb0d"), looks := false }, kinds := [], alts := [], laidByText := true, laidKinds := [.data, .pinned], laidTests := true, laidLooks := .later }
def FnPointersCardSaid : Prop := Claim7.holds Tryd.pinned (.plain (OpenSpec.ofChange fnPointersSpec)) fnPointersCard

/-- THE TIED CARD OF 'laws.FnPacked'. -/
def fnPackedCard : Claim7 := { stood := { row := fnPackedRow, standIns := [], harness := (true, "ae92f39ed96617515260d5df7384aa506e7debe71c3db514f2d1edb5c739bb0d"), looks := false }, kinds := [], alts := [], laidByText := true, laidKinds := [.data, .pinned], laidTests := true, laidLooks := .later }
def FnPackedCardSaid : Prop := Claim7.holds Tryd.pinned (.plain (OpenSpec.ofChange fnPackedSpec)) fnPackedCard

/-- THE SECOND FORM's CARD OF 'laws.FnExactTakeName'. -/
def fnExactTakeNameUptoCard : Claim7 := { stood := { row := fnExactTakeNameUptoRow, standIns := [], harness := (true, "ae92f39ed96617515260d5df7384aa506e7debe71c3db514f2d1edb5c739bb0d"), looks := false }, kinds := [], alts := [], laidByText := true, laidKinds := [.data, .pinned], laidTests := true, laidLooks := .later }
def FnExactTakeNameUptoCardSaid : Prop := Claim7.holds Tryd.pinned (.plain (OpenSpec.upto fnExactTakeNameSpec)) fnExactTakeNameUptoCard

/-- THE SECOND FORM's CARD OF 'laws.FnExactSuffixesOf'. -/
def fnExactSuffixesOfUptoCard : Claim7 := { stood := { row := fnExactSuffixesOfUptoRow, standIns := [], harness := (true, "ae92f39ed96617515260d5df7384aa506e7debe71c3db514f2d1edb5c739bb0d"), looks := false }, kinds := [], alts := [], laidByText := true, laidKinds := [.data, .pinned], laidTests := true, laidLooks := .later }
def FnExactSuffixesOfUptoCardSaid : Prop := Claim7.holds Tryd.pinned (.plain (OpenSpec.upto fnExactSuffixesOfSpec)) fnExactSuffixesOfUptoCard

/-- THE SECOND FORM's CARD OF 'laws.FnExactUnpackNames'. -/
def fnExactUnpackNamesUptoCard : Claim7 := { stood := { row := fnExactUnpackNamesUptoRow, standIns := [], harness := (true, "ae92f39ed96617515260d5df7384aa506e7debe71c3db514f2d1edb5c739bb0d"), looks := false }, kinds := [], alts := [], laidByText := true, laidKinds := [.data, .pinned], laidTests := true, laidLooks := .later }
def FnExactUnpackNamesUptoCardSaid : Prop := Claim7.holds Tryd.pinned (.plain (OpenSpec.upto fnExactUnpackNamesSpec)) fnExactUnpackNamesUptoCard

/-- THE SECOND FORM's CARD OF 'laws.FnExactPutName'. -/
def fnExactPutNameUptoCard : Claim7 := { stood := { row := fnExactPutNameUptoRow, standIns := [], harness := (true, "ae92f39ed96617515260d5df7384aa506e7debe71c3db514f2d1edb5c739bb0d"), looks := false }, kinds := [], alts := [], laidByText := true, laidKinds := [.data, .pinned], laidTests := true, laidLooks := .later }
def FnExactPutNameUptoCardSaid : Prop := Claim7.holds Tryd.pinned (.plain (OpenSpec.upto fnExactPutNameSpec)) fnExactPutNameUptoCard

/-- THE SECOND FORM's CARD OF 'laws.FnExactPackNames'. -/
def fnExactPackNamesUptoCard : Claim7 := { stood := { row := fnExactPackNamesUptoRow, standIns := [], harness := (true, "ae92f39ed96617515260d5df7384aa506e7debe71c3db514f2d1edb5c739bb0d"), looks := false }, kinds := [], alts := [], laidByText := true, laidKinds := [.data, .pinned], laidTests := true, laidLooks := .later }
def FnExactPackNamesUptoCardSaid : Prop := Claim7.holds Tryd.pinned (.plain (OpenSpec.upto fnExactPackNamesSpec)) fnExactPackNamesUptoCard

/-- THE SECOND FORM's CARD OF 'laws.FnExactPackedSize'. -/
def fnExactPackedSizeUptoCard : Claim7 := { stood := { row := fnExactPackedSizeUptoRow, standIns := [], harness := (true, "ae92f39ed96617515260d5df7384aa506e7debe71c3db514f2d1edb5c739bb0d"), looks := false }, kinds := [], alts := [], laidByText := true, laidKinds := [.data, .pinned], laidTests := true, laidLooks := .later }
def FnExactPackedSizeUptoCardSaid : Prop := Claim7.holds Tryd.pinned (.plain (OpenSpec.upto fnExactPackedSizeSpec)) fnExactPackedSizeUptoCard

/-- THE SECOND FORM's CARD OF 'laws.FnPointers'. -/
def fnPointersUptoCard : Claim7 := { stood := { row := fnPointersUptoRow, standIns := [], harness := (true, "ae92f39ed96617515260d5df7384aa506e7debe71c3db514f2d1edb5c739bb0d"), looks := false }, kinds := [], alts := [], laidByText := true, laidKinds := [.data, .pinned], laidTests := true, laidLooks := .later }
def FnPointersUptoCardSaid : Prop := Claim7.holds Tryd.pinned (.plain (OpenSpec.upto fnPointersSpec)) fnPointersUptoCard

/-- THE SECOND FORM's CARD OF 'laws.FnPacked'. -/
def fnPackedUptoCard : Claim7 := { stood := { row := fnPackedUptoRow, standIns := [], harness := (true, "ae92f39ed96617515260d5df7384aa506e7debe71c3db514f2d1edb5c739bb0d"), looks := false }, kinds := [], alts := [], laidByText := true, laidKinds := [.data, .pinned], laidTests := true, laidLooks := .later }
def FnPackedUptoCardSaid : Prop := Claim7.holds Tryd.pinned (.plain (OpenSpec.upto fnPackedSpec)) fnPackedUptoCard
end Rows
end Go.Proofs.YtomcfhbmdoomlaaDoor
