/-
  DERIVED. GIVEN WITH THE SEED: THE CARDS: each row of YtafbacogfakdiaaDoorRows.lean that lists a variable, with what it lists TIED to the program's text (the seventh form; the later family's looks); each row that meets fmt, with fmt's text TOLD by the authors' own Lean function (tested against real Go, not proved from fmt's source: count such statements apart). THE CARD IS WHAT COUNTS. Prove the row's statement (the work); the ties are given (YtafbacogfakdiaaDoorTie.lean); close each card by the builder's one call (the guide's Derived/Test/ToyasCard.lean, 'card_holds'). Laid BY PROGRAM, IN A SANDBOX (cutbox-door.mjs). By AI agents, Wed Nov 11 2026. No macro, syntax, notation, axiom, sorry.
-/
import Derived.Test.YtafbacogfakdiaaDoorRows
import GoSem.ClaimSeven
namespace Go.Proofs.YtafbacogfakdiaaDoor
namespace Rows

/-- THE TIED CARD OF 'laws.FnExactGoodName'. -/
def fnExactGoodNameCard : Claim7 := { stood := { row := fnExactGoodNameRow, standIns := [], harness := (true, "9707a74245e32df2fb3cc58d47ef6a01b29c6f31f0bccb11ca53590fcf3ff96c"), looks := false }, kinds := [], alts := [], laidByText := true, laidKinds := [.data, .pinned], laidTests := true, laidLooks := .later }
def FnExactGoodNameCardSaid : Prop := Claim7.holds Tryd.pinned (.plain (OpenSpec.ofChange fnExactGoodNameSpec)) fnExactGoodNameCard

/-- THE TIED CARD OF 'laws.FnExactIsBelow'. -/
def fnExactIsBelowCard : Claim7 := { stood := { row := fnExactIsBelowRow, standIns := [], harness := (true, "9707a74245e32df2fb3cc58d47ef6a01b29c6f31f0bccb11ca53590fcf3ff96c"), looks := false }, kinds := [], alts := [], laidByText := true, laidKinds := [.data, .pinned], laidTests := true, laidLooks := .later }
def FnExactIsBelowCardSaid : Prop := Claim7.holds Tryd.pinned (.plain (OpenSpec.ofChange fnExactIsBelowSpec)) fnExactIsBelowCard

/-- THE TIED CARD OF 'laws.FnExactNameBytes'. -/
def fnExactNameBytesCard : Claim7 := { stood := { row := fnExactNameBytesRow, standIns := [], harness := (true, "9707a74245e32df2fb3cc58d47ef6a01b29c6f31f0bccb11ca53590fcf3ff96c"), looks := false }, kinds := [], alts := [], laidByText := true, laidKinds := [.data, .pinned], laidTests := true, laidLooks := .later }
def FnExactNameBytesCardSaid : Prop := Claim7.holds Tryd.pinned (.plain (OpenSpec.ofChange fnExactNameBytesSpec)) fnExactNameBytesCard

/-- THE TIED CARD OF 'laws.FnExactFoldName'. -/
def fnExactFoldNameCard : Claim7 := { stood := { row := fnExactFoldNameRow, standIns := [], harness := (true, "9707a74245e32df2fb3cc58d47ef6a01b29c6f31f0bccb11ca53590fcf3ff96c"), looks := false }, kinds := [], alts := [], laidByText := true, laidKinds := [.data, .pinned], laidTests := true, laidLooks := .later }
def FnExactFoldNameCardSaid : Prop := Claim7.holds Tryd.pinned (.plain (OpenSpec.ofChange fnExactFoldNameSpec)) fnExactFoldNameCard

/-- THE TIED CARD OF 'laws.FnExactParentOf'. -/
def fnExactParentOfCard : Claim7 := { stood := { row := fnExactParentOfRow, standIns := [], harness := (true, "9707a74245e32df2fb3cc58d47ef6a01b29c6f31f0bccb11ca53590fcf3ff96c"), looks := false }, kinds := [], alts := [], laidByText := true, laidKinds := [.data, .pinned], laidTests := true, laidLooks := .later }
def FnExactParentOfCardSaid : Prop := Claim7.holds Tryd.pinned (.plain (OpenSpec.ofChange fnExactParentOfSpec)) fnExactParentOfCard

/-- THE TIED CARD OF 'laws.FnExactWildOf'. -/
def fnExactWildOfCard : Claim7 := { stood := { row := fnExactWildOfRow, standIns := [], harness := (true, "9707a74245e32df2fb3cc58d47ef6a01b29c6f31f0bccb11ca53590fcf3ff96c"), looks := false }, kinds := [], alts := [], laidByText := true, laidKinds := [.data, .pinned], laidTests := true, laidLooks := .later }
def FnExactWildOfCardSaid : Prop := Claim7.holds Tryd.pinned (.plain (OpenSpec.ofChange fnExactWildOfSpec)) fnExactWildOfCard

/-- THE TIED CARD OF 'laws.FnExactLabelsOf'. -/
def fnExactLabelsOfCard : Claim7 := { stood := { row := fnExactLabelsOfRow, standIns := [], harness := (true, "9707a74245e32df2fb3cc58d47ef6a01b29c6f31f0bccb11ca53590fcf3ff96c"), looks := false }, kinds := [], alts := [], laidByText := true, laidKinds := [.data, .pinned], laidTests := true, laidLooks := .later }
def FnExactLabelsOfCardSaid : Prop := Claim7.holds Tryd.pinned (.plain (OpenSpec.ofChange fnExactLabelsOfSpec)) fnExactLabelsOfCard

/-- THE TIED CARD OF 'laws.FnExactCommonOf'. -/
def fnExactCommonOfCard : Claim7 := { stood := { row := fnExactCommonOfRow, standIns := [], harness := (true, "9707a74245e32df2fb3cc58d47ef6a01b29c6f31f0bccb11ca53590fcf3ff96c"), looks := false }, kinds := [], alts := [], laidByText := true, laidKinds := [.data, .pinned], laidTests := true, laidLooks := .later }
def FnExactCommonOfCardSaid : Prop := Claim7.holds Tryd.pinned (.plain (OpenSpec.ofChange fnExactCommonOfSpec)) fnExactCommonOfCard

/-- THE SECOND FORM's CARD OF 'laws.FnExactGoodName'. -/
def fnExactGoodNameUptoCard : Claim7 := { stood := { row := fnExactGoodNameUptoRow, standIns := [], harness := (true, "9707a74245e32df2fb3cc58d47ef6a01b29c6f31f0bccb11ca53590fcf3ff96c"), looks := false }, kinds := [], alts := [], laidByText := true, laidKinds := [.data, .pinned], laidTests := true, laidLooks := .later }
def FnExactGoodNameUptoCardSaid : Prop := Claim7.holds Tryd.pinned (.plain (OpenSpec.upto fnExactGoodNameSpec)) fnExactGoodNameUptoCard

/-- THE SECOND FORM's CARD OF 'laws.FnExactIsBelow'. -/
def fnExactIsBelowUptoCard : Claim7 := { stood := { row := fnExactIsBelowUptoRow, standIns := [], harness := (true, "9707a74245e32df2fb3cc58d47ef6a01b29c6f31f0bccb11ca53590fcf3ff96c"), looks := false }, kinds := [], alts := [], laidByText := true, laidKinds := [.data, .pinned], laidTests := true, laidLooks := .later }
def FnExactIsBelowUptoCardSaid : Prop := Claim7.holds Tryd.pinned (.plain (OpenSpec.upto fnExactIsBelowSpec)) fnExactIsBelowUptoCard

/-- THE SECOND FORM's CARD OF 'laws.FnExactNameBytes'. -/
def fnExactNameBytesUptoCard : Claim7 := { stood := { row := fnExactNameBytesUptoRow, standIns := [], harness := (true, "9707a74245e32df2fb3cc58d47ef6a01b29c6f31f0bccb11ca53590fcf3ff96c"), looks := false }, kinds := [], alts := [], laidByText := true, laidKinds := [.data, .pinned], laidTests := true, laidLooks := .later }
def FnExactNameBytesUptoCardSaid : Prop := Claim7.holds Tryd.pinned (.plain (OpenSpec.upto fnExactNameBytesSpec)) fnExactNameBytesUptoCard

/-- THE SECOND FORM's CARD OF 'laws.FnExactFoldName'. -/
def fnExactFoldNameUptoCard : Claim7 := { stood := { row := fnExactFoldNameUptoRow, standIns := [], harness := (true, "9707a74245e32df2fb3cc58d47ef6a01b29c6f31f0bccb11ca53590fcf3ff96c"), looks := false }, kinds := [], alts := [], laidByText := true, laidKinds := [.data, .pinned], laidTests := true, laidLooks := .later }
def FnExactFoldNameUptoCardSaid : Prop := Claim7.holds Tryd.pinned (.plain (OpenSpec.upto fnExactFoldNameSpec)) fnExactFoldNameUptoCard

/-- THE SECOND FORM's CARD OF 'laws.FnExactParentOf'. -/
def fnExactParentOfUptoCard : Claim7 := { stood := { row := fnExactParentOfUptoRow, standIns := [], harness := (true, "9707a74245e32df2fb3cc58d47ef6a01b29c6f31f0bccb11ca53590fcf3ff96c"), looks := false }, kinds := [], alts := [], laidByText := true, laidKinds := [.data, .pinned], laidTests := true, laidLooks := .later }
def FnExactParentOfUptoCardSaid : Prop := Claim7.holds Tryd.pinned (.plain (OpenSpec.upto fnExactParentOfSpec)) fnExactParentOfUptoCard

/-- THE SECOND FORM's CARD OF 'laws.FnExactWildOf'. -/
def fnExactWildOfUptoCard : Claim7 := { stood := { row := fnExactWildOfUptoRow, standIns := [], harness := (true, "9707a74245e32df2fb3cc58d47ef6a01b29c6f31f0bccb11ca53590fcf3ff96c"), looks := false }, kinds := [], alts := [], laidByText := true, laidKinds := [.data, .pinned], laidTests := true, laidLooks := .later }
def FnExactWildOfUptoCardSaid : Prop := Claim7.holds Tryd.pinned (.plain (OpenSpec.upto fnExactWildOfSpec)) fnExactWildOfUptoCard

/-- THE SECOND FORM's CARD OF 'laws.FnExactLabelsOf'. -/
def fnExactLabelsOfUptoCard : Claim7 := { stood := { row := fnExactLabelsOfUptoRow, standIns := [], harness := (true, "9707a74245e32df2fb3cc58d47ef6a01b29c6f31f0bccb11ca53590fcf3ff96c"), looks := false }, kinds := [], alts := [], laidByText := true, laidKinds := [.data, .pinned], laidTests := true, laidLooks := .later }
def FnExactLabelsOfUptoCardSaid : Prop := Claim7.holds Tryd.pinned (.plain (OpenSpec.upto fnExactLabelsOfSpec)) fnExactLabelsOfUptoCard

/-- THE SECOND FORM's CARD OF 'laws.FnExactCommonOf'. -/
def fnExactCommonOfUptoCard : Claim7 := { stood := { row := fnExactCommonOfUptoRow, standIns := [], harness := (true, "9707a74245e32df2fb3cc58d47ef6a01b29c6f31f0bccb11ca53590fcf3ff96c"), looks := false }, kinds := [], alts := [], laidByText := true, laidKinds := [.data, .pinned], laidTests := true, laidLooks := .later }
def FnExactCommonOfUptoCardSaid : Prop := Claim7.holds Tryd.pinned (.plain (OpenSpec.upto fnExactCommonOfSpec)) fnExactCommonOfUptoCard
end Rows
end Go.Proofs.YtafbacogfakdiaaDoor
