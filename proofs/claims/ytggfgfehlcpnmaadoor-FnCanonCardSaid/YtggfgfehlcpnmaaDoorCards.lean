/-
  DERIVED. GIVEN WITH THE SEED: THE CARDS: each row of YtggfgfehlcpnmaaDoorRows.lean that lists a variable, with what it lists TIED to the program's text (the seventh form; the later family's looks); each row that meets fmt, with fmt's text TOLD by the authors' own Lean function (tested against real Go, not proved from fmt's source: count such statements apart). THE CARD IS WHAT COUNTS. Prove the row's statement (the work); the ties are given (YtggfgfehlcpnmaaDoorTie.lean); close each card by the builder's one call (the guide's Derived/Test/ToyasCard.lean, 'card_holds'). Laid BY PROGRAM, IN A SANDBOX (cutbox-door.mjs). By AI agents, Wed Nov 11 2026. No macro, syntax, notation, axiom, sorry.
-/
import Derived.Test.YtggfgfehlcpnmaaDoorRows
import GoSem.ClaimSeven
namespace Go.Proofs.YtggfgfehlcpnmaaDoor
namespace Rows

/-- THE TIED CARD OF 'laws.FnExactSortNames'. -/
def fnExactSortNamesCard : Claim7 := { stood := { row := fnExactSortNamesRow, standIns := [], harness := (true, "be69f593205ce3d04c1a6cdf6cb7d1bee82f8c98fa589890e0435145a1040aad"), looks := false }, kinds := [], alts := [], laidByText := true, laidKinds := [.data, .pinned], laidTests := true, laidLooks := .later }
def FnExactSortNamesCardSaid : Prop := Claim7.holds Tryd.pinned (.plain (OpenSpec.ofChange fnExactSortNamesSpec)) fnExactSortNamesCard

/-- THE TIED CARD OF 'laws.FnCanon'. -/
def fnCanonCard : Claim7 := { stood := { row := fnCanonRow, standIns := [], harness := (true, "be69f593205ce3d04c1a6cdf6cb7d1bee82f8c98fa589890e0435145a1040aad"), looks := false }, kinds := [], alts := [], laidByText := true, laidKinds := [.data, .pinned], laidTests := true, laidLooks := .later }
def FnCanonCardSaid : Prop := Claim7.holds Tryd.pinned (.plain (OpenSpec.ofChange fnCanonSpec)) fnCanonCard

/-- THE SECOND FORM's CARD OF 'laws.FnExactSortNames'. -/
def fnExactSortNamesUptoCard : Claim7 := { stood := { row := fnExactSortNamesUptoRow, standIns := [], harness := (true, "be69f593205ce3d04c1a6cdf6cb7d1bee82f8c98fa589890e0435145a1040aad"), looks := false }, kinds := [], alts := [], laidByText := true, laidKinds := [.data, .pinned], laidTests := true, laidLooks := .later }
def FnExactSortNamesUptoCardSaid : Prop := Claim7.holds Tryd.pinned (.plain (OpenSpec.upto fnExactSortNamesSpec)) fnExactSortNamesUptoCard

/-- THE SECOND FORM's CARD OF 'laws.FnCanon'. -/
def fnCanonUptoCard : Claim7 := { stood := { row := fnCanonUptoRow, standIns := [], harness := (true, "be69f593205ce3d04c1a6cdf6cb7d1bee82f8c98fa589890e0435145a1040aad"), looks := false }, kinds := [], alts := [], laidByText := true, laidKinds := [.data, .pinned], laidTests := true, laidLooks := .later }
def FnCanonUptoCardSaid : Prop := Claim7.holds Tryd.pinned (.plain (OpenSpec.upto fnCanonSpec)) fnCanonUptoCard
end Rows
end Go.Proofs.YtggfgfehlcpnmaaDoor
