/- The law FnExactConstants answers true. Conditions: none. -/
import Derived.Test.YtkbhmikjnoncfaaPFnExactConstantsx1
namespace Go.Proofs.Ytkbhmikjnoncfaa.Pure
open Go.RowKit Go.Proofs.Ytkbhmikjnoncfaa.PFnExactConstants Go.Proofs.YtkbhmikjnoncfaaW.PrintWords Go.Proofs.YtkbhmikjnoncfaaW.PrintLast

theorem FnExactConstants : laws_FnExactConstants.Pure := by
  rfl

end Go.Proofs.Ytkbhmikjnoncfaa.Pure
