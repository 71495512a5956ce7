/- The law FnExactSerialOf answers true for every integer. Conditions: none. -/
import Derived.Test.YtkbhmikjnoncfaaPFnExactSerialOfx1
namespace Go.Proofs.Ytkbhmikjnoncfaa.Pure
open Go.RowKit Go.Proofs.Ytkbhmikjnoncfaa.PFnExactSerialOf Go.Proofs.YtkbhmikjnoncfaaW.PrintWords Go.Proofs.YtkbhmikjnoncfaaW.PrintLast

theorem FnExactSerialOf : laws_FnExactSerialOf.Pure := by
  intro a0 _
  unfold laws_FnExactSerialOf.f spec_SerialOf.f impl_SerialOf.f impl_isCounter.f spec_l1In.f impl_within.f
  by_cases h1 : a0 ≥ 0 <;> by_cases h2 : a0 ≤ 1152921504606846976 <;> simp [h1, h2]

end Go.Proofs.Ytkbhmikjnoncfaa.Pure
