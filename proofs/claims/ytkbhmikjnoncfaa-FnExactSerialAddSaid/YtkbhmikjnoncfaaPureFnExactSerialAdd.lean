/- The law FnExactSerialAdd answers true for all integers. Conditions: none. -/
import Derived.Test.YtkbhmikjnoncfaaPFnExactSerialAddx1
namespace Go.Proofs.Ytkbhmikjnoncfaa.Pure
open Go.RowKit Go.Proofs.Ytkbhmikjnoncfaa.PFnExactSerialAdd Go.Proofs.YtkbhmikjnoncfaaW.PrintWords Go.Proofs.YtkbhmikjnoncfaaW.PrintLast

theorem FnExactSerialAdd : laws_FnExactSerialAdd.Pure := by
  intro a0 a1 _ _
  unfold laws_FnExactSerialAdd.f spec_SerialAdd.f impl_SerialAdd.f impl_isSerial.f spec_l5Serial.f spec_l1In.f impl_within.f
  by_cases h1 : a0 ≥ 0 <;> by_cases h2 : a0 ≤ 4294967295 <;> by_cases h3 : a1 ≥ 0 <;> by_cases h4 : a1 ≤ 2147483647 <;> simp [h1, h2, h3, h4]

end Go.Proofs.Ytkbhmikjnoncfaa.Pure
