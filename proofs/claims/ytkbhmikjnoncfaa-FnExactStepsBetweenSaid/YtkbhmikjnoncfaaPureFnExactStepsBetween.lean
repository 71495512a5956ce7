/- The law FnExactStepsBetween answers true for all integers. Conditions: none. -/
import Derived.Test.YtkbhmikjnoncfaaPFnExactStepsBetweenx1
namespace Go.Proofs.Ytkbhmikjnoncfaa.Pure
open Go.RowKit Go.Proofs.Ytkbhmikjnoncfaa.PFnExactStepsBetween Go.Proofs.YtkbhmikjnoncfaaW.PrintWords Go.Proofs.YtkbhmikjnoncfaaW.PrintLast

theorem FnExactStepsBetween : laws_FnExactStepsBetween.Pure := by
  intro a0 a1 _ _
  unfold laws_FnExactStepsBetween.f spec_StepsBetween.f impl_StepsBetween.f impl_isSerial.f spec_l5Serial.f spec_l5Steps.f spec_l1In.f impl_within.f
  by_cases h1 : a0 ≥ 0 <;> by_cases h2 : a0 ≤ 4294967295 <;> by_cases h3 : a1 ≥ 0 <;> by_cases h4 : a1 ≤ 4294967295 <;> simp [h1, h2, h3, h4]

end Go.Proofs.Ytkbhmikjnoncfaa.Pure
