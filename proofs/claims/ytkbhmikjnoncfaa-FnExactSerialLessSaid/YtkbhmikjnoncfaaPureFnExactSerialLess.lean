/- The law FnExactSerialLess answers true for all integers. Conditions: none. -/
import Derived.Test.YtkbhmikjnoncfaaPFnExactSerialLessx1
namespace Go.Proofs.Ytkbhmikjnoncfaa.Pure
open Go.RowKit Go.Proofs.Ytkbhmikjnoncfaa.PFnExactSerialLess Go.Proofs.YtkbhmikjnoncfaaW.PrintWords Go.Proofs.YtkbhmikjnoncfaaW.PrintLast

theorem FnExactSerialLess : laws_FnExactSerialLess.Pure := by
  intro a0 a1 _ _
  refine ⟨1, ?_⟩
  unfold laws_FnExactSerialLess.f spec_SerialLess.f impl_SerialLess.f impl_StepsBetween.f impl_isSerial.f spec_l5Serial.f spec_l5Steps.f spec_l1In.f impl_within.f
  simp only [spec_SerialLess.j0]
  unfold spec_l5Steps.f spec_l1In.f
  generalize Int.tmod (wrap64 ((wrap64 (a1 - a0)) + 4294967296)) 4294967296 = n
  by_cases h1 : a0 ≥ 0 <;> by_cases h2 : a0 ≤ 4294967295 <;> by_cases h3 : a1 ≥ 0 <;> by_cases h4 : a1 ≤ 4294967295 <;> by_cases h5 : n = 2147483648 <;> by_cases h6 : 1 ≤ n <;> simp [h1, h2, h3, h4, h5, h6]

end Go.Proofs.Ytkbhmikjnoncfaa.Pure
