/- FnExactNamesIn: part 22 of 30 of my texts for this claim, joined; the theorem stands in the last. Conditions: none beyond the statement's. -/
import Derived.Test.YtkpkfallgjdkmaaGreatDoorMFnExactNamesInx3
import Derived.Test.YtkpkfallgjdkmaaGreatDoorMFnExactNamesInx7
import Derived.Test.YtkpkfallgjdkmaaGreatDoorMFnExactNamesInx19
import Derived.Test.YtkpkfallgjdkmaaGreatDoorMFnExactNamesInx15
import Derived.Test.YtkpkfallgjdkmaaGreatDoorMFnExactNamesInx5
import Derived.Test.YtkpkfallgjdkmaaGreatDoorMFnExactNamesInx14
import Derived.Test.YtkpkfallgjdkmaaGreatDoorMFnExactNamesInx20
import Derived.Test.YtkpkfallgjdkmaaGreatDoorMFnExactNamesInx13
import Derived.Sort.Walk0
import Derived.Sort.Statements
import Derived.Lib.SlicesCompact
import Derived.Test.YtkpkfallgjdkmaaGreatDoorMFnExactNamesInx16
import Derived.Test.YtkpkfallgjdkmaaGreatDoorMFnExactNamesInx8
import Derived.Test.YtkpkfallgjdkmaaGreatDoorMFnExactNamesInx18
import Derived.Test.YtkpkfallgjdkmaaGreatDoorMFnExactNamesInx11
namespace Go.Proofs.YtkpkfallgjdkmaaGreatDoor.P
open Go.RowKit Go.Proofs.YtkpkfallgjdkmaaGreatDoorW.PrintWords Go.Proofs.YtkpkfallgjdkmaaGreatDoorW.PrintLast Go.Proofs.YtkpkfallgjdkmaaGreatDoorW.PrintMore
attribute [local go_sem] max2_int min2_int max_two min_two max_three min_three max_four min_four
set_option linter.unusedVariables false
set_option linter.unusedSimpArgs false
def impl_GoodRecord.f (k : Nat) (a0_0 : ByteArray) (a0_1 : Int) (a0_2 : Int) (a0_3 : ByteArray) : Option (Bool) := (impl_GoodName.f a0_0).bind fun t550 => (if t550 = true then ((impl_within.f a0_2 0 100000).bind fun t551 => (if t551 = true then (if (a0_3.size : Int) > 100 then (some false) else ((impl_DataBytes.f k a0_1 a0_3).bind fun bt552 => (some bt552.2))) else (some false))) else (some false))
set_option maxHeartbeats 8000000 in
set_option maxRecDepth 100000 in
theorem impl_GoodRecord.calls (k : Nat) (a0_0 : ByteArray) (a0_1 : Int) (a0_2 : Int) (a0_3 : ByteArray) (r : Bool) (w : World) (h : impl_GoodRecord.f k a0_0 a0_1 a0_2 a0_3 = some r) (hv_ : Vars w := by exact vv_) :
 Calls Tryz.prog 106 #[.agg #[.string a0_0, .int .i64 a0_1, .int .i64 a0_2, .string a0_3]] w fun e w' => e = .returned (.bool r) ∧ Below w.heap.size w w' := by
 have HV_ := a0_ hv_
 clear hv_
 have hu72 := Tryz.underlying72
 have HB := a0_ (Below.refl w.heap.size w)
 have H : ((impl_GoodName.f a0_0).bind fun t550 => (if t550 = true then ((impl_within.f a0_2 0 100000).bind fun t551 => (if t551 = true then (if (a0_3.size : Int) > 100 then (some false) else ((impl_DataBytes.f k a0_1 a0_3).bind fun bt552 => (some bt552.2))) else (some false))) else (some false))) = some r := h
 clear h
 obtain ⟨t550, A20, H⟩ := Option.bind_eq_some_iff.mp H
 have A2 := a0_ A20
 clear A20
 by_cases c3 : t550 = true
 case neg =>
  replace c3 := Bool.eq_false_iff.mpr c3
  subst c3
  rw [if_neg (show ¬ (false = true) by decide)] at H
  obtain rfl := Option.some.inj H
  go_enter Tryz.func106, Tryz.ntmps106
  go_wp2_with (first | ((with_reducible refine gate_dst (N := 1) rfl ?_); (try (refine gate_guard (by rfl) ?_; dsimp only)); refine boxS_ 1 #[.string a0_0, .int .i64 a0_1, .int .i64 a0_2, .string a0_3] 72 (fun gb549 hg w21 hbox hb => ?_); have n0_ := a0_ (below_step bq0_ hb); have n1_ := a0_ (hbox); have n2_ := a0_ (gw_ hg : w.heap.size ≤ gb549); have n3_ := n2_; clear HB; have HB := n0_; have BK549 := n1_; have GW549 := n2_; have GE549 := n3_; clear n0_ n1_ n2_ n3_; clear hb hbox hg; obtain ⟨z22_0, z22_1, z22_2, z22_3, q22_0, q22_1, q22_2, q22_3⟩ := bk4_ BK549.out) | ((with_reducible refine gate_callee (f := 72) rfl ?_); refine goesL_ (some 7) rfl rfl Tryz.func72 (by kernel_rfl) rfl #[.string a0_0] rfl argsS_ ?_; (with_reducible refine (impl_GoodName.calls a0_0 false _ A2.out).mono ?_); rintro e w23 ⟨rfl, hb⟩; refine ⟨_, rfl, ?_⟩; replace BK549 := a0_ (bkB_ BK549 hb); replace HB := a0_ (below_step bq1_ hb); (try clear hb); (try clear hb2); (try clear hk); (try clear hi)))
  go_ret
  exact ⟨rr_, bq1_⟩
 subst c3
 rw [if_pos rfl] at H
 obtain ⟨t551, A40, H⟩ := Option.bind_eq_some_iff.mp H
 have A4 := a0_ A40
 clear A40
 by_cases c5 : t551 = true
 case neg =>
  replace c5 := Bool.eq_false_iff.mpr c5
  subst c5
  rw [if_neg (show ¬ (false = true) by decide)] at H
  obtain rfl := Option.some.inj H
  go_enter Tryz.func106, Tryz.ntmps106
  go_wp2_with (first | ((with_reducible refine gate_dst (N := 1) rfl ?_); (try (refine gate_guard (by rfl) ?_; dsimp only)); refine boxS_ 1 #[.string a0_0, .int .i64 a0_1, .int .i64 a0_2, .string a0_3] 72 (fun gb549 hg w17 hbox hb => ?_); have n0_ := a0_ (below_step bq0_ hb); have n1_ := a0_ (hbox); have n2_ := a0_ (gw_ hg : w.heap.size ≤ gb549); have n3_ := n2_; clear HB; have HB := n0_; have BK549 := n1_; have GW549 := n2_; have GE549 := n3_; clear n0_ n1_ n2_ n3_; clear hb hbox hg; obtain ⟨z18_0, z18_1, z18_2, z18_3, q18_0, q18_1, q18_2, q18_3⟩ := bk4_ BK549.out) | ((with_reducible refine gate_callee (f := 72) rfl ?_); refine goesL_ (some 7) rfl rfl Tryz.func72 (by kernel_rfl) rfl #[.string a0_0] rfl argsS_ ?_; (with_reducible refine (impl_GoodName.calls a0_0 true _ A2.out).mono ?_); rintro e w19 ⟨rfl, hb⟩; refine ⟨_, rfl, ?_⟩; replace BK549 := a0_ (bkB_ BK549 hb); replace HB := a0_ (below_step bq1_ hb); (try clear hb); (try clear hb2); (try clear hk); (try clear hi); obtain ⟨z20_0, z20_1, z20_2, z20_3, q20_0, q20_1, q20_2, q20_3⟩ := bk4_ BK549.out) | (go_at_call 78; (with_reducible refine (impl_within.calls a0_2 0 100000 false _ A4.out).mono ?_); rintro e w' ⟨rfl, ⟨nd, rfl⟩⟩))
  go_ret
  exact ⟨rr_, bq1_⟩
 subst c5
 rw [if_pos rfl] at H
 by_cases c6 : (a0_3.size : Int) > 100
 case pos =>
  rw [if_pos c6] at H
  have c6b0 := decide_eq_true c6
  have c6b1 : decide (100 < a0_3.size) = true := decide_eq_true (by omega)
  clear c6
  obtain rfl := Option.some.inj H
  go_enter Tryz.func106, Tryz.ntmps106
  go_wp2_with (first | ((with_reducible refine gate_dst (N := 1) rfl ?_); (try (refine gate_guard (by rfl) ?_; dsimp only)); refine boxS_ 1 #[.string a0_0, .int .i64 a0_1, .int .i64 a0_2, .string a0_3] 72 (fun gb549 hg w7 hbox hb => ?_); have n0_ := a0_ (below_step bq0_ hb); have n1_ := a0_ (hbox); have n2_ := a0_ (gw_ hg : w.heap.size ≤ gb549); have n3_ := n2_; clear HB; have HB := n0_; have BK549 := n1_; have GW549 := n2_; have GE549 := n3_; clear n0_ n1_ n2_ n3_; clear hb hbox hg; obtain ⟨z8_0, z8_1, z8_2, z8_3, q8_0, q8_1, q8_2, q8_3⟩ := bk4_ BK549.out) | ((with_reducible refine gate_callee (f := 72) rfl ?_); refine goesL_ (some 7) rfl rfl Tryz.func72 (by kernel_rfl) rfl #[.string a0_0] rfl argsS_ ?_; (with_reducible refine (impl_GoodName.calls a0_0 true _ A2.out).mono ?_); rintro e w9 ⟨rfl, hb⟩; refine ⟨_, rfl, ?_⟩; replace BK549 := a0_ (bkB_ BK549 hb); replace HB := a0_ (below_step bq1_ hb); (try clear hb); (try clear hb2); (try clear hk); (try clear hi); obtain ⟨z10_0, z10_1, z10_2, z10_3, q10_0, q10_1, q10_2, q10_3⟩ := bk4_ BK549.out) | (go_at_call 78; (with_reducible refine (impl_within.calls a0_2 0 100000 true _ A4.out).mono ?_); rintro e w' ⟨rfl, ⟨nd, rfl⟩⟩))
  go_ret
  exact ⟨rr_, bq1_⟩
 rw [if_neg c6] at H
 have c6b0 := decide_eq_false c6
 have c6b1 : decide (100 < a0_3.size) = false := decide_eq_false (by omega)
 clear c6
 obtain ⟨⟨t552, t553⟩, A110, H⟩ := Option.bind_eq_some_iff.mp H
 have A11 := a0_ A110
 clear A110
 obtain rfl := Option.some.inj H
 go_enter Tryz.func106, Tryz.ntmps106
 go_wp2_with (first | ((with_reducible refine gate_dst (N := 1) rfl ?_); (try (refine gate_guard (by rfl) ?_; dsimp only)); refine boxS_ 1 #[.string a0_0, .int .i64 a0_1, .int .i64 a0_2, .string a0_3] 72 (fun gb549 hg w12 hbox hb => ?_); have n0_ := a0_ (below_step bq0_ hb); have n1_ := a0_ (hbox); have n2_ := a0_ (gw_ hg : w.heap.size ≤ gb549); have n3_ := n2_; clear HB; have HB := n0_; have BK549 := n1_; have GW549 := n2_; have GE549 := n3_; clear n0_ n1_ n2_ n3_; clear hb hbox hg; obtain ⟨z13_0, z13_1, z13_2, z13_3, q13_0, q13_1, q13_2, q13_3⟩ := bk4_ BK549.out) | ((with_reducible refine gate_callee (f := 72) rfl ?_); refine goesL_ (some 7) rfl rfl Tryz.func72 (by kernel_rfl) rfl #[.string a0_0] rfl argsS_ ?_; (with_reducible refine (impl_GoodName.calls a0_0 true _ A2.out).mono ?_); rintro e w14 ⟨rfl, hb⟩; refine ⟨_, rfl, ?_⟩; replace BK549 := a0_ (bkB_ BK549 hb); replace HB := a0_ (below_step bq1_ hb); (try clear hb); (try clear hb2); (try clear hk); (try clear hi); obtain ⟨z15_0, z15_1, z15_2, z15_3, q15_0, q15_1, q15_2, q15_3⟩ := bk4_ BK549.out) | (go_at_call 78; (with_reducible refine (impl_within.calls a0_2 0 100000 true _ A4.out).mono ?_); rintro e w' ⟨rfl, ⟨nd, rfl⟩⟩) | ((with_reducible refine gate_callee (f := 121) rfl ?_); refine goesL_ (some 26) rfl rfl Tryz.func121 (by kernel_rfl) rfl #[.int .i64 a0_1, .string a0_3] rfl argsS_ ?_; (with_reducible refine (impl_DataBytes.calls k a0_1 a0_3 t552 t553 _ A11.out).mono ?_); rintro e w16 ⟨rfl, hb⟩; refine ⟨_, rfl, ?_⟩; replace BK549 := a0_ (bkB_ BK549 hb); replace HB := a0_ (below_step bq1_ hb); (try clear hb); (try clear hb2); (try clear hk); (try clear hi)))
 go_ret
 exact ⟨rr_, bq1_⟩
def impl_dataBytes.f (k : Nat) (a0 : Int) (a1 : ByteArray) : Option (ByteArray) := (impl_DataBytes.f k a0 a1).bind fun bt583 => (if bt583.2 = true then (some bt583.1) else (some (⟨#[]⟩ : ByteArray)))
set_option maxHeartbeats 8000000 in
set_option maxRecDepth 100000 in
theorem impl_dataBytes.calls (k : Nat) (a0 : Int) (a1 : ByteArray) (r : ByteArray) (w : World) (h : impl_dataBytes.f k a0 a1 = some r) (hv_ : Vars w := by exact vv_) :
 Calls Tryz.prog 130 #[.int .i64 a0, .string a1] w fun e w' => e = .returned (.string r) ∧ Below w.heap.size w w' := by
 have HV_ := a0_ hv_
 clear hv_
 have HB := a0_ (Below.refl w.heap.size w)
 have H : ((impl_DataBytes.f k a0 a1).bind fun bt583 => (if bt583.2 = true then (some bt583.1) else (some (⟨#[]⟩ : ByteArray)))) = some r := h
 clear h
 obtain ⟨⟨t583, t584⟩, A30, H⟩ := Option.bind_eq_some_iff.mp H
 have A3 := a0_ A30
 clear A30
 by_cases c4 : t584 = true
 case pos =>
  subst c4
  rw [if_pos rfl] at H
  obtain rfl := Option.some.inj H
  go_enter Tryz.func130, Tryz.ntmps130
  go_wp2_with (first | ((with_reducible refine gate_callee (f := 121) rfl ?_); refine goesL_ (some 10) rfl rfl Tryz.func121 (by kernel_rfl) rfl #[.int .i64 a0, .string a1] rfl argsS_ ?_; (with_reducible refine (impl_DataBytes.calls k a0 a1 t583 true _ A3.out).mono ?_); rintro e w5 ⟨rfl, hb⟩; refine ⟨_, rfl, ?_⟩; replace HB := a0_ (below_step bq0_ hb); (try clear hb); (try clear hb2); (try clear hk); (try clear hi)))
  go_ret
  exact ⟨rr_, bq0_⟩
 replace c4 := Bool.eq_false_iff.mpr c4
 subst c4
 rw [if_neg (show ¬ (false = true) by decide)] at H
 obtain rfl := Option.some.inj H
 go_enter Tryz.func130, Tryz.ntmps130
 go_wp2_with (first | ((with_reducible refine gate_callee (f := 121) rfl ?_); refine goesL_ (some 10) rfl rfl Tryz.func121 (by kernel_rfl) rfl #[.int .i64 a0, .string a1] rfl argsS_ ?_; (with_reducible refine (impl_DataBytes.calls k a0 a1 t583 false _ A3.out).mono ?_); rintro e w6 ⟨rfl, hb⟩; refine ⟨_, rfl, ?_⟩; replace HB := a0_ (below_step bq0_ hb); (try clear hb); (try clear hb2); (try clear hk); (try clear hi)))
 go_ret
 exact ⟨rr_, bq0_⟩
def spec_RuleOf.f (k : Nat) (a0 : ByteArray) (l1 : List (S72)) : Option (Int) := (spec_l6Apex.f k a0).bind fun t718 => (if t718 = true then ((spec_l6List.f k l1).bind fun t719 => (if t719 = true then ((spec_l6Rule.f k a0 l1).bind fun t720 => (some t720)) else (some 9))) else (some 9))
set_option maxHeartbeats 8000000 in
set_option maxRecDepth 100000 in
theorem spec_RuleOf.calls (k : Nat) (a0 : ByteArray) (A1 : Option Addr) (c1 : Nat) (l1 : List (S72)) (r : Int) (w : World) (hr1 : Kd.C k72 w A1 l1.length l1) (hc1 : l1.length ≤ c1) (h : spec_RuleOf.f k a0 l1 = some r) :
 Calls Tryz.prog 30 #[.string a0, .slice A1 l1.length c1] w fun e w' => e = .returned (.int .i64 r) ∧ Below w.heap.size w w' := by
 have HR1 := a0_ hr1
 have HC1 := a0_ hc1
 clear hr1 hc1
 have HB := a0_ (Below.refl w.heap.size w)
 have H : ((spec_l6Apex.f k a0).bind fun t718 => (if t718 = true then ((spec_l6List.f k l1).bind fun t719 => (if t719 = true then ((spec_l6Rule.f k a0 l1).bind fun t720 => (some t720)) else (some 9))) else (some 9))) = some r := h
 clear h
 obtain ⟨t718, A30, H⟩ := Option.bind_eq_some_iff.mp H
 have A3 := a0_ A30
 clear A30
 by_cases c4 : t718 = true
 case neg =>
  replace c4 := Bool.eq_false_iff.mpr c4
  subst c4
  rw [if_neg (show ¬ (false = true) by decide)] at H
  obtain rfl := Option.some.inj H
  go_enter Tryz.func30, Tryz.ntmps30
  go_wp2_with (first | ((with_reducible refine gate_callee (f := 55) rfl ?_); refine goesL_ (some 6) rfl rfl Tryz.func55 (by kernel_rfl) rfl #[.string a0] rfl argsS_ ?_; (with_reducible refine (spec_l6Apex.calls k a0 false _ A3.out).mono ?_); rintro e w13 ⟨rfl, hb⟩; refine ⟨_, rfl, ?_⟩; replace HB := a0_ (below_step bq0_ hb); (try clear hb); (try clear hb2); (try clear hk); (try clear hi)))
  go_ret
  exact ⟨rr_, bq0_⟩
 subst c4
 rw [if_pos rfl] at H
 obtain ⟨t719, A50, H⟩ := Option.bind_eq_some_iff.mp H
 have A5 := a0_ A50
 clear A50
 by_cases c6 : t719 = true
 case neg =>
  replace c6 := Bool.eq_false_iff.mpr c6
  subst c6
  rw [if_neg (show ¬ (false = true) by decide)] at H
  obtain rfl := Option.some.inj H
  go_enter Tryz.func30, Tryz.ntmps30
  go_wp2_with (first | ((with_reducible refine gate_callee (f := 55) rfl ?_); refine goesL_ (some 6) rfl rfl Tryz.func55 (by kernel_rfl) rfl #[.string a0] rfl argsS_ ?_; (with_reducible refine (spec_l6Apex.calls k a0 true _ A3.out).mono ?_); rintro e w11 ⟨rfl, hb⟩; refine ⟨_, rfl, ?_⟩; replace HB := a0_ (below_step bq0_ hb); (try clear hb); (try clear hb2); (try clear hk); (try clear hi)) | (go_at_call 56; (with_reducible refine (spec_l6List.calls k _ _ l1 false _ ?side1 ?side2 A5.out).mono ?_); (case side1 => exact kC_ HR1.out HB.out); (case side2 => exact HC1.out); rintro e w12 ⟨rfl, hb⟩; replace HB := a0_ (below_step bq0_ hb); (try clear hb); (try clear hb2); (try clear hk); (try clear hi)))
  go_ret
  exact ⟨rr_, bq0_⟩
 subst c6
 rw [if_pos rfl] at H
 obtain ⟨t720, A70, H⟩ := Option.bind_eq_some_iff.mp H
 have A7 := a0_ A70
 clear A70
 obtain rfl := Option.some.inj H
 go_enter Tryz.func30, Tryz.ntmps30
 go_wp2_with (first | ((with_reducible refine gate_callee (f := 55) rfl ?_); refine goesL_ (some 6) rfl rfl Tryz.func55 (by kernel_rfl) rfl #[.string a0] rfl argsS_ ?_; (with_reducible refine (spec_l6Apex.calls k a0 true _ A3.out).mono ?_); rintro e w8 ⟨rfl, hb⟩; refine ⟨_, rfl, ?_⟩; replace HB := a0_ (below_step bq0_ hb); (try clear hb); (try clear hb2); (try clear hk); (try clear hi)) | (go_at_call 56; (with_reducible refine (spec_l6List.calls k _ _ l1 true _ ?side1 ?side2 A5.out).mono ?_); (case side1 => exact kC_ HR1.out HB.out); (case side2 => exact HC1.out); rintro e w9 ⟨rfl, hb⟩; replace HB := a0_ (below_step bq0_ hb); (try clear hb); (try clear hb2); (try clear hk); (try clear hi)) | ((with_reducible refine gate_callee (f := 57) rfl ?_); refine goesL_ (some 15) rfl rfl Tryz.func57 (by kernel_rfl) rfl #[.string a0, .slice A1 l1.length c1] rfl argsS_ ?_; (with_reducible refine (spec_l6Rule.calls k a0 _ _ l1 t720 _ ?side1 ?side2 A7.out).mono ?_); (case side1 => exact kC_ HR1.out HB.out); (case side2 => exact HC1.out); rintro e w10 ⟨rfl, hb⟩; refine ⟨_, rfl, ?_⟩; replace HB := a0_ (below_step bq0_ hb); (try clear hb); (try clear hb2); (try clear hk); (try clear hi)))
 go_ret
 exact ⟨rr_, bq0_⟩
end Go.Proofs.YtkpkfallgjdkmaaGreatDoor.P
namespace Go.Proofs.YtkpkfallgjdkmaaGreatDoor.Pure
open Go.RowKit Go.Proofs.YtkpkfallgjdkmaaGreatDoor.P Go.Proofs.YtkpkfallgjdkmaaGreatDoorW.PrintWords Go.Proofs.YtkpkfallgjdkmaaGreatDoorW.PrintLast
set_option linter.unusedVariables false
set_option linter.unusedSimpArgs false
def Bel (a b : List UInt8) : Prop := b = [] ∨ a = b ∨ (46 :: b) <:+ a
theorem bel_iff (a b : List UInt8) : belowL a b = true ↔ Bel a b := by
 unfold belowL Bel
 simp only [Bool.or_eq_true, Bool.and_eq_true, beq_iff_eq, decide_eq_true_eq]
 constructor
 · rintro (h | h | ⟨h1, h2⟩)
   · exact .inl h
   · exact .inr (.inl h)
   · refine .inr (.inr ?_)
     rw [← h2]
     exact List.drop_suffix _ _
 · rintro (h | h | h)
   · exact .inl h
   · exact .inr (.inl h)
   · have h1 := h.length_le
     rw [List.length_cons] at h1
     refine .inr (.inr ⟨by omega, ?_⟩)
     rw [List.suffix_iff_eq_drop] at h
     rw [List.length_cons, show a.length - (b.length + 1) = a.length - b.length - 1 by omega] at h
     exact h.symm
theorem bel_refl (a : List UInt8) : Bel a a := .inr (.inl rfl)
theorem bel_trans {a b c : List UInt8} (h : Bel a b) (k : Bel b c) : Bel a c := by
 rcases k with rfl | rfl | k
 · exact .inl rfl
 · exact h
 · rcases h with rfl | rfl | h
   · have := k.length_le; simp at this
   · exact .inr (.inr k)
   · exact .inr (.inr (k.trans ((List.suffix_cons 46 b).trans h)))
theorem bel_len {a b : List UInt8} (h : Bel a b) : b.length ≤ a.length := by
 rcases h with rfl | rfl | h
 · simp
 · exact Nat.le_refl _
 · have := h.length_le; simp at this; omega
theorem bel_anti {a b : List UInt8} (h : Bel a b) (k : Bel b a) : a = b := by
 rcases h with rfl | h | h
 · have := bel_len k; exact List.eq_nil_of_length_eq_zero (by simpa using this)
 · exact h
 · have h1 := h.length_le
   have h2 := bel_len k
   simp at h1
   omega
theorem par_or (s : List UInt8) : (parL s = [] ∧ ∀ x ∈ s, x ≠ 46) ∨ ∃ p, s = p ++ 46 :: parL s ∧ ∀ x ∈ p, x ≠ 46 := by
 rcases place_or 46 s with ⟨_, h⟩ | ⟨p, r, h1, h2, _⟩
 · exact .inl ⟨parL_none s h, h⟩
 · refine .inr ⟨p, ?_, h2⟩
   have e : parL s = r := by rw [h1]; exact parL_hit p r h2
   rw [e]
   exact h1
theorem bel_par (s : List UInt8) : Bel s (parL s) := by
 rcases par_or s with ⟨h, _⟩ | ⟨p, h, _⟩
 · exact .inl h
 · exact .inr (.inr ⟨p, h.symm⟩)
theorem bel_step {a t : List UInt8} (h : Bel a t) : a = t ∨ Bel (parL a) t := by
 rcases h with rfl | h | h
 · exact .inr (.inl rfl)
 · exact .inl h
 · right
   obtain ⟨q, hq⟩ := h
   rcases par_or a with ⟨_, hn⟩ | ⟨p, hp, hpn⟩
   · exact absurd rfl (hn 46 (by rw [← hq]; simp))
   · rw [hp] at hq
     rcases List.append_eq_append_iff.1 hq with ⟨m, h1, h2⟩ | ⟨m, h1, h2⟩
     · cases m with
       | nil =>
        simp at h2
        exact .inr (.inl h2.symm)
       | cons x m =>
        simp at h2
        exact absurd h2.1.symm (hpn x (by rw [h1]; simp))
     · cases m with
       | nil =>
        simp at h2
        exact .inr (.inl h2)
       | cons x m =>
        simp at h2
        exact .inr (.inr ⟨m, h2.2.symm⟩)
def comL (b : List UInt8) : Nat → List UInt8 → List UInt8
 | 0, a => a
 | n + 1, a => if belowL b a = true then a else comL b n (parL a)
def common (a b : List UInt8) : List UInt8 := comL b (a.length + 1) a
theorem cmpP_lt (a b : ByteArray) : cmpP a b = if a.data.toList < b.data.toList then -1 else if b.data.toList < a.data.toList then 1 else 0 := by
 unfold cmpP
 rw [Go.Proofs.bytesLess_eq, Go.Proofs.bytesLess_eq, Lib.toList_data, Lib.toList_data]
 simp only [decide_eq_true_eq]
theorem lst_tri (a b : List UInt8) : a < b ∨ a = b ∨ b < a := by
 by_cases h1 : a < b
 · exact .inl h1
 · by_cases h2 : b < a
   · exact .inr (.inr h2)
   · exact .inr (.inl (List.le_antisymm h2 h1))
theorem cmpP_zero (a b : ByteArray) : cmpP a b = 0 ↔ a = b := by
 rw [cmpP_lt]
 rcases lst_tri a.data.toList b.data.toList with h | h | h
 · rw [if_pos h]
   refine ⟨fun h0 => by omega, fun e => ?_⟩
   rw [e] at h
   exact absurd h (List.lt_irrefl _)
 · have hn : ¬ a.data.toList < b.data.toList := by rw [h]; exact List.lt_irrefl _
   have hn2 : ¬ b.data.toList < a.data.toList := by rw [h]; exact List.lt_irrefl _
   rw [if_neg hn, if_neg hn2]
   exact ⟨fun _ => ext_data h, fun _ => rfl⟩
 · have hn : ¬ a.data.toList < b.data.toList := fun h' => absurd (List.lt_trans h h') (List.lt_irrefl _)
   rw [if_neg hn, if_pos h]
   refine ⟨fun h0 => by omega, fun e => ?_⟩
   rw [e] at h
   exact absurd h (List.lt_irrefl _)
theorem cmpP_neg (a b : ByteArray) : cmpP b a = - cmpP a b := by
 rw [cmpP_lt, cmpP_lt]
 by_cases h : a.data.toList < b.data.toList
 · have hn : ¬ b.data.toList < a.data.toList := fun h' => absurd (List.lt_trans h h') (List.lt_irrefl _)
   rw [if_neg hn, if_pos h, if_pos h]; rfl
 · by_cases h' : b.data.toList < a.data.toList
   · rw [if_pos h', if_neg h, if_pos h']
   · rw [if_neg h', if_neg h, if_neg h, if_neg h']; rfl
theorem cmpP_range (a b : ByteArray) : cmpP a b = -1 ∨ cmpP a b = 0 ∨ cmpP a b = 1 := by
 rw [cmpP_lt]
 split
 · exact .inl rfl
 · split
   · exact .inr (.inr rfl)
   · exact .inr (.inl rfl)
theorem cmpP_less (a b : ByteArray) : cmpP a b < 0 ↔ a.data.toList < b.data.toList := by
 rw [cmpP_lt]
 by_cases h : a.data.toList < b.data.toList
 · rw [if_pos h]; exact ⟨fun _ => h, fun _ => by decide⟩
 · rw [if_neg h]
   refine ⟨fun h' => ?_, fun h' => absurd h' h⟩
   split at h' <;> omega
theorem cmpP_trans {a b c : ByteArray} (h : cmpP a b < 0) (h' : cmpP b c < 0) : cmpP a c < 0 := by
 rw [cmpP_less] at *
 exact List.lt_trans h h'
theorem cmpL_zero : ∀ x y : List ByteArray, cmpL x y = 0 ↔ x = y
 | [], [] => ⟨fun _ => rfl, fun _ => rfl⟩
 | [], _ :: _ => ⟨fun h => by simp [cmpL] at h, fun h => by cases h⟩
 | _ :: _, [] => ⟨fun h => by simp [cmpL] at h, fun h => by cases h⟩
 | a :: x, b :: y => by
  unfold cmpL
  by_cases h : cmpP a b = 0
  · rw [if_pos h, cmpL_zero x y, (cmpP_zero a b).1 h]
    exact ⟨fun e => by rw [e], fun e => by injection e⟩
  · rw [if_neg h]
    refine ⟨fun e => absurd e h, fun e => ?_⟩
    injection e with e1 e2
    exact absurd ((cmpP_zero a b).2 e1) h
theorem cmpL_neg : ∀ x y : List ByteArray, cmpL y x = - cmpL x y
 | [], [] => rfl
 | [], _ :: _ => rfl
 | _ :: _, [] => rfl
 | a :: x, b :: y => by
  unfold cmpL
  have hn := cmpP_neg a b
  by_cases h : cmpP a b = 0
  · rw [if_pos h, if_pos (by rw [hn, h]; rfl), cmpL_neg x y]
  · rw [if_neg h, if_neg (by rw [hn]; omega), hn]
theorem cmpL_range : ∀ x y : List ByteArray, cmpL x y = -1 ∨ cmpL x y = 0 ∨ cmpL x y = 1
 | [], [] => .inr (.inl rfl)
 | [], _ :: _ => .inl rfl
 | _ :: _, [] => .inr (.inr rfl)
 | a :: x, b :: y => by
  unfold cmpL
  split
  · exact cmpL_range x y
  · exact cmpP_range a b
theorem cmpL_trans : ∀ x y z : List ByteArray, cmpL x y < 0 → cmpL y z < 0 → cmpL x z < 0
 | [], [], z, h, h' => by simp [cmpL] at h
 | [], _ :: _, [], h, h' => by simp [cmpL] at h'
 | [], _ :: _, _ :: _, h, h' => by simp [cmpL]
 | _ :: _, [], z, h, h' => by simp [cmpL] at h
 | _ :: _, _ :: _, [], h, h' => by simp [cmpL] at h'
 | a :: x, b :: y, c :: z, h, h' => by
  unfold cmpL at h h' ⊢
  by_cases h1 : cmpP a b = 0
  · rw [if_pos h1] at h
    obtain rfl := (cmpP_zero a b).1 h1
    by_cases h2 : cmpP a c = 0
    · rw [if_pos h2] at h' ⊢
      exact cmpL_trans x y z h h'
    · rw [if_neg h2] at h' ⊢
      exact h'
  · rw [if_neg h1] at h
    by_cases h2 : cmpP b c = 0
    · obtain rfl := (cmpP_zero b c).1 h2
      rw [if_neg h1]
      exact h
    · rw [if_neg h2] at h'
      have h3 := cmpP_trans h h'
      rw [if_neg (by omega)]
      exact h3
def unO : List (List UInt8) → List UInt8
 | [] => []
 | [p] => p
 | p :: q :: r => p ++ 46 :: unO (q :: r)
theorem unO_split : ∀ s : List UInt8, unO (splitL 46 s) = s
 | [] => rfl
 | x :: xs => by
  have ih := unO_split xs
  obtain ⟨p, ps, hp⟩ := List.exists_cons_of_ne_nil (splitL_ne 46 xs)
  unfold splitL
  rw [hp] at ih ⊢
  by_cases h : x = 46
  · rw [if_pos h]
    show [] ++ 46 :: unO (p :: ps) = _
    rw [ih, h]
    rfl
  · rw [if_neg h]
    cases ps with
    | nil => show x :: p = _; rw [show p = xs from ih]
    | cons q r =>
     show (x :: p) ++ 46 :: unO (q :: r) = _
     have ih2 : p ++ 46 :: unO (q :: r) = xs := ih
     rw [List.cons_append, ih2]
theorem labels_inj {a b : List UInt8} (h : labelsL a = labelsL b) : a = b := by
 unfold labelsL at h
 by_cases ha : a = []
 · rw [if_pos ha] at h
   by_cases hb : b = []
   · rw [ha, hb]
   · rw [if_neg hb] at h
     exact absurd h.symm (splitL_ne 46 b)
 · rw [if_neg ha] at h
   by_cases hb : b = []
   · rw [if_pos hb] at h
     exact absurd h (splitL_ne 46 a)
   · rw [if_neg hb] at h
     rw [← unO_split a, ← unO_split b, h]
theorem ord_zero (a b : List UInt8) : ordL a b = 0 ↔ a = b := by
 unfold ordL
 rw [cmpL_zero]
 refine ⟨fun h => ?_, fun h => by rw [h]⟩
 have h1 := List.reverse_inj.1 h
 refine labels_inj ?_
 have h2 := congrArg (List.map fun x : ByteArray => x.data.toList) h1
 rw [List.map_map, List.map_map] at h2
 have : ((fun x : ByteArray => x.data.toList) ∘ mkB) = id := by funext z; exact mkB_data z
 rwa [this, List.map_id, List.map_id] at h2
theorem ord_neg (a b : List UInt8) : ordL b a = - ordL a b := cmpL_neg _ _
theorem ord_range (a b : List UInt8) : ordL a b = -1 ∨ ordL a b = 0 ∨ ordL a b = 1 := cmpL_range _ _
theorem ord_trans {a b c : List UInt8} (h : ordL a b < 0) (h' : ordL b c < 0) : ordL a c < 0 := cmpL_trans _ _ _ h h'
def leN (x y : List UInt8) : Bool := !decide (ordL y x < 0)
def sortL (l : List (List UInt8)) : List (List UInt8) := Lib.compact (l.mergeSort leN)
theorem sorted_one : ∀ (a b : List (List UInt8)), a.Pairwise (fun x y => ordL x y < 0) → b.Pairwise (fun x y => ordL x y < 0) → (∀ x, x ∈ a ↔ x ∈ b) → a = b
 | [], [], _, _, _ => rfl
 | [], y :: b, _, _, h => absurd ((h y).2 List.mem_cons_self) (by simp)
 | x :: a, [], _, _, h => absurd ((h x).1 List.mem_cons_self) (by simp)
 | x :: a, y :: b, ha, hb, h => by
  have ha' := List.pairwise_cons.1 ha
  have hb' := List.pairwise_cons.1 hb
  have irr : ∀ z, ¬ ordL z z < 0 := fun z => by rw [(ord_zero z z).2 rfl]; omega
  have exy : x = y := by
   rcases List.mem_cons.1 ((h x).1 List.mem_cons_self) with e | e
   · exact e
   · rcases List.mem_cons.1 ((h y).2 List.mem_cons_self) with e2 | e2
     · exact e2.symm
     · exact absurd (ord_trans (ha'.1 y e2) (hb'.1 x e)) (irr x)
  subst exy
  rw [sorted_one a b ha'.2 hb'.2 fun z => ?_]
  constructor
  · intro hz
    rcases List.mem_cons.1 ((h z).1 (List.mem_cons_of_mem _ hz)) with e | e
    · rw [e] at hz
      exact absurd (ha'.1 x hz) (irr x)
    · exact e
  · intro hz
    rcases List.mem_cons.1 ((h z).2 (List.mem_cons_of_mem _ hz)) with e | e
    · rw [e] at hz
      exact absurd (hb'.1 x hz) (irr x)
    · exact e
def sortR (l : List ByteArray) : List ByteArray × Bool :=
 if decide (l.length ≤ 60) && l.all (fun x => goodL x.data.toList) then ((sortL (l.map (·.data.toList))).map mkB, true) else ([], false)
end Go.Proofs.YtkpkfallgjdkmaaGreatDoor.Pure
namespace Go.Proofs.YtkpkfallgjdkmaaGreatDoor.Pure
open Go.RowKit Go.Proofs.YtkpkfallgjdkmaaGreatDoor.P Go.Proofs.YtkpkfallgjdkmaaGreatDoorW.PrintWords Go.Proofs.YtkpkfallgjdkmaaGreatDoorW.PrintLast Go.Proofs.YtkpkfallgjdkmaaGreatDoorW.PrintMore
set_option linter.unusedVariables false
set_option linter.unusedSimpArgs false
theorem split32_loop (s : ByteArray) (hs : s.size < 1099511627776) : ∀ (m i a : Nat) (acc : List ByteArray), i + m = s.size → a ≤ i → (∀ x ∈ (s.data.toList.drop a).take (i - a), x ≠ 32) → acc.length ≤ a →
 spec_l1Split.l0 (m + 1) s 32 acc (a : Int) (i : Int) = some (acc ++ (splitL 32 (s.data.toList.drop a)).map mkB)
 | 0, i, a, acc, him, hai, hx, hacc => by
  unfold spec_l1Split.l0
  rw [if_neg (by omega), if_pos (by omega), if_pos (by omega), if_pos (by omega)]
  rw [List.take_of_length_le (by rw [List.length_drop, ← size_len]; omega)] at hx
  rw [splitL_none 32 _ hx, Int.toNat_natCast, ext_end]
  rfl
 | m + 1, i, a, acc, him, hai, hx, hacc => by
  have hi : i < s.data.toList.length := by rw [← size_len]; omega
  unfold spec_l1Split.l0
  rw [if_pos (by omega), if_pos (by omega), bt_list s i hi, w64n (by omega)]
  have hd : s.data.toList.drop a = (s.data.toList.drop a).take (i - a) ++ s.data.toList[i] :: s.data.toList.drop (i + 1) := by
   conv => lhs; rw [← List.take_append_drop (i - a) (s.data.toList.drop a)]
   congr 1
   rw [List.drop_drop, show a + (i - a) = i by omega, List.drop_eq_getElem_cons hi]
  by_cases h : s.data.toList[i] = 32
  · rw [if_pos (by rw [h]; rfl), if_pos (by omega), if_pos (by omega), if_pos (by omega), if_pos (by omega), Int.toNat_natCast, Int.toNat_natCast, ext_mkB]
    rw [split32_loop s hs m (i + 1) (i + 1) _ (by omega) (by omega) (by simp) (by simp; omega)]
    conv => rhs; rw [hd, h, splitL_hit 32 _ _ hx]
    simp
  · rw [if_neg (by intro e; apply h; apply UInt8.toNat_inj.1; simpa using Int.ofNat.inj e)]
    refine split32_loop s hs m (i + 1) a acc (by omega) (by omega) ?_ hacc
    intro x hm
    rw [show i + 1 - a = (i - a) + 1 by omega, List.take_add_one] at hm
    rcases List.mem_append.1 hm with hm | hm
    · exact hx x hm
    · rw [List.getElem?_drop, show a + (i - a) = i by omega, List.getElem?_eq_getElem hi] at hm
      obtain rfl : x = s.data.toList[i] := by simpa using hm
      exact h
theorem split32_ev (s : ByteArray) (hs : s.size < 1099511627776) : Ev (fun k => spec_l1Split.f k s 32) ((splitL 32 s.data.toList).map mkB) := by
 refine Ev.of (fun k => spec_l1Split.mono _ _ _) (k := s.size + 1) ?_
 unfold spec_l1Split.f
 have := split32_loop s hs s.size 0 0 [] (by omega) (by omega) (by simp) (by simp)
 simpa using this
def unL : List (List UInt8) → List UInt8
 | [] => []
 | [p] => p
 | p :: q :: r => p ++ 46 :: unL (q :: r)
theorem good_all {s : List UInt8} (h : goodL s = true) : (labelsL s).length ≤ 8 ∧ ∀ x ∈ labelsL s, isLabelL x = true := by
 unfold goodL at h
 simp only [Bool.and_eq_true, decide_eq_true_eq, List.all_eq_true] at h
 exact h.2
theorem big1 (n : Int) : Ev (fun k => impl_big.f k n 1) (strOfNums [n % 256]) := by
 refine Ev.of (fun k => impl_big.mono _ _ _) (k := 2) ?_
 show impl_big.f 2 n 1 = _
 simp [impl_big.f, impl_big.l0, wrap64, shr, IntKind.bits]
theorem num1 (n : Int) : Ev (fun k => spec_l3Number.f k n 1) (strOfNums [n % 256]) := by
 refine Ev.of (fun k => spec_l3Number.mono _ _ _) (k := 2) ?_
 show spec_l3Number.f 2 n 1 = _
 simp [spec_l3Number.f, spec_l3Number.l0, wrap64]
theorem big2 (n : Int) : Ev (fun k => impl_big.f k n 2) (strOfNums [n / 256 % 256, n % 256]) := by
 refine Ev.of (fun k => impl_big.mono _ _ _) (k := 3) ?_
 show impl_big.f 3 n 2 = _
 simp [impl_big.f, impl_big.l0, wrap64, shr, IntKind.bits]
theorem num2 (n : Int) : Ev (fun k => spec_l3Number.f k n 2) (strOfNums [n / 256 % 256, n % 256]) := by
 refine Ev.of (fun k => spec_l3Number.mono _ _ _) (k := 3) ?_
 show spec_l3Number.f 3 n 2 = _
 simp [spec_l3Number.f, spec_l3Number.l0, wrap64]
theorem big4 (n : Int) : Ev (fun k => impl_big.f k n 4) (strOfNums [n / 16777216 % 256, n / 65536 % 256, n / 256 % 256, n % 256]) := by
 refine Ev.of (fun k => impl_big.mono _ _ _) (k := 5) ?_
 show impl_big.f 5 n 4 = _
 simp [impl_big.f, impl_big.l0, wrap64, shr, IntKind.bits]
theorem num4 (n : Int) : Ev (fun k => spec_l3Number.f k n 4) (strOfNums [n / 16777216 % 256, n / 65536 % 256, n / 256 % 256, n % 256]) := by
 refine Ev.of (fun k => spec_l3Number.mono _ _ _) (k := 5) ?_
 show spec_l3Number.f 5 n 4 = _
 simp [spec_l3Number.f, spec_l3Number.l0, wrap64, Int.ediv_ediv_of_nonneg]
def targL (l : List UInt8) : Bool := decide (l ≠ []) && (goodL l && !l.contains 42)
theorem contains_eq (s : ByteArray) : strings_Contains.f s (⟨#[42]⟩ : ByteArray) = some (s.data.toList.contains 42) := by
 unfold strings_Contains.f strings_Index.f internal_stringslite_Index.f
 rw [if_pos (show (⟨#[42]⟩ : ByteArray).size = 1 from rfl)]
 simp only [Option.bind_some]
 rw [show List.headD (⟨#[42]⟩ : ByteArray).data.toList 0 = 42 from rfl]
 congr 1
 rcases place_or 42 s.data.toList with ⟨h1, h2⟩ | ⟨p, r, h1, h2, h3⟩
 · rw [h1]
   have : s.data.toList.contains 42 = false := by
    rw [Bool.eq_false_iff]
    intro h
    rw [List.contains_iff_mem] at h
    exact h2 42 h rfl
   rw [this]
   rfl
 · rw [h3]
   have : s.data.toList.contains 42 = true := by
    rw [List.contains_iff_mem, h1]
    simp
   rw [this]
   exact decide_eq_true (by omega)
theorem target_impl (s : ByteArray) : impl_isTarget.f s = some (targL s.data.toList) := by
 unfold impl_isTarget.f impl_GoodName.f targL
 rw [Lib.toList_data, contains_eq]
 by_cases h : s.data.toList = []
 · rw [if_pos h, decide_eq_false (by simp [h])]; rfl
 · rw [if_neg h, decide_eq_true h, Option.bind_some, Bool.true_and]
   cases goodL s.data.toList with
   | true => rfl
   | false => rfl
theorem split_mem : ∀ (l : List UInt8) (b : UInt8), b ≠ 46 → (b ∈ l ↔ ∃ p ∈ splitL 46 l, b ∈ p)
 | [], b, hb => by simp [splitL]
 | x :: xs, b, hb => by
  have ih := split_mem xs b hb
  obtain ⟨p, ps, hp⟩ := List.exists_cons_of_ne_nil (splitL_ne 46 xs)
  unfold splitL
  rw [hp] at ih ⊢
  by_cases h : x = 46
  · rw [if_pos h, List.mem_cons, ih]
    constructor
    · rintro (e | ⟨q, hq, hb2⟩)
      · exact absurd (e.trans h) hb
      · exact ⟨q, List.mem_cons_of_mem _ hq, hb2⟩
    · rintro ⟨q, hq, hb2⟩
      rcases List.mem_cons.1 hq with rfl | hq
      · cases hb2
      · exact .inr ⟨q, hq, hb2⟩
  · rw [if_neg h, List.mem_cons, ih]
    constructor
    · rintro (e | ⟨q, hq, hb2⟩)
      · exact ⟨x :: p, List.mem_cons_self, by rw [e]; exact List.mem_cons_self⟩
      · rcases List.mem_cons.1 hq with rfl | hq
        · exact ⟨x :: q, List.mem_cons_self, List.mem_cons_of_mem _ hb2⟩
        · exact ⟨q, List.mem_cons_of_mem _ hq, hb2⟩
    · rintro ⟨q, hq, hb2⟩
      rcases List.mem_cons.1 hq with rfl | hq
      · rcases List.mem_cons.1 hb2 with e | hb2
        · exact .inl e
        · exact .inr ⟨p, List.mem_cons_self, hb2⟩
      · exact .inr ⟨q, List.mem_cons_of_mem _ hq, hb2⟩
theorem star_label {s : List UInt8} (h : goodL s = true) : s.contains 42 = true ↔ ∃ p ∈ labelsL s, p = [42] := by
 rw [List.contains_iff_mem]
 unfold labelsL
 by_cases h0 : s = []
 · rw [if_pos h0, h0]; simp
 · rw [if_neg h0, split_mem s 42 (by decide)]
   have hg := (good_all h).2
   unfold labelsL at hg
   rw [if_neg h0] at hg
   constructor
   · rintro ⟨p, hp, h42⟩
     refine ⟨p, hp, ?_⟩
     have := hg p hp
     unfold isLabelL at this
     rw [Bool.or_eq_true, beq_iff_eq, Bool.and_eq_true, List.all_eq_true] at this
     rcases this with e | e
     · exact e
     · exact absurd (e.2 42 h42) (by decide)
   · rintro ⟨p, hp, rfl⟩
     exact ⟨_, hp, List.mem_cons_self⟩
theorem td_rd (l : List ByteArray) (i : Nat) (h : i < l.length) : rdOf ByteArray.empty l (i : Int) = l[i] := by
 unfold rdOf
 rw [Int.toNat_natCast, List.getD_eq_getElem?_getD, List.getElem?_eq_getElem h]
 rfl
theorem target_loop (s : ByteArray) (l : List ByteArray) (hl : l.length < 1099511627776) : ∀ (m i : Nat) (ok : Bool), i + m = l.length →
 Ev (fun k => spec_l3Target.l0 k s ok l (l.length : Int) (i : Int)) (ok && ((l.drop i).all (fun x => decide (x.data.toList ≠ [42])) && decide (s.data.toList ≠ [])))
 | 0, i, ok, him => by
  rw [List.drop_of_length_le (by omega), List.all_nil, Bool.true_and]
  refine Ev.step (f := fun _ => some (ok && decide (s.data.toList ≠ []))) (fun k => ?_) (Ev.now _)
  show spec_l3Target.l0 (k + 1) s ok l (l.length : Int) (i : Int) = _
  conv => lhs; unfold spec_l3Target.l0
  rw [if_neg (by omega), Lib.toList_data]
  cases ok with
  | true =>
   rw [if_pos rfl, Bool.true_and]
   congr 1
   by_cases h : s.data.toList = []
   · rw [h]; simp
   · rw [decide_eq_true h, bne_iff_ne.mpr h]
  | false => rfl
 | m + 1, i, ok, him => by
  have hi : i < l.length := by omega
  have ih := target_loop s l hl m (i + 1) (ok && decide (l[i].data.toList ≠ [42])) (by omega)
  have e : (ok && decide (l[i].data.toList ≠ [42]) && ((l.drop (i + 1)).all (fun x => decide (x.data.toList ≠ [42])) && decide (s.data.toList ≠ []))) = (ok && ((l.drop i).all (fun x => decide (x.data.toList ≠ [42])) && decide (s.data.toList ≠ []))) := by
   rw [List.drop_eq_getElem_cons hi]
   rw [List.all_cons]
   cases ok
   · rfl
   · rw [Bool.true_and, Bool.true_and, Bool.and_assoc]
  rw [e] at ih
  refine Ev.step (fun k => ?_) ih
  show spec_l3Target.l0 (k + 1) s ok l (l.length : Int) (i : Int) = _
  conv => lhs; unfold spec_l3Target.l0
  rw [if_pos (by omega), if_pos (by omega), if_pos (by omega), td_rd l i hi, w64n (by omega), Lib.toList_data]
  cases ok with
  | true =>
   rw [if_pos rfl, Bool.true_and]
   congr 1
   by_cases h : l[i].data.toList = [42]
   · rw [h]; simp
   · rw [decide_eq_true h, bne_iff_ne.mpr h]
  | false => rfl
theorem Ev.unique {α : Type} {g : Nat → Option α} {r r' : α} (h : Ev g r) (h' : Ev g r') : r = r' := by
 obtain ⟨K, h⟩ := h
 obtain ⟨K', h'⟩ := h'
 have h1 := h (max K K') (by omega)
 rw [h' (max K K') (by omega)] at h1
 exact (Option.some.inj h1).symm
theorem labels_short (s : ByteArray) (hs : s.size ≤ 1048576) (r : List ByteArray × Bool) (e : Ev (fun k => spec_l1Labels.f k s) r) : r.1.length < 1099511627776 := by
 by_cases h : s.data.toList = []
 · have h2 : Ev (fun k => spec_l1Labels.f k s) ([], true) := Ev.congr (fun k => by unfold spec_l1Labels.f; rw [if_pos (by rw [Lib.toList_data]; exact h)]) (Ev.now _)
   rw [Ev.unique e h2]
   simp
 · have hlen : ((splitL 46 s.data.toList).map mkB).length ≤ s.size + 1 := by rw [List.length_map, size_len]; exact splitL_len _ _
   have h2 : Ev (fun k => spec_l1Labels.f k s) (labsR s ((splitL 46 s.data.toList).map mkB) 0) := by
    refine Ev.congr (f := fun k => (spec_l1Split.f k s 46).bind fun t => spec_l1Labels.l0 k s t t (t.length : Int) 0) (fun k => ?_) (Ev.bind (split_ev s (by omega)) ?_)
    · show spec_l1Labels.f k s = _
      unfold spec_l1Labels.f
      rw [if_neg (by rw [Lib.toList_data]; exact h)]
    · refine labels_loop s _ ?_ (by omega) _ 0 (Nat.zero_add _)
      intro p hp
      obtain ⟨q, hq, rfl⟩ := List.mem_map.1 hp
      have := splitL_part 46 _ q hq
      rw [mkB_size]
      rw [← size_len] at this
      omega
   rw [Ev.unique e h2]
   unfold labsR
   split
   · split
     · show ((splitL 46 s.data.toList).map mkB).length < _; omega
     · show ((splitL 46 s.data.toList).map mkB).length < _; omega
   · simp
theorem target_spec (s : ByteArray) (hs : s.size ≤ 1048576) : Ev (fun k => spec_l3Target.f k s) (targL s.data.toList) := by
 obtain ⟨r, e1, e2, e3⟩ := labels_ev s (by omega)
 have hlen : r.1.length < 1099511627776 := by
  by_cases h : r.2 = true
  · rw [e3 h, List.length_map]
    have := (good_all (e2.symm.trans h)).1
    omega
  · exact labels_short s hs r e1
 refine Ev.congr (fun k => rfl) (Ev.bind e1 ?_)
 have := target_loop s r.1 hlen r.1.length 0 r.2 (by omega)
 rw [List.drop_zero] at this
 have et : (r.2 && (r.1.all (fun x => decide (x.data.toList ≠ [42])) && decide (s.data.toList ≠ []))) = targL s.data.toList := by
  unfold targL
  rw [e2]
  cases hg : goodL s.data.toList with
  | false => simp
  | true =>
   rw [e3 (e2.trans hg), Bool.true_and, Bool.true_and, Bool.and_comm]
   congr 1
   have h1 := star_label hg
   rw [Bool.eq_iff_iff, List.all_eq_true, Bool.not_eq_true', Bool.eq_false_iff]
   constructor
   · intro h2 h3
     obtain ⟨p, hp, rfl⟩ := h1.1 h3
     exact of_decide_eq_true (h2 (mkB [42]) (List.mem_map.2 ⟨_, hp, rfl⟩)) (mkB_data _)
   · intro h2 x hx
     refine decide_eq_true fun h3 => ?_
     obtain ⟨p, hp, rfl⟩ := List.mem_map.1 hx
     rw [mkB_data] at h3
     exact h2 (h1.2 ⟨p, hp, h3⟩)
 rw [et] at this
 exact this
end Go.Proofs.YtkpkfallgjdkmaaGreatDoor.Pure
namespace Go.Proofs.YtkpkfallgjdkmaaGreatDoor.P
open Go.RowKit Go.Proofs.YtkpkfallgjdkmaaGreatDoorW.PrintWords Go.Proofs.YtkpkfallgjdkmaaGreatDoorW.PrintLast Go.Proofs.YtkpkfallgjdkmaaGreatDoorW.PrintMore
attribute [local go_sem] max2_int min2_int max_two min_two max_three min_three max_four min_four
set_option linter.unusedVariables false
set_option linter.unusedSimpArgs false
def impl_compareRecords.f (k : Nat) (a0_0 : ByteArray) (a0_1 : Int) (a0_2 : Int) (a0_3 : ByteArray) (a1_0 : ByteArray) (a1_1 : Int) (a1_2 : Int) (a1_3 : ByteArray) : Option (Int) := (impl_compareKeys.f k a0_0 a0_1 a0_2 a0_3 a1_0 a1_1 a1_2 a1_3).bind fun t587 => ((impl_dataBytes.f k a0_1 a0_3).bind fun t588 => ((impl_dataBytes.f k a1_1 a1_3).bind fun t589 => ((strings_Compare.f t588 t589).bind fun t590 => ((cmp_Compare_int.f a0_2 a1_2).bind fun t591 => ((cmp_Or_int.f k (([t587, t590, t591] : List Int))).bind fun t595 => (some t595))))))
def impl_compareRecords.T1 : Bool × List (List Nat × List Nat) := (true, [([], []), ([], []), ([0, 1], [0, 1]), ([], []), ([3], [3]), ([], []), ([5], [5]), ([4, 6, 2], [4, 6]), ([], []), ([8], [8]), ([], []), ([10], [10]), ([9, 11, 7], [9, 11]), ([7, 12, 12], [7, 12]), ([], []), ([14], [14]), ([], []), ([16], [16]), ([15, 17, 13], [15, 17]), ([2, 13, 18], [2, 13, 18]), ([19, 18], [19]), ([20, 20, 0, 1, 2, 3, 4, 5, 6, 7, 8, 9, 10, 11, 12, 13, 14, 15, 16, 17, 18, 19, 20], [20])])
def impl_compareRecords.B1 : List Nat := [0, 0, 3, 0, 8, 0, 32, 127, 0, 256, 0, 1024, 4095, 8191, 0, 16384, 0, 65536, 262143, 524287, 1048575, 2097151]
theorem impl_compareRecords.tab1 : rtab .any (opsOf Tryz.f114 1) = impl_compareRecords.T1 := by kernel_rfl
theorem impl_compareRecords.bits1 : waitsOk impl_compareRecords.T1.2 impl_compareRecords.B1 = true := by kernel_rfl
set_option maxHeartbeats 8000000 in
set_option maxRecDepth 100000 in
theorem impl_compareRecords.calls (k : Nat) (a0_0 : ByteArray) (a0_1 : Int) (a0_2 : Int) (a0_3 : ByteArray) (a1_0 : ByteArray) (a1_1 : Int) (a1_2 : Int) (a1_3 : ByteArray) (r : Int) (w : World) (h : impl_compareRecords.f k a0_0 a0_1 a0_2 a0_3 a1_0 a1_1 a1_2 a1_3 = some r) (hv_ : Vars w := by exact vv_) :
 Calls Tryz.prog 114 #[.agg #[.string a0_0, .int .i64 a0_1, .int .i64 a0_2, .string a0_3], .agg #[.string a1_0, .int .i64 a1_1, .int .i64 a1_2, .string a1_3]] w fun e w' => e = .returned (.int .i64 r) ∧ Below w.heap.size w w' := by
 have HV_ := a0_ hv_
 clear hv_
 have hu72 := Tryz.underlying72
 have HB := a0_ (Below.refl w.heap.size w)
 have H : ((impl_compareKeys.f k a0_0 a0_1 a0_2 a0_3 a1_0 a1_1 a1_2 a1_3).bind fun t587 => ((impl_dataBytes.f k a0_1 a0_3).bind fun t588 => ((impl_dataBytes.f k a1_1 a1_3).bind fun t589 => ((strings_Compare.f t588 t589).bind fun t590 => ((cmp_Compare_int.f a0_2 a1_2).bind fun t591 => ((cmp_Or_int.f k (([t587, t590, t591] : List Int))).bind fun t595 => (some t595))))))) = some r := h
 clear h
 obtain ⟨t587, A30, H⟩ := Option.bind_eq_some_iff.mp H
 have A3 := a0_ A30
 clear A30
 obtain ⟨t588, A40, H⟩ := Option.bind_eq_some_iff.mp H
 have A4 := a0_ A40
 clear A40
 obtain ⟨t589, A50, H⟩ := Option.bind_eq_some_iff.mp H
 have A5 := a0_ A50
 clear A50
 obtain ⟨t590, A60, H⟩ := Option.bind_eq_some_iff.mp H
 have A6 := a0_ A60
 clear A60
 obtain ⟨t591, A70, H⟩ := Option.bind_eq_some_iff.mp H
 have A7 := a0_ A70
 clear A70
 obtain ⟨y592, hy592⟩ : ∃ y_ : List Int, y_ = (([t587, t590, t591] : List Int)) := ⟨_, rfl⟩
 replace H : ((cmp_Or_int.f k y592).bind fun t595 => (some t595)) = some r := by first | (rw [hy592]; with_reducible exact H) | (have H2_ := (Option.bind_some _ _).symm.trans H; rw [hy592]; with_reducible exact H2_) | (have H2_ := (Option.bind_some _ _).symm.trans H; with_reducible exact H2_) | with_reducible exact H | (rw [hy592]; exact H) | exact H
 have Ny592 := a0_ hy592
 clear hy592
 obtain ⟨t595, A80, H⟩ := Option.bind_eq_some_iff.mp H
 have A8 := a0_ A80
 clear A80
 obtain rfl := Option.some.inj H
 go_enter Tryz.func114, Tryz.ntmps114
 try go_wp2_with (first | ((with_reducible refine gate_dst (N := 2) rfl ?_); refine boxS_ 2 #[.string a0_0, .int .i64 a0_1, .int .i64 a0_2, .string a0_3] 72 (fun gb585 hg w9 hbox hb => ?_); have n0_ := a0_ (below_step bq0_ hb); have n1_ := a0_ (hbox); have n2_ := a0_ (gw_ hg : w.heap.size ≤ gb585); have n3_ := n2_; clear HB; have HB := n0_; have BK585 := n1_; have GW585 := n2_; have GE585 := n3_; clear n0_ n1_ n2_ n3_; clear hb hbox hg) | ((with_reducible refine gate_dst (N := 3) rfl ?_); refine boxS_ 3 #[.string a1_0, .int .i64 a1_1, .int .i64 a1_2, .string a1_3] 72 (fun gb586 hg w10 hbox hb => ?_); have n0_ := a0_ (bkB_ BK585 hb); have n1_ := a0_ (below_step bq1_ hb); have n2_ := a0_ (hbox); have n3_ := a0_ (gw_ hg (below_size bq1_) : w.heap.size ≤ gb586); have n4_ := n3_; have n5_ := a0_ ((by rw [hg]; exact Nat.ne_of_lt (blk_lt (g := gb585) (o := .cells #[.string a0_0, .int .i64 a0_1, .int .i64 a0_2, .string a0_3] 72 (0, 0)) (kB_ BK585.out)) : gb585 ≠ gb586)); have n6_ := a0_ ((by rw [hg]; exact Nat.ne_of_gt (blk_lt (g := gb585) (o := .cells #[.string a0_0, .int .i64 a0_1, .int .i64 a0_2, .string a0_3] 72 (0, 0)) (kB_ BK585.out)) : gb586 ≠ gb585)); clear BK585; clear HB; have BK585 := n0_; have HB := n1_; have BK586 := n2_; have GW586 := n3_; have GE586 := n4_; have NB585_586 := n5_; have NB586_585 := n6_; clear n0_ n1_ n2_ n3_ n4_ n5_ n6_; clear hb hbox hg))
 replace BK585 := a0_ (blk_drew BK585.out)
 replace BK586 := a0_ (blk_drew BK586.out)
 replace HB := a0_ (below_drew1 HB.out)
 refine start_ (n := 22) (S := fun w' => w'.cell? ⟨gb585, 0, none⟩ = some (.string a0_0) ∧ w'.cell? ⟨gb585, 1, none⟩ = some (.int .i64 a0_1) ∧ w'.cell? ⟨gb585, 2, none⟩ = some (.int .i64 a0_2) ∧ w'.cell? ⟨gb585, 3, none⟩ = some (.string a0_3) ∧ w'.cell? ⟨gb586, 0, none⟩ = some (.string a1_0) ∧ w'.cell? ⟨gb586, 1, none⟩ = some (.int .i64 a1_1) ∧ w'.cell? ⟨gb586, 2, none⟩ = some (.int .i64 a1_2) ∧ w'.cell? ⟨gb586, 3, none⟩ = some (.string a1_3)) (ds := []) #[false, false, false, false, false, false, false, false, false, false, false, false, false, false, false, false, false, false, false, false, false, false] (by kernel_rfl) rfl rfl ⟨(blk_cell BK585.out 0).trans rfl, (blk_cell BK585.out 1).trans rfl, (blk_cell BK585.out 2).trans rfl, (blk_cell BK585.out 3).trans rfl, (blk_cell BK586.out 0).trans rfl, (blk_cell BK586.out 1).trans rfl, (blk_cell BK586.out 2).trans rfl, (blk_cell BK586.out 3).trans rfl⟩ (fun hHeld => ?_); refine with_tabW impl_compareRecords.tab1 impl_compareRecords.bits1 (fun HT_ HW_ => ?_)
 generalize w10.drew = w11 at BK585 BK586 HB hHeld ⊢
 refine pureS_ 3 (some 8) ?_
 refine pureS_ 5 (some 10) ?_
 refine pureS_ 8 (some 13) ?_
 refine pureS_ 10 (some 15) ?_
 refine pureS_ 14 (some 19) ?_
 refine pureS_ 16 (some 21) ?_
 refine takeS_ 0 (some 5) ?_
 refine takeS_ 1 (some 6) ?_
 refine takeS_ 4 (some 9) ?_
 refine takeS_ 6 (some 11) ?_
 refine takeS_ 9 (some 14) ?_
 refine takeS_ 11 (some 16) ?_
 refine takeS_ 15 (some 20) ?_
 refine takeS_ 17 (some 22) ?_
 refine oneS_ 2 (some 7) (fun K hK => ?_)
 refine goes_ Tryz.func128 (by kernel_rfl) rfl #[.agg #[.string a0_0, .int .i64 a0_1, .int .i64 a0_2, .string a0_3], .agg #[.string a1_0, .int .i64 a1_1, .int .i64 a1_2, .string a1_3]] (by rfl) rfl rfl argsS_ ?_
 with_reducible refine (impl_compareKeys.calls k a0_0 a0_1 a0_2 a0_3 a1_0 a1_1 a1_2 a1_3 t587 _ A3.out).mono ?_
 rintro e w12 ⟨rfl, hb⟩
 refine ⟨_, rfl, ?_⟩
 replace BK585 := a0_ (bkB_ BK585 hb)
 replace BK586 := a0_ (bkB_ BK586 hb)
 replace HB := a0_ (below_step bq1_ hb)
 (try clear hb)
 (try clear hb2)
 (try clear hk)
 (try clear hi)
 refine hK.out _ _ ⟨(blk_cell BK585.out 0).trans rfl, (blk_cell BK585.out 1).trans rfl, (blk_cell BK585.out 2).trans rfl, (blk_cell BK585.out 3).trans rfl, (blk_cell BK586.out 0).trans rfl, (blk_cell BK586.out 1).trans rfl, (blk_cell BK586.out 2).trans rfl, (blk_cell BK586.out 3).trans rfl⟩ (fun hHeld => ?_)
 clear hK K
 refine normS_ ?_
 refine oneS_ 7 (some 12) (fun K hK => ?_)
 refine goes_ Tryz.func130 (by kernel_rfl) rfl #[.int .i64 a0_1, .string a0_3] (by rfl) rfl rfl argsS_ ?_
 with_reducible refine (impl_dataBytes.calls k a0_1 a0_3 t588 _ A4.out).mono ?_
 rintro e w13 ⟨rfl, hb⟩
 refine ⟨_, rfl, ?_⟩
 replace BK585 := a0_ (bkB_ BK585 hb)
 replace BK586 := a0_ (bkB_ BK586 hb)
 replace HB := a0_ (below_step bq1_ hb)
 (try clear hb)
 (try clear hb2)
 (try clear hk)
 (try clear hi)
 refine hK.out _ _ ⟨(blk_cell BK585.out 0).trans rfl, (blk_cell BK585.out 1).trans rfl, (blk_cell BK585.out 2).trans rfl, (blk_cell BK585.out 3).trans rfl, (blk_cell BK586.out 0).trans rfl, (blk_cell BK586.out 1).trans rfl, (blk_cell BK586.out 2).trans rfl, (blk_cell BK586.out 3).trans rfl⟩ (fun hHeld => ?_)
 clear hK K
 refine normS_ ?_
 refine oneS_ 12 (some 17) (fun K hK => ?_)
 refine goes_ Tryz.func130 (by kernel_rfl) rfl #[.int .i64 a1_1, .string a1_3] (by rfl) rfl rfl argsS_ ?_
 with_reducible refine (impl_dataBytes.calls k a1_1 a1_3 t589 _ A5.out).mono ?_
 rintro e w14 ⟨rfl, hb⟩
 refine ⟨_, rfl, ?_⟩
 replace BK585 := a0_ (bkB_ BK585 hb)
 replace BK586 := a0_ (bkB_ BK586 hb)
 replace HB := a0_ (below_step bq1_ hb)
 (try clear hb)
 (try clear hb2)
 (try clear hk)
 (try clear hi)
 refine hK.out _ _ ⟨(blk_cell BK585.out 0).trans rfl, (blk_cell BK585.out 1).trans rfl, (blk_cell BK585.out 2).trans rfl, (blk_cell BK585.out 3).trans rfl, (blk_cell BK586.out 0).trans rfl, (blk_cell BK586.out 1).trans rfl, (blk_cell BK586.out 2).trans rfl, (blk_cell BK586.out 3).trans rfl⟩ (fun hHeld => ?_)
 clear hK K
 refine normS_ ?_
 refine oneS_ 13 (some 18) (fun K hK => ?_)
 refine goes_ Tryz.func129 (by kernel_rfl) rfl #[.string t588, .string t589] (by rfl) rfl rfl argsS_ ?_
 with_reducible refine (strings_Compare.calls t588 t589 t590 _ A6.out).mono ?_
 rintro e w' ⟨rfl, ⟨nd, rfl⟩⟩
 refine ⟨_, rfl, ?_⟩
 refine hK.out _ _ ⟨(blk_cell BK585.out 0).trans rfl, (blk_cell BK585.out 1).trans rfl, (blk_cell BK585.out 2).trans rfl, (blk_cell BK585.out 3).trans rfl, (blk_cell BK586.out 0).trans rfl, (blk_cell BK586.out 1).trans rfl, (blk_cell BK586.out 2).trans rfl, (blk_cell BK586.out 3).trans rfl⟩ (fun hHeld => ?_)
 clear hK K
 refine normS_ ?_
 refine oneS_ 18 (some 23) (fun K hK => ?_)
 refine goes_ Tryz.func131 (by kernel_rfl) rfl #[.int .i64 a0_2, .int .i64 a1_2] (by rfl) rfl rfl argsS_ ?_
 with_reducible refine (cmp_Compare_int.calls a0_2 a1_2 t591 _ A7.out).mono ?_
 rintro e w' ⟨rfl, ⟨nd, rfl⟩⟩
 refine ⟨_, rfl, ?_⟩
 refine hK.out _ _ ⟨(blk_cell BK585.out 0).trans rfl, (blk_cell BK585.out 1).trans rfl, (blk_cell BK585.out 2).trans rfl, (blk_cell BK585.out 3).trans rfl, (blk_cell BK586.out 0).trans rfl, (blk_cell BK586.out 1).trans rfl, (blk_cell BK586.out 2).trans rfl, (blk_cell BK586.out 3).trans rfl⟩ (fun hHeld => ?_)
 clear hK K
 refine normS_ ?_
 refine oneS_ 19 (some 24) (fun K hK => ?_)
 refine Kd.R_lit_step (Kd.int .i64) _ 3 ?hg (N := 24) ?hd (xs := ([t587, t590, t591] : List Int)) (inner := [.int .i64 t587, .int .i64 t590, .int .i64 t591]) (ok := fun _ => True) (okp := fun _ => True) ?hr ?hp (fun _ hk => hk) trivial (Below.refl _ _) (Nat.le_refl _) (by simp) ?_; (case hd => rfl); (case hg => rfl); (case hr => first | (go_simp; done) | (go_simp; rfl)); (case hp => exact (Reps.one (show Kd.M (Kd.int .i64) _ _ _ t587 [.int .i64 t587] from rfl) (Reps.one (show Kd.M (Kd.int .i64) _ _ _ t590 [.int .i64 t590] from rfl) (Reps.one (show Kd.M (Kd.int .i64) _ _ _ t591 [.int .i64 t591] from rfl) (Reps.none _ _)))))
 intro v593 w15 ho16 hb hg_ hnew_
 clear hg_ hnew_
 (first | rw [← Ny592.out] at ho16 | (simp only [Int.reduceToNat] at ho16; rw [← Ny592.out] at ho16))
 have HO594 := a0_ (Kd.R_lower ho16 (below_size bq1_))
 replace BK585 := a0_ (bkB_ BK585 hb)
 replace BK586 := a0_ (bkB_ BK586 hb)
 replace HB := a0_ (below_step bq1_ hb)
 clear hb ho16
 obtain ⟨Ao17, co17, eo17⟩ := Kd.R_slice HO594.out
 (first | subst eo17 | (injection eo17 with f1_ f2_ f3_; have f4_ := f1_.symm; have f5_ := f3_.symm; clear f1_ f2_ f3_; subst f4_; subst f5_))
 refine hK.out _ _ ⟨(blk_cell BK585.out 0).trans rfl, (blk_cell BK585.out 1).trans rfl, (blk_cell BK585.out 2).trans rfl, (blk_cell BK585.out 3).trans rfl, (blk_cell BK586.out 0).trans rfl, (blk_cell BK586.out 1).trans rfl, (blk_cell BK586.out 2).trans rfl, (blk_cell BK586.out 3).trans rfl⟩ (fun hHeld => ?_)
 clear hK K
 refine normS_ ?_
 refine oneS_ 20 (some 25) (fun K hK => ?_)
 refine goes_ Tryz.func127 (by kernel_rfl) rfl #[.slice Ao17 y592.length co17] (by rfl) rfl rfl argsS_ ?_
 with_reducible refine (cmp_Or_int.calls k _ _ y592 t595 _ ?side1 ?side2 A8.out).mono ?_
 (case side1 => exact kD_ (Kd.R_reads' HO594.out).2.2)
 (case side2 => exact (Kd.R_reads' HO594.out).2.1)
 rintro e w' ⟨rfl, ⟨nd, rfl⟩⟩
 refine ⟨_, rfl, ?_⟩
 refine hK.out _ _ ⟨(blk_cell BK585.out 0).trans rfl, (blk_cell BK585.out 1).trans rfl, (blk_cell BK585.out 2).trans rfl, (blk_cell BK585.out 3).trans rfl, (blk_cell BK586.out 0).trans rfl, (blk_cell BK586.out 1).trans rfl, (blk_cell BK586.out 2).trans rfl, (blk_cell BK586.out 3).trans rfl⟩ (fun hHeld => ?_)
 clear hK K
 refine normS_ ?_
 refine pureS_ 21 (some 4) ?_
 refine done_ (done_of HT_.out (by kernel_rfl)) ?_
 try go_wp2
 go_ret
 exact ⟨rr_, bq1_⟩
def impl_areRecords_1.f (k : Nat) (a0_0 : ByteArray) (a0_1 : Int) (a0_2 : Int) (a0_3 : ByteArray) : Option (Bool) := (impl_GoodRecord.f k a0_0 a0_1 a0_2 a0_3).bind fun t1041 => (some (!t1041))
end Go.Proofs.YtkpkfallgjdkmaaGreatDoor.P
