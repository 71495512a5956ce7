/- FnExactReplyTo: part 19 of 23 of my texts for this claim, joined; the theorem stands in the last. Conditions: none beyond the statement's. -/
import Derived.Test.YtkpkfallgjdkmaaGreatDoorMFnExactReplyTox16
import Derived.Test.YtkpkfallgjdkmaaGreatDoorMFnExactReplyTox17
namespace Go.Proofs.YtkpkfallgjdkmaaGreatDoor.P
open Go.RowKit Go.Proofs.YtkpkfallgjdkmaaGreatDoorW.PrintWords Go.Proofs.YtkpkfallgjdkmaaGreatDoorW.PrintLast Go.Proofs.YtkpkfallgjdkmaaGreatDoorW.PrintMore
attribute [local go_sem] max2_int min2_int max_two min_two max_three min_three max_four min_four
set_option linter.unusedVariables false
set_option linter.unusedSimpArgs false
def impl_GoodMessage.f (k : Nat) (a0_0 : Int) (a0_1 : Bool) (a0_2 : Bool) (a0_3 : Int) (a0_4 : ByteArray) (a0_5 : Int) (l0_6 : List (S72)) (l0_7 : List (S72)) : Option (Bool) := (impl_within.f a0_0 0 65535).bind fun t206 => (if t206 = true then ((impl_isCode.f k a0_3).bind fun t207 => (if t207 = true then ((impl_GoodName.f a0_4).bind fun t208 => (if t208 = true then ((impl_isType.f k a0_5).bind fun t209 => (if t209 = true then (if (l0_6.length : Int) > 12 then (some false) else (if (l0_7.length : Int) > 12 then (some false) else ((impl_areRecords.f k l0_6).bind fun t210 => (if t210 = true then ((impl_areRecords.f k l0_7).bind fun t211 => (if t211 = true then (if a0_1 = true then (some true) else (if a0_2 = true then (some false) else (if a0_3 = 0 then (if (l0_6.length : Int) = 0 then (some ((l0_7.length : Int) == 0)) else (some false)) else (some false)))) else (some false))) else (some false))))) else (some false))) else (some false))) else (some false))) else (some false))
set_option maxHeartbeats 8000000 in
set_option maxRecDepth 100000 in
theorem impl_GoodMessage.calls (k : Nat) (a0_0 : Int) (a0_1 : Bool) (a0_2 : Bool) (a0_3 : Int) (a0_4 : ByteArray) (a0_5 : Int) (A0_6 : Option Addr) (c0_6 : Nat) (l0_6 : List (S72)) (A0_7 : Option Addr) (c0_7 : Nat) (l0_7 : List (S72)) (r : Bool) (w : World) (hr0_6 : Kd.C k72 w A0_6 l0_6.length l0_6) (hc0_6 : l0_6.length ≤ c0_6) (hr0_7 : Kd.C k72 w A0_7 l0_7.length l0_7) (hc0_7 : l0_7.length ≤ c0_7) (h : impl_GoodMessage.f k a0_0 a0_1 a0_2 a0_3 a0_4 a0_5 l0_6 l0_7 = some r) (hv_ : Vars w := by exact vv_) :
 Calls Tryz.prog 49 #[.agg #[.int .i64 a0_0, .bool a0_1, .bool a0_2, .int .i64 a0_3, .string a0_4, .int .i64 a0_5, .slice A0_6 l0_6.length c0_6, .slice A0_7 l0_7.length c0_7]] w fun e w' => e = .returned (.bool r) ∧ Below w.heap.size w w' := by
 have HV_ := a0_ hv_
 clear hv_
 have hu24 := Tryz.underlying24
 have HR0_6 := a0_ hr0_6
 have HC0_6 := a0_ hc0_6
 clear hr0_6 hc0_6
 have HR0_7 := a0_ hr0_7
 have HC0_7 := a0_ hc0_7
 clear hr0_7 hc0_7
 have HB := a0_ (Below.refl w.heap.size w)
 have H : ((impl_within.f a0_0 0 65535).bind fun t206 => (if t206 = true then ((impl_isCode.f k a0_3).bind fun t207 => (if t207 = true then ((impl_GoodName.f a0_4).bind fun t208 => (if t208 = true then ((impl_isType.f k a0_5).bind fun t209 => (if t209 = true then (if (l0_6.length : Int) > 12 then (some false) else (if (l0_7.length : Int) > 12 then (some false) else ((impl_areRecords.f k l0_6).bind fun t210 => (if t210 = true then ((impl_areRecords.f k l0_7).bind fun t211 => (if t211 = true then (if a0_1 = true then (some true) else (if a0_2 = true then (some false) else (if a0_3 = 0 then (if (l0_6.length : Int) = 0 then (some ((l0_7.length : Int) == 0)) else (some false)) else (some false)))) else (some false))) else (some false))))) else (some false))) else (some false))) else (some false))) else (some false))) = some r := h
 clear h
 obtain ⟨t206, A20, H⟩ := Option.bind_eq_some_iff.mp H
 have A2 := a0_ A20
 clear A20
 by_cases c3 : t206 = true
 case neg =>
  replace c3 := Bool.eq_false_iff.mpr c3
  subst c3
  rw [if_neg (show ¬ (false = true) by decide)] at H
  obtain rfl := Option.some.inj H
  go_enter Tryz.func49, Tryz.ntmps49
  go_wp2_with (first | ((with_reducible refine gate_dst (N := 1) rfl ?_); (try (refine gate_guard (by rfl) ?_; dsimp only)); refine boxS_ 1 #[.int .i64 a0_0, .bool a0_1, .bool a0_2, .int .i64 a0_3, .string a0_4, .int .i64 a0_5, .slice A0_6 l0_6.length c0_6, .slice A0_7 l0_7.length c0_7] 24 (fun gb205 hg w131 hbox hb => ?_); have n0_ := a0_ (below_step bq0_ hb); have n1_ := a0_ (hbox); have n2_ := a0_ (gw_ hg : w.heap.size ≤ gb205); have n3_ := n2_; clear HB; have HB := n0_; have BK205 := n1_; have GW205 := n2_; have GE205 := n3_; clear n0_ n1_ n2_ n3_; clear hb hbox hg; obtain ⟨z132_0, z132_1, z132_2, z132_3, z132_4, z132_5, z132_6, z132_7, q132_0, q132_1, q132_2, q132_3, q132_4, q132_5, q132_6, q132_7⟩ := bk8_ BK205.out) | ((with_reducible refine gate_callee (f := 78) rfl ?_); refine goesL_ (some 5) rfl rfl Tryz.func78 (by kernel_rfl) rfl #[.int .i64 a0_0, .int .i64 0, .int .i64 65535] rfl argsS_ ?_; (with_reducible refine (impl_within.calls a0_0 0 65535 false _ A2.out).mono ?_); rintro e w' ⟨rfl, ⟨nd, rfl⟩⟩; refine ⟨_, rfl, ?_⟩))
  go_ret
  exact ⟨rr_, bq1_⟩
 subst c3
 rw [if_pos rfl] at H
 obtain ⟨t207, A40, H⟩ := Option.bind_eq_some_iff.mp H
 have A4 := a0_ A40
 clear A40
 by_cases c5 : t207 = true
 case neg =>
  replace c5 := Bool.eq_false_iff.mpr c5
  subst c5
  rw [if_neg (show ¬ (false = true) by decide)] at H
  obtain rfl := Option.some.inj H
  go_enter Tryz.func49, Tryz.ntmps49
  go_wp2_with (first | ((with_reducible refine gate_dst (N := 1) rfl ?_); (try (refine gate_guard (by rfl) ?_; dsimp only)); refine boxS_ 1 #[.int .i64 a0_0, .bool a0_1, .bool a0_2, .int .i64 a0_3, .string a0_4, .int .i64 a0_5, .slice A0_6 l0_6.length c0_6, .slice A0_7 l0_7.length c0_7] 24 (fun gb205 hg w128 hbox hb => ?_); have n0_ := a0_ (below_step bq0_ hb); have n1_ := a0_ (hbox); have n2_ := a0_ (gw_ hg : w.heap.size ≤ gb205); have n3_ := n2_; clear HB; have HB := n0_; have BK205 := n1_; have GW205 := n2_; have GE205 := n3_; clear n0_ n1_ n2_ n3_; clear hb hbox hg; obtain ⟨z129_0, z129_1, z129_2, z129_3, z129_4, z129_5, z129_6, z129_7, q129_0, q129_1, q129_2, q129_3, q129_4, q129_5, q129_6, q129_7⟩ := bk8_ BK205.out) | ((with_reducible refine gate_callee (f := 78) rfl ?_); refine goesL_ (some 5) rfl rfl Tryz.func78 (by kernel_rfl) rfl #[.int .i64 a0_0, .int .i64 0, .int .i64 65535] rfl argsS_ ?_; (with_reducible refine (impl_within.calls a0_0 0 65535 true _ A2.out).mono ?_); rintro e w' ⟨rfl, ⟨nd, rfl⟩⟩; refine ⟨_, rfl, ?_⟩) | (go_at_call 79; (with_reducible refine (impl_isCode.calls k a0_3 false _ A4.out).mono ?_); rintro e w130 ⟨rfl, hb⟩; replace BK205 := a0_ (bkB_ BK205 hb); replace HB := a0_ (below_step bq1_ hb); (try clear hb); (try clear hb2); (try clear hk); (try clear hi)))
  go_ret
  exact ⟨rr_, bq1_⟩
 subst c5
 rw [if_pos rfl] at H
 obtain ⟨t208, A60, H⟩ := Option.bind_eq_some_iff.mp H
 have A6 := a0_ A60
 clear A60
 by_cases c7 : t208 = true
 case neg =>
  replace c7 := Bool.eq_false_iff.mpr c7
  subst c7
  rw [if_neg (show ¬ (false = true) by decide)] at H
  obtain rfl := Option.some.inj H
  go_enter Tryz.func49, Tryz.ntmps49
  go_wp2_with (first | ((with_reducible refine gate_dst (N := 1) rfl ?_); (try (refine gate_guard (by rfl) ?_; dsimp only)); refine boxS_ 1 #[.int .i64 a0_0, .bool a0_1, .bool a0_2, .int .i64 a0_3, .string a0_4, .int .i64 a0_5, .slice A0_6 l0_6.length c0_6, .slice A0_7 l0_7.length c0_7] 24 (fun gb205 hg w123 hbox hb => ?_); have n0_ := a0_ (below_step bq0_ hb); have n1_ := a0_ (hbox); have n2_ := a0_ (gw_ hg : w.heap.size ≤ gb205); have n3_ := n2_; clear HB; have HB := n0_; have BK205 := n1_; have GW205 := n2_; have GE205 := n3_; clear n0_ n1_ n2_ n3_; clear hb hbox hg; obtain ⟨z124_0, z124_1, z124_2, z124_3, z124_4, z124_5, z124_6, z124_7, q124_0, q124_1, q124_2, q124_3, q124_4, q124_5, q124_6, q124_7⟩ := bk8_ BK205.out) | ((with_reducible refine gate_callee (f := 78) rfl ?_); refine goesL_ (some 5) rfl rfl Tryz.func78 (by kernel_rfl) rfl #[.int .i64 a0_0, .int .i64 0, .int .i64 65535] rfl argsS_ ?_; (with_reducible refine (impl_within.calls a0_0 0 65535 true _ A2.out).mono ?_); rintro e w' ⟨rfl, ⟨nd, rfl⟩⟩; refine ⟨_, rfl, ?_⟩) | (go_at_call 79; (with_reducible refine (impl_isCode.calls k a0_3 true _ A4.out).mono ?_); rintro e w125 ⟨rfl, hb⟩; replace BK205 := a0_ (bkB_ BK205 hb); replace HB := a0_ (below_step bq1_ hb); (try clear hb); (try clear hb2); (try clear hk); (try clear hi); obtain ⟨z126_0, z126_1, z126_2, z126_3, z126_4, z126_5, z126_6, z126_7, q126_0, q126_1, q126_2, q126_3, q126_4, q126_5, q126_6, q126_7⟩ := bk8_ BK205.out) | (go_at_call 72; (with_reducible refine (impl_GoodName.calls a0_4 false _ A6.out).mono ?_); rintro e w127 ⟨rfl, hb⟩; replace BK205 := a0_ (bkB_ BK205 hb); replace HB := a0_ (below_step bq1_ hb); (try clear hb); (try clear hb2); (try clear hk); (try clear hi)))
  go_ret
  exact ⟨rr_, bq1_⟩
 subst c7
 rw [if_pos rfl] at H
 obtain ⟨t209, A80, H⟩ := Option.bind_eq_some_iff.mp H
 have A8 := a0_ A80
 clear A80
 by_cases c9 : t209 = true
 case neg =>
  replace c9 := Bool.eq_false_iff.mpr c9
  subst c9
  rw [if_neg (show ¬ (false = true) by decide)] at H
  obtain rfl := Option.some.inj H
  go_enter Tryz.func49, Tryz.ntmps49
  go_wp2_with (first | ((with_reducible refine gate_dst (N := 1) rfl ?_); (try (refine gate_guard (by rfl) ?_; dsimp only)); refine boxS_ 1 #[.int .i64 a0_0, .bool a0_1, .bool a0_2, .int .i64 a0_3, .string a0_4, .int .i64 a0_5, .slice A0_6 l0_6.length c0_6, .slice A0_7 l0_7.length c0_7] 24 (fun gb205 hg w116 hbox hb => ?_); have n0_ := a0_ (below_step bq0_ hb); have n1_ := a0_ (hbox); have n2_ := a0_ (gw_ hg : w.heap.size ≤ gb205); have n3_ := n2_; clear HB; have HB := n0_; have BK205 := n1_; have GW205 := n2_; have GE205 := n3_; clear n0_ n1_ n2_ n3_; clear hb hbox hg; obtain ⟨z117_0, z117_1, z117_2, z117_3, z117_4, z117_5, z117_6, z117_7, q117_0, q117_1, q117_2, q117_3, q117_4, q117_5, q117_6, q117_7⟩ := bk8_ BK205.out) | ((with_reducible refine gate_callee (f := 78) rfl ?_); refine goesL_ (some 5) rfl rfl Tryz.func78 (by kernel_rfl) rfl #[.int .i64 a0_0, .int .i64 0, .int .i64 65535] rfl argsS_ ?_; (with_reducible refine (impl_within.calls a0_0 0 65535 true _ A2.out).mono ?_); rintro e w' ⟨rfl, ⟨nd, rfl⟩⟩; refine ⟨_, rfl, ?_⟩) | (go_at_call 79; (with_reducible refine (impl_isCode.calls k a0_3 true _ A4.out).mono ?_); rintro e w118 ⟨rfl, hb⟩; replace BK205 := a0_ (bkB_ BK205 hb); replace HB := a0_ (below_step bq1_ hb); (try clear hb); (try clear hb2); (try clear hk); (try clear hi); obtain ⟨z119_0, z119_1, z119_2, z119_3, z119_4, z119_5, z119_6, z119_7, q119_0, q119_1, q119_2, q119_3, q119_4, q119_5, q119_6, q119_7⟩ := bk8_ BK205.out) | (go_at_call 72; (with_reducible refine (impl_GoodName.calls a0_4 true _ A6.out).mono ?_); rintro e w120 ⟨rfl, hb⟩; replace BK205 := a0_ (bkB_ BK205 hb); replace HB := a0_ (below_step bq1_ hb); (try clear hb); (try clear hb2); (try clear hk); (try clear hi); obtain ⟨z121_0, z121_1, z121_2, z121_3, z121_4, z121_5, z121_6, z121_7, q121_0, q121_1, q121_2, q121_3, q121_4, q121_5, q121_6, q121_7⟩ := bk8_ BK205.out) | (go_at_call 73; (with_reducible refine (impl_isType.calls k a0_5 false _ A8.out).mono ?_); rintro e w122 ⟨rfl, hb⟩; replace BK205 := a0_ (bkB_ BK205 hb); replace HB := a0_ (below_step bq1_ hb); (try clear hb); (try clear hb2); (try clear hk); (try clear hi)))
  go_ret
  exact ⟨rr_, bq1_⟩
 subst c9
 rw [if_pos rfl] at H
 by_cases c10 : (l0_6.length : Int) > 12
 case pos =>
  rw [if_pos c10] at H
  have c10b0 := decide_eq_true c10
  have c10b1 : decide (12 < l0_6.length) = true := decide_eq_true (by omega)
  clear c10
  obtain rfl := Option.some.inj H
  go_enter Tryz.func49, Tryz.ntmps49
  go_wp2_with (first | ((with_reducible refine gate_dst (N := 1) rfl ?_); (try (refine gate_guard (by rfl) ?_; dsimp only)); refine boxS_ 1 #[.int .i64 a0_0, .bool a0_1, .bool a0_2, .int .i64 a0_3, .string a0_4, .int .i64 a0_5, .slice A0_6 l0_6.length c0_6, .slice A0_7 l0_7.length c0_7] 24 (fun gb205 hg w11 hbox hb => ?_); have n0_ := a0_ (below_step bq0_ hb); have n1_ := a0_ (hbox); have n2_ := a0_ (gw_ hg : w.heap.size ≤ gb205); have n3_ := n2_; clear HB; have HB := n0_; have BK205 := n1_; have GW205 := n2_; have GE205 := n3_; clear n0_ n1_ n2_ n3_; clear hb hbox hg; obtain ⟨z12_0, z12_1, z12_2, z12_3, z12_4, z12_5, z12_6, z12_7, q12_0, q12_1, q12_2, q12_3, q12_4, q12_5, q12_6, q12_7⟩ := bk8_ BK205.out) | ((with_reducible refine gate_callee (f := 78) rfl ?_); refine goesL_ (some 5) rfl rfl Tryz.func78 (by kernel_rfl) rfl #[.int .i64 a0_0, .int .i64 0, .int .i64 65535] rfl argsS_ ?_; (with_reducible refine (impl_within.calls a0_0 0 65535 true _ A2.out).mono ?_); rintro e w' ⟨rfl, ⟨nd, rfl⟩⟩; refine ⟨_, rfl, ?_⟩) | (go_at_call 79; (with_reducible refine (impl_isCode.calls k a0_3 true _ A4.out).mono ?_); rintro e w13 ⟨rfl, hb⟩; replace BK205 := a0_ (bkB_ BK205 hb); replace HB := a0_ (below_step bq1_ hb); (try clear hb); (try clear hb2); (try clear hk); (try clear hi); obtain ⟨z14_0, z14_1, z14_2, z14_3, z14_4, z14_5, z14_6, z14_7, q14_0, q14_1, q14_2, q14_3, q14_4, q14_5, q14_6, q14_7⟩ := bk8_ BK205.out) | (go_at_call 72; (with_reducible refine (impl_GoodName.calls a0_4 true _ A6.out).mono ?_); rintro e w15 ⟨rfl, hb⟩; replace BK205 := a0_ (bkB_ BK205 hb); replace HB := a0_ (below_step bq1_ hb); (try clear hb); (try clear hb2); (try clear hk); (try clear hi); obtain ⟨z16_0, z16_1, z16_2, z16_3, z16_4, z16_5, z16_6, z16_7, q16_0, q16_1, q16_2, q16_3, q16_4, q16_5, q16_6, q16_7⟩ := bk8_ BK205.out) | (go_at_call 73; (with_reducible refine (impl_isType.calls k a0_5 true _ A8.out).mono ?_); rintro e w17 ⟨rfl, hb⟩; replace BK205 := a0_ (bkB_ BK205 hb); replace HB := a0_ (below_step bq1_ hb); (try clear hb); (try clear hb2); (try clear hk); (try clear hi); obtain ⟨z18_0, z18_1, z18_2, z18_3, z18_4, z18_5, z18_6, z18_7, q18_0, q18_1, q18_2, q18_3, q18_4, q18_5, q18_6, q18_7⟩ := bk8_ BK205.out))
  go_ret
  exact ⟨rr_, bq1_⟩
 rw [if_neg c10] at H
 have c10b0 := decide_eq_false c10
 have c10b1 : decide (12 < l0_6.length) = false := decide_eq_false (by omega)
 clear c10
 by_cases c19 : (l0_7.length : Int) > 12
 case pos =>
  rw [if_pos c19] at H
  have c19b0 := decide_eq_true c19
  have c19b1 : decide (12 < l0_7.length) = true := decide_eq_true (by omega)
  clear c19
  obtain rfl := Option.some.inj H
  go_enter Tryz.func49, Tryz.ntmps49
  go_wp2_with (first | ((with_reducible refine gate_dst (N := 1) rfl ?_); (try (refine gate_guard (by rfl) ?_; dsimp only)); refine boxS_ 1 #[.int .i64 a0_0, .bool a0_1, .bool a0_2, .int .i64 a0_3, .string a0_4, .int .i64 a0_5, .slice A0_6 l0_6.length c0_6, .slice A0_7 l0_7.length c0_7] 24 (fun gb205 hg w20 hbox hb => ?_); have n0_ := a0_ (below_step bq0_ hb); have n1_ := a0_ (hbox); have n2_ := a0_ (gw_ hg : w.heap.size ≤ gb205); have n3_ := n2_; clear HB; have HB := n0_; have BK205 := n1_; have GW205 := n2_; have GE205 := n3_; clear n0_ n1_ n2_ n3_; clear hb hbox hg; obtain ⟨z21_0, z21_1, z21_2, z21_3, z21_4, z21_5, z21_6, z21_7, q21_0, q21_1, q21_2, q21_3, q21_4, q21_5, q21_6, q21_7⟩ := bk8_ BK205.out) | ((with_reducible refine gate_callee (f := 78) rfl ?_); refine goesL_ (some 5) rfl rfl Tryz.func78 (by kernel_rfl) rfl #[.int .i64 a0_0, .int .i64 0, .int .i64 65535] rfl argsS_ ?_; (with_reducible refine (impl_within.calls a0_0 0 65535 true _ A2.out).mono ?_); rintro e w' ⟨rfl, ⟨nd, rfl⟩⟩; refine ⟨_, rfl, ?_⟩) | (go_at_call 79; (with_reducible refine (impl_isCode.calls k a0_3 true _ A4.out).mono ?_); rintro e w22 ⟨rfl, hb⟩; replace BK205 := a0_ (bkB_ BK205 hb); replace HB := a0_ (below_step bq1_ hb); (try clear hb); (try clear hb2); (try clear hk); (try clear hi); obtain ⟨z23_0, z23_1, z23_2, z23_3, z23_4, z23_5, z23_6, z23_7, q23_0, q23_1, q23_2, q23_3, q23_4, q23_5, q23_6, q23_7⟩ := bk8_ BK205.out) | (go_at_call 72; (with_reducible refine (impl_GoodName.calls a0_4 true _ A6.out).mono ?_); rintro e w24 ⟨rfl, hb⟩; replace BK205 := a0_ (bkB_ BK205 hb); replace HB := a0_ (below_step bq1_ hb); (try clear hb); (try clear hb2); (try clear hk); (try clear hi); obtain ⟨z25_0, z25_1, z25_2, z25_3, z25_4, z25_5, z25_6, z25_7, q25_0, q25_1, q25_2, q25_3, q25_4, q25_5, q25_6, q25_7⟩ := bk8_ BK205.out) | (go_at_call 73; (with_reducible refine (impl_isType.calls k a0_5 true _ A8.out).mono ?_); rintro e w26 ⟨rfl, hb⟩; replace BK205 := a0_ (bkB_ BK205 hb); replace HB := a0_ (below_step bq1_ hb); (try clear hb); (try clear hb2); (try clear hk); (try clear hi); obtain ⟨z27_0, z27_1, z27_2, z27_3, z27_4, z27_5, z27_6, z27_7, q27_0, q27_1, q27_2, q27_3, q27_4, q27_5, q27_6, q27_7⟩ := bk8_ BK205.out))
  go_ret
  exact ⟨rr_, bq1_⟩
 rw [if_neg c19] at H
 have c19b0 := decide_eq_false c19
 have c19b1 : decide (12 < l0_7.length) = false := decide_eq_false (by omega)
 clear c19
 obtain ⟨t210, A280, H⟩ := Option.bind_eq_some_iff.mp H
 have A28 := a0_ A280
 clear A280
 by_cases c29 : t210 = true
 case neg =>
  replace c29 := Bool.eq_false_iff.mpr c29
  subst c29
  rw [if_neg (show ¬ (false = true) by decide)] at H
  obtain rfl := Option.some.inj H
  go_enter Tryz.func49, Tryz.ntmps49
  go_wp2_with (first | ((with_reducible refine gate_dst (N := 1) rfl ?_); (try (refine gate_guard (by rfl) ?_; dsimp only)); refine boxS_ 1 #[.int .i64 a0_0, .bool a0_1, .bool a0_2, .int .i64 a0_3, .string a0_4, .int .i64 a0_5, .slice A0_6 l0_6.length c0_6, .slice A0_7 l0_7.length c0_7] 24 (fun gb205 hg w107 hbox hb => ?_); have n0_ := a0_ (below_step bq0_ hb); have n1_ := a0_ (hbox); have n2_ := a0_ (gw_ hg : w.heap.size ≤ gb205); have n3_ := n2_; clear HB; have HB := n0_; have BK205 := n1_; have GW205 := n2_; have GE205 := n3_; clear n0_ n1_ n2_ n3_; clear hb hbox hg; obtain ⟨z108_0, z108_1, z108_2, z108_3, z108_4, z108_5, z108_6, z108_7, q108_0, q108_1, q108_2, q108_3, q108_4, q108_5, q108_6, q108_7⟩ := bk8_ BK205.out) | ((with_reducible refine gate_callee (f := 78) rfl ?_); refine goesL_ (some 5) rfl rfl Tryz.func78 (by kernel_rfl) rfl #[.int .i64 a0_0, .int .i64 0, .int .i64 65535] rfl argsS_ ?_; (with_reducible refine (impl_within.calls a0_0 0 65535 true _ A2.out).mono ?_); rintro e w' ⟨rfl, ⟨nd, rfl⟩⟩; refine ⟨_, rfl, ?_⟩) | (go_at_call 79; (with_reducible refine (impl_isCode.calls k a0_3 true _ A4.out).mono ?_); rintro e w109 ⟨rfl, hb⟩; replace BK205 := a0_ (bkB_ BK205 hb); replace HB := a0_ (below_step bq1_ hb); (try clear hb); (try clear hb2); (try clear hk); (try clear hi); obtain ⟨z110_0, z110_1, z110_2, z110_3, z110_4, z110_5, z110_6, z110_7, q110_0, q110_1, q110_2, q110_3, q110_4, q110_5, q110_6, q110_7⟩ := bk8_ BK205.out) | (go_at_call 72; (with_reducible refine (impl_GoodName.calls a0_4 true _ A6.out).mono ?_); rintro e w111 ⟨rfl, hb⟩; replace BK205 := a0_ (bkB_ BK205 hb); replace HB := a0_ (below_step bq1_ hb); (try clear hb); (try clear hb2); (try clear hk); (try clear hi); obtain ⟨z112_0, z112_1, z112_2, z112_3, z112_4, z112_5, z112_6, z112_7, q112_0, q112_1, q112_2, q112_3, q112_4, q112_5, q112_6, q112_7⟩ := bk8_ BK205.out) | (go_at_call 73; (with_reducible refine (impl_isType.calls k a0_5 true _ A8.out).mono ?_); rintro e w113 ⟨rfl, hb⟩; replace BK205 := a0_ (bkB_ BK205 hb); replace HB := a0_ (below_step bq1_ hb); (try clear hb); (try clear hb2); (try clear hk); (try clear hi); obtain ⟨z114_0, z114_1, z114_2, z114_3, z114_4, z114_5, z114_6, z114_7, q114_0, q114_1, q114_2, q114_3, q114_4, q114_5, q114_6, q114_7⟩ := bk8_ BK205.out) | (go_at_call 80; (with_reducible refine (impl_areRecords.calls k _ _ l0_6 false _ ?side1 ?side2 A28.out).mono ?_); (case side1 => exact kC_ HR0_6.out HB.out); (case side2 => exact HC0_6.out); rintro e w115 ⟨rfl, hb⟩; replace BK205 := a0_ (bkB_ BK205 hb); replace HB := a0_ (below_step bq1_ hb); (try clear hb); (try clear hb2); (try clear hk); (try clear hi)))
  go_ret
  exact ⟨rr_, bq1_⟩
 subst c29
 rw [if_pos rfl] at H
 obtain ⟨t211, A300, H⟩ := Option.bind_eq_some_iff.mp H
 have A30 := a0_ A300
 clear A300
 by_cases c31 : t211 = true
 case neg =>
  replace c31 := Bool.eq_false_iff.mpr c31
  subst c31
  rw [if_neg (show ¬ (false = true) by decide)] at H
  obtain rfl := Option.some.inj H
  go_enter Tryz.func49, Tryz.ntmps49
  go_wp2_with (first | ((with_reducible refine gate_dst (N := 1) rfl ?_); (try (refine gate_guard (by rfl) ?_; dsimp only)); refine boxS_ 1 #[.int .i64 a0_0, .bool a0_1, .bool a0_2, .int .i64 a0_3, .string a0_4, .int .i64 a0_5, .slice A0_6 l0_6.length c0_6, .slice A0_7 l0_7.length c0_7] 24 (fun gb205 hg w96 hbox hb => ?_); have n0_ := a0_ (below_step bq0_ hb); have n1_ := a0_ (hbox); have n2_ := a0_ (gw_ hg : w.heap.size ≤ gb205); have n3_ := n2_; clear HB; have HB := n0_; have BK205 := n1_; have GW205 := n2_; have GE205 := n3_; clear n0_ n1_ n2_ n3_; clear hb hbox hg; obtain ⟨z97_0, z97_1, z97_2, z97_3, z97_4, z97_5, z97_6, z97_7, q97_0, q97_1, q97_2, q97_3, q97_4, q97_5, q97_6, q97_7⟩ := bk8_ BK205.out) | ((with_reducible refine gate_callee (f := 78) rfl ?_); refine goesL_ (some 5) rfl rfl Tryz.func78 (by kernel_rfl) rfl #[.int .i64 a0_0, .int .i64 0, .int .i64 65535] rfl argsS_ ?_; (with_reducible refine (impl_within.calls a0_0 0 65535 true _ A2.out).mono ?_); rintro e w' ⟨rfl, ⟨nd, rfl⟩⟩; refine ⟨_, rfl, ?_⟩) | (go_at_call 79; (with_reducible refine (impl_isCode.calls k a0_3 true _ A4.out).mono ?_); rintro e w98 ⟨rfl, hb⟩; replace BK205 := a0_ (bkB_ BK205 hb); replace HB := a0_ (below_step bq1_ hb); (try clear hb); (try clear hb2); (try clear hk); (try clear hi); obtain ⟨z99_0, z99_1, z99_2, z99_3, z99_4, z99_5, z99_6, z99_7, q99_0, q99_1, q99_2, q99_3, q99_4, q99_5, q99_6, q99_7⟩ := bk8_ BK205.out) | (go_at_call 72; (with_reducible refine (impl_GoodName.calls a0_4 true _ A6.out).mono ?_); rintro e w100 ⟨rfl, hb⟩; replace BK205 := a0_ (bkB_ BK205 hb); replace HB := a0_ (below_step bq1_ hb); (try clear hb); (try clear hb2); (try clear hk); (try clear hi); obtain ⟨z101_0, z101_1, z101_2, z101_3, z101_4, z101_5, z101_6, z101_7, q101_0, q101_1, q101_2, q101_3, q101_4, q101_5, q101_6, q101_7⟩ := bk8_ BK205.out) | (go_at_call 73; (with_reducible refine (impl_isType.calls k a0_5 true _ A8.out).mono ?_); rintro e w102 ⟨rfl, hb⟩; replace BK205 := a0_ (bkB_ BK205 hb); replace HB := a0_ (below_step bq1_ hb); (try clear hb); (try clear hb2); (try clear hk); (try clear hi); obtain ⟨z103_0, z103_1, z103_2, z103_3, z103_4, z103_5, z103_6, z103_7, q103_0, q103_1, q103_2, q103_3, q103_4, q103_5, q103_6, q103_7⟩ := bk8_ BK205.out) | (go_at_call 80; (with_reducible refine (impl_areRecords.calls k _ _ l0_6 true _ ?side1 ?side2 A28.out).mono ?_); (case side1 => exact kC_ HR0_6.out HB.out); (case side2 => exact HC0_6.out); rintro e w104 ⟨rfl, hb⟩; replace BK205 := a0_ (bkB_ BK205 hb); replace HB := a0_ (below_step bq1_ hb); (try clear hb); (try clear hb2); (try clear hk); (try clear hi); obtain ⟨z105_0, z105_1, z105_2, z105_3, z105_4, z105_5, z105_6, z105_7, q105_0, q105_1, q105_2, q105_3, q105_4, q105_5, q105_6, q105_7⟩ := bk8_ BK205.out) | (go_at_call 80; (with_reducible refine (impl_areRecords.calls k _ _ l0_7 false _ ?side1 ?side2 A30.out).mono ?_); (case side1 => exact kC_ HR0_7.out HB.out); (case side2 => exact HC0_7.out); rintro e w106 ⟨rfl, hb⟩; replace BK205 := a0_ (bkB_ BK205 hb); replace HB := a0_ (below_step bq1_ hb); (try clear hb); (try clear hb2); (try clear hk); (try clear hi)))
  go_ret
  exact ⟨rr_, bq1_⟩
 subst c31
 rw [if_pos rfl] at H
 by_cases c32 : a0_1 = true
 case pos =>
  subst c32
  rw [if_pos rfl] at H
  obtain rfl := Option.some.inj H
  go_enter Tryz.func49, Tryz.ntmps49
  go_wp2_with (first | ((with_reducible refine gate_dst (N := 1) rfl ?_); (try (refine gate_guard (by rfl) ?_; dsimp only)); refine boxS_ 1 #[.int .i64 a0_0, .bool true, .bool a0_2, .int .i64 a0_3, .string a0_4, .int .i64 a0_5, .slice A0_6 l0_6.length c0_6, .slice A0_7 l0_7.length c0_7] 24 (fun gb205 hg w33 hbox hb => ?_); have n0_ := a0_ (below_step bq0_ hb); have n1_ := a0_ (hbox); have n2_ := a0_ (gw_ hg : w.heap.size ≤ gb205); have n3_ := n2_; clear HB; have HB := n0_; have BK205 := n1_; have GW205 := n2_; have GE205 := n3_; clear n0_ n1_ n2_ n3_; clear hb hbox hg; obtain ⟨z34_0, z34_1, z34_2, z34_3, z34_4, z34_5, z34_6, z34_7, q34_0, q34_1, q34_2, q34_3, q34_4, q34_5, q34_6, q34_7⟩ := bk8_ BK205.out) | ((with_reducible refine gate_callee (f := 78) rfl ?_); refine goesL_ (some 5) rfl rfl Tryz.func78 (by kernel_rfl) rfl #[.int .i64 a0_0, .int .i64 0, .int .i64 65535] rfl argsS_ ?_; (with_reducible refine (impl_within.calls a0_0 0 65535 true _ A2.out).mono ?_); rintro e w' ⟨rfl, ⟨nd, rfl⟩⟩; refine ⟨_, rfl, ?_⟩) | (go_at_call 79; (with_reducible refine (impl_isCode.calls k a0_3 true _ A4.out).mono ?_); rintro e w35 ⟨rfl, hb⟩; replace BK205 := a0_ (bkB_ BK205 hb); replace HB := a0_ (below_step bq1_ hb); (try clear hb); (try clear hb2); (try clear hk); (try clear hi); obtain ⟨z36_0, z36_1, z36_2, z36_3, z36_4, z36_5, z36_6, z36_7, q36_0, q36_1, q36_2, q36_3, q36_4, q36_5, q36_6, q36_7⟩ := bk8_ BK205.out) | (go_at_call 72; (with_reducible refine (impl_GoodName.calls a0_4 true _ A6.out).mono ?_); rintro e w37 ⟨rfl, hb⟩; replace BK205 := a0_ (bkB_ BK205 hb); replace HB := a0_ (below_step bq1_ hb); (try clear hb); (try clear hb2); (try clear hk); (try clear hi); obtain ⟨z38_0, z38_1, z38_2, z38_3, z38_4, z38_5, z38_6, z38_7, q38_0, q38_1, q38_2, q38_3, q38_4, q38_5, q38_6, q38_7⟩ := bk8_ BK205.out) | (go_at_call 73; (with_reducible refine (impl_isType.calls k a0_5 true _ A8.out).mono ?_); rintro e w39 ⟨rfl, hb⟩; replace BK205 := a0_ (bkB_ BK205 hb); replace HB := a0_ (below_step bq1_ hb); (try clear hb); (try clear hb2); (try clear hk); (try clear hi); obtain ⟨z40_0, z40_1, z40_2, z40_3, z40_4, z40_5, z40_6, z40_7, q40_0, q40_1, q40_2, q40_3, q40_4, q40_5, q40_6, q40_7⟩ := bk8_ BK205.out) | (go_at_call 80; (with_reducible refine (impl_areRecords.calls k _ _ l0_6 true _ ?side1 ?side2 A28.out).mono ?_); (case side1 => exact kC_ HR0_6.out HB.out); (case side2 => exact HC0_6.out); rintro e w41 ⟨rfl, hb⟩; replace BK205 := a0_ (bkB_ BK205 hb); replace HB := a0_ (below_step bq1_ hb); (try clear hb); (try clear hb2); (try clear hk); (try clear hi); obtain ⟨z42_0, z42_1, z42_2, z42_3, z42_4, z42_5, z42_6, z42_7, q42_0, q42_1, q42_2, q42_3, q42_4, q42_5, q42_6, q42_7⟩ := bk8_ BK205.out) | (go_at_call 80; (with_reducible refine (impl_areRecords.calls k _ _ l0_7 true _ ?side1 ?side2 A30.out).mono ?_); (case side1 => exact kC_ HR0_7.out HB.out); (case side2 => exact HC0_7.out); rintro e w43 ⟨rfl, hb⟩; replace BK205 := a0_ (bkB_ BK205 hb); replace HB := a0_ (below_step bq1_ hb); (try clear hb); (try clear hb2); (try clear hk); (try clear hi); obtain ⟨z44_0, z44_1, z44_2, z44_3, z44_4, z44_5, z44_6, z44_7, q44_0, q44_1, q44_2, q44_3, q44_4, q44_5, q44_6, q44_7⟩ := bk8_ BK205.out))
  go_ret
  exact ⟨rr_, bq1_⟩
 replace c32 := Bool.eq_false_iff.mpr c32
 subst c32
 rw [if_neg (show ¬ (false = true) by decide)] at H
 by_cases c45 : a0_2 = true
 case pos =>
  subst c45
  rw [if_pos rfl] at H
  obtain rfl := Option.some.inj H
  go_enter Tryz.func49, Tryz.ntmps49
  go_wp2_with (first | ((with_reducible refine gate_dst (N := 1) rfl ?_); (try (refine gate_guard (by rfl) ?_; dsimp only)); refine boxS_ 1 #[.int .i64 a0_0, .bool false, .bool true, .int .i64 a0_3, .string a0_4, .int .i64 a0_5, .slice A0_6 l0_6.length c0_6, .slice A0_7 l0_7.length c0_7] 24 (fun gb205 hg w46 hbox hb => ?_); have n0_ := a0_ (below_step bq0_ hb); have n1_ := a0_ (hbox); have n2_ := a0_ (gw_ hg : w.heap.size ≤ gb205); have n3_ := n2_; clear HB; have HB := n0_; have BK205 := n1_; have GW205 := n2_; have GE205 := n3_; clear n0_ n1_ n2_ n3_; clear hb hbox hg; obtain ⟨z47_0, z47_1, z47_2, z47_3, z47_4, z47_5, z47_6, z47_7, q47_0, q47_1, q47_2, q47_3, q47_4, q47_5, q47_6, q47_7⟩ := bk8_ BK205.out) | ((with_reducible refine gate_callee (f := 78) rfl ?_); refine goesL_ (some 5) rfl rfl Tryz.func78 (by kernel_rfl) rfl #[.int .i64 a0_0, .int .i64 0, .int .i64 65535] rfl argsS_ ?_; (with_reducible refine (impl_within.calls a0_0 0 65535 true _ A2.out).mono ?_); rintro e w' ⟨rfl, ⟨nd, rfl⟩⟩; refine ⟨_, rfl, ?_⟩) | (go_at_call 79; (with_reducible refine (impl_isCode.calls k a0_3 true _ A4.out).mono ?_); rintro e w48 ⟨rfl, hb⟩; replace BK205 := a0_ (bkB_ BK205 hb); replace HB := a0_ (below_step bq1_ hb); (try clear hb); (try clear hb2); (try clear hk); (try clear hi); obtain ⟨z49_0, z49_1, z49_2, z49_3, z49_4, z49_5, z49_6, z49_7, q49_0, q49_1, q49_2, q49_3, q49_4, q49_5, q49_6, q49_7⟩ := bk8_ BK205.out) | (go_at_call 72; (with_reducible refine (impl_GoodName.calls a0_4 true _ A6.out).mono ?_); rintro e w50 ⟨rfl, hb⟩; replace BK205 := a0_ (bkB_ BK205 hb); replace HB := a0_ (below_step bq1_ hb); (try clear hb); (try clear hb2); (try clear hk); (try clear hi); obtain ⟨z51_0, z51_1, z51_2, z51_3, z51_4, z51_5, z51_6, z51_7, q51_0, q51_1, q51_2, q51_3, q51_4, q51_5, q51_6, q51_7⟩ := bk8_ BK205.out) | (go_at_call 73; (with_reducible refine (impl_isType.calls k a0_5 true _ A8.out).mono ?_); rintro e w52 ⟨rfl, hb⟩; replace BK205 := a0_ (bkB_ BK205 hb); replace HB := a0_ (below_step bq1_ hb); (try clear hb); (try clear hb2); (try clear hk); (try clear hi); obtain ⟨z53_0, z53_1, z53_2, z53_3, z53_4, z53_5, z53_6, z53_7, q53_0, q53_1, q53_2, q53_3, q53_4, q53_5, q53_6, q53_7⟩ := bk8_ BK205.out) | (go_at_call 80; (with_reducible refine (impl_areRecords.calls k _ _ l0_6 true _ ?side1 ?side2 A28.out).mono ?_); (case side1 => exact kC_ HR0_6.out HB.out); (case side2 => exact HC0_6.out); rintro e w54 ⟨rfl, hb⟩; replace BK205 := a0_ (bkB_ BK205 hb); replace HB := a0_ (below_step bq1_ hb); (try clear hb); (try clear hb2); (try clear hk); (try clear hi); obtain ⟨z55_0, z55_1, z55_2, z55_3, z55_4, z55_5, z55_6, z55_7, q55_0, q55_1, q55_2, q55_3, q55_4, q55_5, q55_6, q55_7⟩ := bk8_ BK205.out) | (go_at_call 80; (with_reducible refine (impl_areRecords.calls k _ _ l0_7 true _ ?side1 ?side2 A30.out).mono ?_); (case side1 => exact kC_ HR0_7.out HB.out); (case side2 => exact HC0_7.out); rintro e w56 ⟨rfl, hb⟩; replace BK205 := a0_ (bkB_ BK205 hb); replace HB := a0_ (below_step bq1_ hb); (try clear hb); (try clear hb2); (try clear hk); (try clear hi); obtain ⟨z57_0, z57_1, z57_2, z57_3, z57_4, z57_5, z57_6, z57_7, q57_0, q57_1, q57_2, q57_3, q57_4, q57_5, q57_6, q57_7⟩ := bk8_ BK205.out))
  go_ret
  exact ⟨rr_, bq1_⟩
 replace c45 := Bool.eq_false_iff.mpr c45
 subst c45
 rw [if_neg (show ¬ (false = true) by decide)] at H
 by_cases c58 : a0_3 = 0
 case neg =>
  rw [if_neg c58] at H
  have c58b0 := beq_eq_false_iff_ne.mpr c58
  have c58b1 := bne_iff_ne.mpr c58
  obtain rfl := Option.some.inj H
  go_enter Tryz.func49, Tryz.ntmps49
  go_wp2_with (first | ((with_reducible refine gate_dst (N := 1) rfl ?_); (try (refine gate_guard (by rfl) ?_; dsimp only)); refine boxS_ 1 #[.int .i64 a0_0, .bool false, .bool false, .int .i64 a0_3, .string a0_4, .int .i64 a0_5, .slice A0_6 l0_6.length c0_6, .slice A0_7 l0_7.length c0_7] 24 (fun gb205 hg w84 hbox hb => ?_); have n0_ := a0_ (below_step bq0_ hb); have n1_ := a0_ (hbox); have n2_ := a0_ (gw_ hg : w.heap.size ≤ gb205); have n3_ := n2_; clear HB; have HB := n0_; have BK205 := n1_; have GW205 := n2_; have GE205 := n3_; clear n0_ n1_ n2_ n3_; clear hb hbox hg; obtain ⟨z85_0, z85_1, z85_2, z85_3, z85_4, z85_5, z85_6, z85_7, q85_0, q85_1, q85_2, q85_3, q85_4, q85_5, q85_6, q85_7⟩ := bk8_ BK205.out) | ((with_reducible refine gate_callee (f := 78) rfl ?_); refine goesL_ (some 5) rfl rfl Tryz.func78 (by kernel_rfl) rfl #[.int .i64 a0_0, .int .i64 0, .int .i64 65535] rfl argsS_ ?_; (with_reducible refine (impl_within.calls a0_0 0 65535 true _ A2.out).mono ?_); rintro e w' ⟨rfl, ⟨nd, rfl⟩⟩; refine ⟨_, rfl, ?_⟩) | (go_at_call 79; (with_reducible refine (impl_isCode.calls k a0_3 true _ A4.out).mono ?_); rintro e w86 ⟨rfl, hb⟩; replace BK205 := a0_ (bkB_ BK205 hb); replace HB := a0_ (below_step bq1_ hb); (try clear hb); (try clear hb2); (try clear hk); (try clear hi); obtain ⟨z87_0, z87_1, z87_2, z87_3, z87_4, z87_5, z87_6, z87_7, q87_0, q87_1, q87_2, q87_3, q87_4, q87_5, q87_6, q87_7⟩ := bk8_ BK205.out) | (go_at_call 72; (with_reducible refine (impl_GoodName.calls a0_4 true _ A6.out).mono ?_); rintro e w88 ⟨rfl, hb⟩; replace BK205 := a0_ (bkB_ BK205 hb); replace HB := a0_ (below_step bq1_ hb); (try clear hb); (try clear hb2); (try clear hk); (try clear hi); obtain ⟨z89_0, z89_1, z89_2, z89_3, z89_4, z89_5, z89_6, z89_7, q89_0, q89_1, q89_2, q89_3, q89_4, q89_5, q89_6, q89_7⟩ := bk8_ BK205.out) | (go_at_call 73; (with_reducible refine (impl_isType.calls k a0_5 true _ A8.out).mono ?_); rintro e w90 ⟨rfl, hb⟩; replace BK205 := a0_ (bkB_ BK205 hb); replace HB := a0_ (below_step bq1_ hb); (try clear hb); (try clear hb2); (try clear hk); (try clear hi); obtain ⟨z91_0, z91_1, z91_2, z91_3, z91_4, z91_5, z91_6, z91_7, q91_0, q91_1, q91_2, q91_3, q91_4, q91_5, q91_6, q91_7⟩ := bk8_ BK205.out) | (go_at_call 80; (with_reducible refine (impl_areRecords.calls k _ _ l0_6 true _ ?side1 ?side2 A28.out).mono ?_); (case side1 => exact kC_ HR0_6.out HB.out); (case side2 => exact HC0_6.out); rintro e w92 ⟨rfl, hb⟩; replace BK205 := a0_ (bkB_ BK205 hb); replace HB := a0_ (below_step bq1_ hb); (try clear hb); (try clear hb2); (try clear hk); (try clear hi); obtain ⟨z93_0, z93_1, z93_2, z93_3, z93_4, z93_5, z93_6, z93_7, q93_0, q93_1, q93_2, q93_3, q93_4, q93_5, q93_6, q93_7⟩ := bk8_ BK205.out) | (go_at_call 80; (with_reducible refine (impl_areRecords.calls k _ _ l0_7 true _ ?side1 ?side2 A30.out).mono ?_); (case side1 => exact kC_ HR0_7.out HB.out); (case side2 => exact HC0_7.out); rintro e w94 ⟨rfl, hb⟩; replace BK205 := a0_ (bkB_ BK205 hb); replace HB := a0_ (below_step bq1_ hb); (try clear hb); (try clear hb2); (try clear hk); (try clear hi); obtain ⟨z95_0, z95_1, z95_2, z95_3, z95_4, z95_5, z95_6, z95_7, q95_0, q95_1, q95_2, q95_3, q95_4, q95_5, q95_6, q95_7⟩ := bk8_ BK205.out))
  go_ret
  exact ⟨rr_, bq1_⟩
 rw [if_pos c58] at H
 have c58b0 := beq_iff_eq.mpr c58
 have c58b1 := bne_eq_false_iff_eq.mpr c58
 clear c58
 by_cases c59 : (l0_6.length : Int) = 0
 case neg =>
  rw [if_neg c59] at H
  have c59b0 := beq_eq_false_iff_ne.mpr c59
  have c59b1 := bne_iff_ne.mpr c59
  have c59b2 : ¬ (l0_6 = []) := fun h_ => c59 (by rw [h_]; rfl)
  obtain rfl := Option.some.inj H
  go_enter Tryz.func49, Tryz.ntmps49
  go_wp2_with (first | ((with_reducible refine gate_dst (N := 1) rfl ?_); (try (refine gate_guard (by rfl) ?_; dsimp only)); refine boxS_ 1 #[.int .i64 a0_0, .bool false, .bool false, .int .i64 a0_3, .string a0_4, .int .i64 a0_5, .slice A0_6 l0_6.length c0_6, .slice A0_7 l0_7.length c0_7] 24 (fun gb205 hg w72 hbox hb => ?_); have n0_ := a0_ (below_step bq0_ hb); have n1_ := a0_ (hbox); have n2_ := a0_ (gw_ hg : w.heap.size ≤ gb205); have n3_ := n2_; clear HB; have HB := n0_; have BK205 := n1_; have GW205 := n2_; have GE205 := n3_; clear n0_ n1_ n2_ n3_; clear hb hbox hg; obtain ⟨z73_0, z73_1, z73_2, z73_3, z73_4, z73_5, z73_6, z73_7, q73_0, q73_1, q73_2, q73_3, q73_4, q73_5, q73_6, q73_7⟩ := bk8_ BK205.out) | ((with_reducible refine gate_callee (f := 78) rfl ?_); refine goesL_ (some 5) rfl rfl Tryz.func78 (by kernel_rfl) rfl #[.int .i64 a0_0, .int .i64 0, .int .i64 65535] rfl argsS_ ?_; (with_reducible refine (impl_within.calls a0_0 0 65535 true _ A2.out).mono ?_); rintro e w' ⟨rfl, ⟨nd, rfl⟩⟩; refine ⟨_, rfl, ?_⟩) | (go_at_call 79; (with_reducible refine (impl_isCode.calls k a0_3 true _ A4.out).mono ?_); rintro e w74 ⟨rfl, hb⟩; replace BK205 := a0_ (bkB_ BK205 hb); replace HB := a0_ (below_step bq1_ hb); (try clear hb); (try clear hb2); (try clear hk); (try clear hi); obtain ⟨z75_0, z75_1, z75_2, z75_3, z75_4, z75_5, z75_6, z75_7, q75_0, q75_1, q75_2, q75_3, q75_4, q75_5, q75_6, q75_7⟩ := bk8_ BK205.out) | (go_at_call 72; (with_reducible refine (impl_GoodName.calls a0_4 true _ A6.out).mono ?_); rintro e w76 ⟨rfl, hb⟩; replace BK205 := a0_ (bkB_ BK205 hb); replace HB := a0_ (below_step bq1_ hb); (try clear hb); (try clear hb2); (try clear hk); (try clear hi); obtain ⟨z77_0, z77_1, z77_2, z77_3, z77_4, z77_5, z77_6, z77_7, q77_0, q77_1, q77_2, q77_3, q77_4, q77_5, q77_6, q77_7⟩ := bk8_ BK205.out) | (go_at_call 73; (with_reducible refine (impl_isType.calls k a0_5 true _ A8.out).mono ?_); rintro e w78 ⟨rfl, hb⟩; replace BK205 := a0_ (bkB_ BK205 hb); replace HB := a0_ (below_step bq1_ hb); (try clear hb); (try clear hb2); (try clear hk); (try clear hi); obtain ⟨z79_0, z79_1, z79_2, z79_3, z79_4, z79_5, z79_6, z79_7, q79_0, q79_1, q79_2, q79_3, q79_4, q79_5, q79_6, q79_7⟩ := bk8_ BK205.out) | (go_at_call 80; (with_reducible refine (impl_areRecords.calls k _ _ l0_6 true _ ?side1 ?side2 A28.out).mono ?_); (case side1 => exact kC_ HR0_6.out HB.out); (case side2 => exact HC0_6.out); rintro e w80 ⟨rfl, hb⟩; replace BK205 := a0_ (bkB_ BK205 hb); replace HB := a0_ (below_step bq1_ hb); (try clear hb); (try clear hb2); (try clear hk); (try clear hi); obtain ⟨z81_0, z81_1, z81_2, z81_3, z81_4, z81_5, z81_6, z81_7, q81_0, q81_1, q81_2, q81_3, q81_4, q81_5, q81_6, q81_7⟩ := bk8_ BK205.out) | (go_at_call 80; (with_reducible refine (impl_areRecords.calls k _ _ l0_7 true _ ?side1 ?side2 A30.out).mono ?_); (case side1 => exact kC_ HR0_7.out HB.out); (case side2 => exact HC0_7.out); rintro e w82 ⟨rfl, hb⟩; replace BK205 := a0_ (bkB_ BK205 hb); replace HB := a0_ (below_step bq1_ hb); (try clear hb); (try clear hb2); (try clear hk); (try clear hi); obtain ⟨z83_0, z83_1, z83_2, z83_3, z83_4, z83_5, z83_6, z83_7, q83_0, q83_1, q83_2, q83_3, q83_4, q83_5, q83_6, q83_7⟩ := bk8_ BK205.out))
  go_ret
  exact ⟨rr_, bq1_⟩
 rw [if_pos c59] at H
 have c59b0 := beq_iff_eq.mpr c59
 have c59b1 := bne_eq_false_iff_eq.mpr c59
 clear c59
 obtain rfl := Option.some.inj H
 go_enter Tryz.func49, Tryz.ntmps49
 go_wp2_with (first | ((with_reducible refine gate_dst (N := 1) rfl ?_); (try (refine gate_guard (by rfl) ?_; dsimp only)); refine boxS_ 1 #[.int .i64 a0_0, .bool false, .bool false, .int .i64 a0_3, .string a0_4, .int .i64 a0_5, .slice A0_6 l0_6.length c0_6, .slice A0_7 l0_7.length c0_7] 24 (fun gb205 hg w60 hbox hb => ?_); have n0_ := a0_ (below_step bq0_ hb); have n1_ := a0_ (hbox); have n2_ := a0_ (gw_ hg : w.heap.size ≤ gb205); have n3_ := n2_; clear HB; have HB := n0_; have BK205 := n1_; have GW205 := n2_; have GE205 := n3_; clear n0_ n1_ n2_ n3_; clear hb hbox hg; obtain ⟨z61_0, z61_1, z61_2, z61_3, z61_4, z61_5, z61_6, z61_7, q61_0, q61_1, q61_2, q61_3, q61_4, q61_5, q61_6, q61_7⟩ := bk8_ BK205.out) | ((with_reducible refine gate_callee (f := 78) rfl ?_); refine goesL_ (some 5) rfl rfl Tryz.func78 (by kernel_rfl) rfl #[.int .i64 a0_0, .int .i64 0, .int .i64 65535] rfl argsS_ ?_; (with_reducible refine (impl_within.calls a0_0 0 65535 true _ A2.out).mono ?_); rintro e w' ⟨rfl, ⟨nd, rfl⟩⟩; refine ⟨_, rfl, ?_⟩) | (go_at_call 79; (with_reducible refine (impl_isCode.calls k a0_3 true _ A4.out).mono ?_); rintro e w62 ⟨rfl, hb⟩; replace BK205 := a0_ (bkB_ BK205 hb); replace HB := a0_ (below_step bq1_ hb); (try clear hb); (try clear hb2); (try clear hk); (try clear hi); obtain ⟨z63_0, z63_1, z63_2, z63_3, z63_4, z63_5, z63_6, z63_7, q63_0, q63_1, q63_2, q63_3, q63_4, q63_5, q63_6, q63_7⟩ := bk8_ BK205.out) | (go_at_call 72; (with_reducible refine (impl_GoodName.calls a0_4 true _ A6.out).mono ?_); rintro e w64 ⟨rfl, hb⟩; replace BK205 := a0_ (bkB_ BK205 hb); replace HB := a0_ (below_step bq1_ hb); (try clear hb); (try clear hb2); (try clear hk); (try clear hi); obtain ⟨z65_0, z65_1, z65_2, z65_3, z65_4, z65_5, z65_6, z65_7, q65_0, q65_1, q65_2, q65_3, q65_4, q65_5, q65_6, q65_7⟩ := bk8_ BK205.out) | (go_at_call 73; (with_reducible refine (impl_isType.calls k a0_5 true _ A8.out).mono ?_); rintro e w66 ⟨rfl, hb⟩; replace BK205 := a0_ (bkB_ BK205 hb); replace HB := a0_ (below_step bq1_ hb); (try clear hb); (try clear hb2); (try clear hk); (try clear hi); obtain ⟨z67_0, z67_1, z67_2, z67_3, z67_4, z67_5, z67_6, z67_7, q67_0, q67_1, q67_2, q67_3, q67_4, q67_5, q67_6, q67_7⟩ := bk8_ BK205.out) | (go_at_call 80; (with_reducible refine (impl_areRecords.calls k _ _ l0_6 true _ ?side1 ?side2 A28.out).mono ?_); (case side1 => exact kC_ HR0_6.out HB.out); (case side2 => exact HC0_6.out); rintro e w68 ⟨rfl, hb⟩; replace BK205 := a0_ (bkB_ BK205 hb); replace HB := a0_ (below_step bq1_ hb); (try clear hb); (try clear hb2); (try clear hk); (try clear hi); obtain ⟨z69_0, z69_1, z69_2, z69_3, z69_4, z69_5, z69_6, z69_7, q69_0, q69_1, q69_2, q69_3, q69_4, q69_5, q69_6, q69_7⟩ := bk8_ BK205.out) | (go_at_call 80; (with_reducible refine (impl_areRecords.calls k _ _ l0_7 true _ ?side1 ?side2 A30.out).mono ?_); (case side1 => exact kC_ HR0_7.out HB.out); (case side2 => exact HC0_7.out); rintro e w70 ⟨rfl, hb⟩; replace BK205 := a0_ (bkB_ BK205 hb); replace HB := a0_ (below_step bq1_ hb); (try clear hb); (try clear hb2); (try clear hk); (try clear hi); obtain ⟨z71_0, z71_1, z71_2, z71_3, z71_4, z71_5, z71_6, z71_7, q71_0, q71_1, q71_2, q71_3, q71_4, q71_5, q71_6, q71_7⟩ := bk8_ BK205.out))
 go_ret
 exact ⟨rr_, bq1_⟩
end Go.Proofs.YtkpkfallgjdkmaaGreatDoor.P
namespace Go.Proofs.YtkpkfallgjdkmaaGreatDoor.Pure
open Go.RowKit Go.Proofs.YtkpkfallgjdkmaaGreatDoor.P Go.Proofs.YtkpkfallgjdkmaaGreatDoorW.PrintWords Go.Proofs.YtkpkfallgjdkmaaGreatDoorW.PrintLast Go.Proofs.YtkpkfallgjdkmaaGreatDoorW.PrintMore
set_option linter.unusedVariables false
set_option linter.unusedSimpArgs false
theorem a_small : ∀ (k i : Nat) (parts : List ByteArray) (out x : ByteArray), impl_DataBytes.l0 k parts out (i : Int) = some (x, true) → (∀ y ∈ parts, y.size ≤ 1048576) → parts.length < 1099511627776 → (i < parts.length → parts.length = 4) ∧ ∀ j (h : j < parts.length), i ≤ j → parts[j].size ≤ 10
 | 0, i, parts, out, x, h, hs, hl => by simp [impl_DataBytes.l0] at h
 | k + 1, i, parts, out, x, h, hs, hl => by
  unfold impl_DataBytes.l0 at h
  by_cases c1 : (i : Int) < (parts.length : Int)
  · have hi : i < parts.length := by omega
    have hsz := hs _ (List.getElem_mem hi)
    obtain ⟨v, hn1, hn2⟩ := number_eq parts[i] 255 (by omega) (by omega) (by omega)
    rw [if_pos c1, if_pos (by omega), td_rd parts i hi, hn1, Option.bind_some] at h
    by_cases hb : (canL parts[i].data.toList && decide ((valL parts[i].data.toList : Int) ≤ 255)) = true
    · rw [if_pos hb] at h
      by_cases h4 : (parts.length : Int) = 4
      · rw [if_pos h4] at h
        obtain ⟨t, ht, h⟩ := Option.bind_eq_some_iff.mp h
        by_cases ho : out.size + t.size ≤ 9223372036854775807
        · rw [if_pos ho, w64n (by omega)] at h
          have ih := a_small k (i + 1) parts _ x h hs hl
          refine ⟨fun _ => by omega, fun j hj hij => ?_⟩
          by_cases e : j = i
          · subst e
            rw [Bool.and_eq_true] at hb
            have hc := hb.1
            unfold canL at hc
            simp only [Bool.and_eq_true, decide_eq_true_eq] at hc
            rw [size_len]
            exact hc.1.1.2
          · exact ih.2 j hj (by omega)
        · rw [if_neg ho] at h; cases h
      · rw [if_neg h4] at h
        cases (Prod.mk.inj (Option.some.inj h)).2
    · rw [if_neg hb] at h
      cases (Prod.mk.inj (Option.some.inj h)).2
  · exact ⟨fun h2 => absurd h2 (by omega), fun j hj hij => absurd hj (by omega)⟩
theorem sum_le : ∀ l : List (List UInt8), (∀ p ∈ l, p.length ≤ 10) → (l.map fun p => 1 + p.length).sum ≤ 11 * l.length
 | [], _ => Nat.le_refl _
 | x :: r, h => by
  have ih := sum_le r fun p hp => h p (List.mem_cons_of_mem _ hp)
  have hx := h x List.mem_cons_self
  rw [List.map_cons, List.sum_cons, List.length_cons]
  omega
theorem can_len {l : List UInt8} {m : Int} (h : (canL l && decide ((valL l : Int) ≤ m)) = true) : l.length ≤ 10 := by
 rw [Bool.and_eq_true] at h
 have hc := h.1
 unfold canL at hc
 simp only [Bool.and_eq_true, decide_eq_true_eq] at hc
 exact hc.1.1.2
theorem cut_sizes {s q1 q2 : ByteArray} {q3 : Bool} (hs : s.size ≤ 1048576) (h : strings_Cut.f s (⟨#[32]⟩ : ByteArray) = some (q1, q2, q3)) : q1.size + q2.size ≤ s.size ∧ s.size ≤ q1.size + q2.size + 1 := by
 unfold strings_Cut.f stringslite_Cut.f internal_stringslite_Index.f at h
 rw [if_pos (show (⟨#[32]⟩ : ByteArray).size = 1 from rfl)] at h
 simp only [Option.bind_some] at h
 rw [show List.headD (⟨#[32]⟩ : ByteArray).data.toList 0 = 32 from rfl, show (⟨#[32]⟩ : ByteArray).size = 1 from rfl] at h
 rcases place_or 32 s.data.toList with ⟨h1, _⟩ | ⟨p, r, h1, _, h3⟩
 · rw [h1, if_neg (by omega)] at h
   simp only [Option.bind_some, Option.some.injEq, Prod.mk.injEq] at h
   obtain ⟨rfl, rfl, _⟩ := h
   exact ⟨Nat.le_refl _, by show s.size ≤ s.size + 0 + 1; omega⟩
 · have hl : p.length + (r.length + 1) = s.size := by rw [size_len, h1]; simp
   rw [h3, show (((1 : Nat) : Int)) = 1 from rfl, w64n (by omega), if_pos (by omega), if_pos (by omega), if_pos (by omega), if_pos (by omega), if_pos (by omega), Int.toNat_natCast, Int.toNat_natCast] at h
   simp only [Option.bind_some, Option.some.injEq, Prod.mk.injEq] at h
   obtain ⟨rfl, rfl, _⟩ := h
   rw [ByteArray.size_extract, ByteArray.size_extract]
   omega
theorem data_small {k : Nat} {kind : Int} {s x : ByteArray} (hs : s.size ≤ 1048576) (h : impl_DataBytes.f k kind s = some (x, true)) : s.size ≤ 100 := by
 unfold impl_DataBytes.f at h
 by_cases c1 : kind = 1
 · rw [if_pos c1] at h
   have hsp : strings_Split.f s (⟨#[46]⟩ : ByteArray) = some ((splitL 46 s.data.toList).map mkB) := by
    unfold strings_Split.f
    rw [if_pos (show (⟨#[46]⟩ : ByteArray).size = 1 from rfl), if_pos (by omega)]
    rfl
   rw [hsp, Option.bind_some] at h
   have hne := splitL_ne 46 s.data.toList
   have hpl : 0 < (splitL 46 s.data.toList).length := List.length_pos_iff.2 hne
   have hlen : (splitL 46 s.data.toList).length ≤ s.size + 1 := by rw [size_len]; exact splitL_len _ _
   have hg := a_small k 0 _ _ _ h (by
    intro y hy
    obtain ⟨q, hq, rfl⟩ := List.mem_map.1 hy
    have := splitL_part 46 _ q hq
    rw [← size_len] at this
    rw [mkB_size]
    omega) (by rw [List.length_map]; omega)
   have h4 := hg.1 (by rw [List.length_map]; exact hpl)
   rw [List.length_map] at h4
   have hsum := sum_le (splitL 46 s.data.toList) (by
    intro p hp
    obtain ⟨j, hj, rfl⟩ := List.mem_iff_getElem.1 hp
    have := hg.2 j (by rw [List.length_map]; exact hj) (Nat.zero_le _)
    rw [List.getElem_map, mkB_size] at this
    exact this)
   rw [split_sum, h4, ← size_len] at hsum
   omega
 · rw [if_neg c1] at h
   by_cases c2 : kind = 2 ∨ kind = 5
   · rw [if_pos c2] at h
     unfold dataNs at h
     rw [target_impl, Option.bind_some] at h
     by_cases ht : targL s.data.toList = true
     · have := good_size (targ_good ht)
       rw [← size_len] at this
       omega
     · rw [if_neg ht] at h
       cases (Prod.mk.inj (Option.some.inj h)).2
   · rw [if_neg c2] at h
     by_cases c6 : kind = 6
     · rw [if_pos c6] at h
       unfold dataSoa at h
       obtain ⟨v, hn1, _⟩ := number_eq s 4294967295 (by omega) (by omega) (by omega)
       rw [hn1, Option.bind_some] at h
       by_cases hb : (canL s.data.toList && decide ((valL s.data.toList : Int) ≤ 4294967295)) = true
       · have := can_len hb
         rw [← size_len] at this
         omega
       · rw [if_neg hb] at h
         cases (Prod.mk.inj (Option.some.inj h)).2
     · rw [if_neg c6] at h
       by_cases c15 : kind = 15
       · rw [if_pos c15] at h
         unfold dataMx at h
         obtain ⟨⟨q1, q2, q3⟩, hc, h⟩ := Option.bind_eq_some_iff.mp h
         have hcut : q1.size + q2.size ≤ s.size ∧ s.size ≤ q1.size + q2.size + 1 := cut_sizes hs hc
         obtain ⟨v, hn1, _⟩ := number_eq q1 65535 (by omega) (by omega) (by omega)
         rw [hn1, Option.bind_some] at h
         by_cases hb : (canL q1.data.toList && decide ((valL q1.data.toList : Int) ≤ 65535)) = true
         · rw [if_pos hb, target_impl, Option.bind_some] at h
           by_cases ht : targL q2.data.toList = true
           · have h1 := good_size (targ_good ht)
             have h2 := can_len hb
             rw [← size_len] at h1 h2
             omega
           · rw [if_neg ht] at h
             cases (Prod.mk.inj (Option.some.inj h)).2
         · rw [if_neg hb] at h
           cases (Prod.mk.inj (Option.some.inj h)).2
       · rw [if_neg c15] at h
         by_cases c16 : kind = 16
         · rw [if_pos c16] at h
           unfold dataTxt at h
           by_cases h30 : (s.size : Int) > 30
           · rw [if_pos h30] at h
             cases (Prod.mk.inj (Option.some.inj h)).2
           · omega
         · rw [if_neg c16] at h
           cases (Prod.mk.inj (Option.some.inj h)).2
theorem data_full (kind : Int) (s : ByteArray) (hs : s.size ≤ 1048576) : ∃ q, Ev (fun k => spec_l3Bytes.f k kind s) q ∧ Ev (fun k => impl_DataBytes.f k kind s) (if q.2 = true then (q.1, true) else badD) ∧ (q.2 = true → s.size ≤ 100) := by
 obtain ⟨r, ⟨K, h1⟩, h2⟩ := data_both kind s hs
 have h1 : specData K kind s = some r := h1 K (Nat.le_refl _)
 unfold specData at h1
 obtain ⟨q, hq, h1⟩ := Option.bind_eq_some_iff.mp h1
 have hQ : Ev (fun k => spec_l3Bytes.f k kind s) q := Ev.of (fun k => spec_l3Bytes.mono _ _ _) (k := K) hq
 have er : (if q.2 = true then (q.1, true) else badD) = r := by
  by_cases hq2 : q.2 = true
  · rw [if_pos hq2] at h1 ⊢
    exact Option.some.inj h1
  · rw [if_neg hq2] at h1 ⊢
    exact Option.some.inj h1
 refine ⟨q, hQ, by rw [er]; exact h2, fun hq2 => ?_⟩
 rw [if_pos hq2] at er
 obtain ⟨K2, h2⟩ := h2
 have h3 : impl_DataBytes.f K2 kind s = some r := h2 K2 (Nat.le_refl _)
 rw [← er] at h3
 exact data_small hs h3
theorem goodrec_both (a : ByteArray) (b c : Int) (d : ByteArray) (ha : a.size ≤ 1048576) (hd : d.size ≤ 1048576) : ∃ r q, Ev (fun k => spec_GoodRecord.f k a b c d) r ∧ Ev (fun k => impl_GoodRecord.f k a b c d) r ∧ Ev (fun k => spec_l3Bytes.f k b d) q ∧ Ev (fun k => impl_DataBytes.f k b d) (if q.2 = true then (q.1, true) else badD) ∧ r = (q.2 && (goodL a.data.toList && decide (0 ≤ c ∧ c ≤ 100000))) ∧ (q.2 = true → d.size ≤ 100) := by
 obtain ⟨q, q1, q2, q3⟩ := data_full b d hd
 refine ⟨q.2 && (goodL a.data.toList && decide (0 ≤ c ∧ c ≤ 100000)), q, ?_, ?_, q1, q2, rfl, q3⟩
 · refine Ev.congr (fun k => rfl) (Ev.bind q1 ?_)
   cases hq : q.2 with
   | false => exact Ev.now _
   | true =>
    refine Ev.bind (specGood_ev a (by omega)) ?_
    cases hg : goodL a.data.toList with
    | false => exact Ev.now _
    | true =>
     simp only [if_true, within_spec, Option.bind_some, Bool.true_and]
     exact Ev.now _
 · cases hg : goodL a.data.toList with
   | false =>
    rw [Bool.false_and, Bool.and_false]
    refine Ev.congr (fun k => ?_) (Ev.now _)
    unfold impl_GoodRecord.f impl_GoodName.f
    rw [hg]
    rfl
   | true =>
    by_cases hc : 0 ≤ c ∧ c ≤ 100000
    · rw [decide_eq_true hc, Bool.true_and, Bool.and_true]
      by_cases h100 : (d.size : Int) > 100
      · have hf : q.2 = false := by
         rw [Bool.eq_false_iff]
         intro h
         have := q3 h
         omega
        rw [hf]
        refine Ev.congr (fun k => ?_) (Ev.now _)
        unfold impl_GoodRecord.f impl_GoodName.f
        rw [hg, Option.bind_some, if_pos rfl, within_eq, Option.bind_some, decide_eq_true hc, if_pos rfl, if_pos h100]
      · refine Ev.congr (f := fun k => (impl_DataBytes.f k b d).bind fun bt237 => (some bt237.2)) (fun k => ?_) (Ev.bind q2 ?_)
        · unfold impl_GoodRecord.f impl_GoodName.f
          rw [hg, Option.bind_some, if_pos rfl, within_eq, Option.bind_some, decide_eq_true hc, if_pos rfl, if_neg h100]
        · cases q.2 with
          | false => exact Ev.now _
          | true => exact Ev.now _
    · rw [decide_eq_false hc, Bool.and_false, Bool.and_false]
      refine Ev.congr (fun k => ?_) (Ev.now _)
      unfold impl_GoodRecord.f impl_GoodName.f
      rw [hg, Option.bind_some, if_pos rfl, within_eq, Option.bind_some, decide_eq_false hc, if_neg (by simp)]
theorem szRecAt (left : Int) (h0 : 0 ≤ left) (h1 : left ≤ 1048576) (a : ByteArray) (b c : Int) (d : ByteArray) (ha : a.size ≤ maxLen) (hd : d.size ≤ maxLen) : ∃ t, laws_szRecord.f a b c d left = some t ∧ (0 ≤ t → t ≤ left ∧ a.size ≤ 1048576 ∧ d.size ≤ 1048576) := by
 simp only [maxLen] at ha hd
 have h2 : wrap64 (left - (a.size : Int)) = left - (a.size : Int) := by unfold wrap64; omega
 unfold laws_szRecord.f
 rw [h2]
 by_cases c1 : left - (a.size : Int) < 0
 · exact ⟨-1, by rw [if_pos c1], fun h => by omega⟩
 · have h3 : wrap64 (left - (a.size : Int) - (d.size : Int)) = left - (a.size : Int) - (d.size : Int) := by unfold wrap64; omega
   rw [h3]
   by_cases c2 : left - (a.size : Int) - (d.size : Int) < 0
   · exact ⟨-1, by rw [if_neg c1, if_pos c2], fun h => by omega⟩
   · exact ⟨_, by rw [if_neg c1, if_neg c2], fun h => by omega⟩
end Go.Proofs.YtkpkfallgjdkmaaGreatDoor.Pure
