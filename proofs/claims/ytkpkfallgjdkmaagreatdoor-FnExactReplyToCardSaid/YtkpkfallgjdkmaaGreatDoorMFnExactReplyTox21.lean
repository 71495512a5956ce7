/- FnExactReplyTo: part 22 of 23 of my texts for this claim, joined; the theorem stands in the last. Conditions: none beyond the statement's. -/
import Derived.Test.YtkpkfallgjdkmaaGreatDoorMFnExactReplyTox20
namespace Go.Proofs.YtkpkfallgjdkmaaGreatDoor.P
open Go.RowKit Go.Proofs.YtkpkfallgjdkmaaGreatDoorW.PrintWords Go.Proofs.YtkpkfallgjdkmaaGreatDoorW.PrintLast Go.Proofs.YtkpkfallgjdkmaaGreatDoorW.PrintMore
attribute [local go_sem] max2_int min2_int max_two min_two max_three min_three max_four min_four
set_option linter.unusedVariables false
set_option linter.unusedSimpArgs false
set_option maxHeartbeats 8000000 in
set_option maxRecDepth 100000 in
theorem laws_FnExactReplyTo.calls (k : Nat) (a0_0 : Int) (a0_1 : Bool) (a0_2 : Bool) (a0_3 : Int) (a0_4 : ByteArray) (a0_5 : Int) (A0_6 : Option Addr) (c0_6 : Nat) (l0_6 : List (S71)) (A0_7 : Option Addr) (c0_7 : Nat) (l0_7 : List (S71)) (a1 : Int) (A2 : Option Addr) (c2 : Nat) (l2 : List (S71)) (A3 : Option Addr) (c3 : Nat) (l3 : List (S71)) (r : Bool) (w : World) (hr0_6 : Kd.C k71 w A0_6 l0_6.length l0_6) (hc0_6 : l0_6.length ≤ c0_6) (hr0_7 : Kd.C k71 w A0_7 l0_7.length l0_7) (hc0_7 : l0_7.length ≤ c0_7) (hr2 : Kd.C k71 w A2 l2.length l2) (hc2 : l2.length ≤ c2) (hr3 : Kd.C k71 w A3 l3.length l3) (hc3 : l3.length ≤ c3) (h : laws_FnExactReplyTo.f k a0_0 a0_1 a0_2 a0_3 a0_4 a0_5 l0_6 l0_7 a1 l2 l3 = some r) (hv_ : Vars w := by exact vv_) :
 Calls Tryz.prog 4 #[.agg #[.int .i64 a0_0, .bool a0_1, .bool a0_2, .int .i64 a0_3, .string a0_4, .int .i64 a0_5, .slice A0_6 l0_6.length c0_6, .slice A0_7 l0_7.length c0_7], .int .i64 a1, .slice A2 l2.length c2, .slice A3 l3.length c3] w fun e w' => e = .returned (.bool r) ∧ Below w.heap.size w w' := by
 have HV_ := a0_ hv_
 clear hv_
 have hu32 := Tryz.underlying32
 have hu24 := Tryz.underlying24
 have HR0_6 := a0_ hr0_6
 have HC0_6 := a0_ hc0_6
 clear hr0_6 hc0_6
 have HR0_7 := a0_ hr0_7
 have HC0_7 := a0_ hc0_7
 clear hr0_7 hc0_7
 have HR2 := a0_ hr2
 have HC2 := a0_ hc2
 clear hr2 hc2
 have HR3 := a0_ hr3
 have HC3 := a0_ hc3
 clear hr3 hc3
 have HB := a0_ (Below.refl w.heap.size w)
 have H : ((laws_szMessage.f k a0_0 a0_1 a0_2 a0_3 a0_4 a0_5 l0_6 l0_7 1048576).bind fun t351 => (if t351 < 0 then (some true) else ((laws_szRecordS.f k l2 t351).bind fun t352 => (if t352 < 0 then (some true) else ((laws_szRecordS.f k l3 t352).bind fun t353 => (if t353 < 0 then (some true) else ((laws_toMessage.f k a0_0 a0_1 a0_2 a0_3 a0_4 a0_5 l0_6 l0_7).bind fun bt354 => ((laws_toRecordS.f k l2).bind fun t366 => ((laws_toRecordS.f k l3).bind fun t369 => ((spec_ReplyTo.f k bt354.1 bt354.2.1 bt354.2.2.1 bt354.2.2.2.1 bt354.2.2.2.2.1 bt354.2.2.2.2.2.1 bt354.2.2.2.2.2.2.1 bt354.2.2.2.2.2.2.2 a1 t366 t369).bind fun bt372 => ((laws_toMessage.f k a0_0 a0_1 a0_2 a0_3 a0_4 a0_5 l0_6 l0_7).bind fun bt386 => ((laws_toRecordS.f k l2).bind fun t399 => ((laws_toRecordS.f k l3).bind fun t402 => ((impl_ReplyTo.f k bt386.1 bt386.2.1 bt386.2.2.1 bt386.2.2.2.1 bt386.2.2.2.2.1 bt386.2.2.2.2.2.1 bt386.2.2.2.2.2.2.1 bt386.2.2.2.2.2.2.2 a1 t399 t402).bind fun bt405 => ((laws_eqMessage.f k bt405.1 bt405.2.1 bt405.2.2.1 bt405.2.2.2.1 bt405.2.2.2.2.1 bt405.2.2.2.2.2.1 bt405.2.2.2.2.2.2.1 bt405.2.2.2.2.2.2.2.1 bt372.1 bt372.2.1 bt372.2.2.1 bt372.2.2.2.1 bt372.2.2.2.2.1 bt372.2.2.2.2.2.1 bt372.2.2.2.2.2.2.1 bt372.2.2.2.2.2.2.2.1).bind fun t419 => (if t419 = true then (laws_FnExactReplyTo.j0 k a1 l2 l3 bt372.2.2.2.2.2.2.2.2 t399 t402 bt405.2.2.2.2.2.2.2.2 (bt405.2.2.2.2.2.2.2.2 != bt372.2.2.2.2.2.2.2.2) a0_0 a0_1 a0_2 a0_3 a0_4 a0_5 l0_6 l0_7 bt372.1 bt372.2.1 bt372.2.2.1 bt372.2.2.2.1 bt372.2.2.2.2.1 bt372.2.2.2.2.2.1 bt372.2.2.2.2.2.2.1 bt372.2.2.2.2.2.2.2.1 bt386.1 bt386.2.1 bt386.2.2.1 bt386.2.2.2.1 bt386.2.2.2.2.1 bt386.2.2.2.2.2.1 bt386.2.2.2.2.2.2.1 bt386.2.2.2.2.2.2.2 bt405.1 bt405.2.1 bt405.2.2.1 bt405.2.2.2.1 bt405.2.2.2.2.1 bt405.2.2.2.2.2.1 bt405.2.2.2.2.2.2.1 bt405.2.2.2.2.2.2.2.1) else (laws_FnExactReplyTo.j0 k a1 l2 l3 bt372.2.2.2.2.2.2.2.2 t399 t402 bt405.2.2.2.2.2.2.2.2 true a0_0 a0_1 a0_2 a0_3 a0_4 a0_5 l0_6 l0_7 bt372.1 bt372.2.1 bt372.2.2.1 bt372.2.2.2.1 bt372.2.2.2.2.1 bt372.2.2.2.2.2.1 bt372.2.2.2.2.2.2.1 bt372.2.2.2.2.2.2.2.1 bt386.1 bt386.2.1 bt386.2.2.1 bt386.2.2.2.1 bt386.2.2.2.2.1 bt386.2.2.2.2.2.1 bt386.2.2.2.2.2.2.1 bt386.2.2.2.2.2.2.2 bt405.1 bt405.2.1 bt405.2.2.1 bt405.2.2.2.1 bt405.2.2.2.2.1 bt405.2.2.2.2.2.1 bt405.2.2.2.2.2.2.1 bt405.2.2.2.2.2.2.2.1))))))))))))))))) = some r := h
 clear h
 obtain ⟨t351, A50, H⟩ := Option.bind_eq_some_iff.mp H
 have A5 := a0_ A50
 clear A50
 by_cases c6 : t351 < 0
 case pos =>
  rw [if_pos c6] at H
  have c6b0 := decide_eq_true c6
  clear c6
  obtain rfl := Option.some.inj H
  go_enter Tryz.func4, Tryz.ntmps4
  go_wp2_with (first | ((with_reducible refine gate_dst (N := 4) rfl ?_); refine boxS_ 4 #[.int .i64 a0_0, .bool a0_1, .bool a0_2, .int .i64 a0_3, .string a0_4, .int .i64 a0_5, .slice A0_6 l0_6.length c0_6, .slice A0_7 l0_7.length c0_7] 32 (fun gb350 hg w7 hbox hb => ?_); have n0_ := a0_ (below_step bq0_ hb); have n1_ := a0_ (hbox); have n2_ := a0_ (gw_ hg : w.heap.size ≤ gb350); have n3_ := n2_; clear HB; have HB := n0_; have BK350 := n1_; have GW350 := n2_; have GE350 := n3_; clear n0_ n1_ n2_ n3_; clear hb hbox hg; obtain ⟨z8_0, z8_1, z8_2, z8_3, z8_4, z8_5, z8_6, z8_7, q8_0, q8_1, q8_2, q8_3, q8_4, q8_5, q8_6, q8_7⟩ := bk8_ BK350.out) | ((with_reducible refine gate_callee (f := 17) rfl ?_); refine goesL_ (some 24) rfl rfl Tryz.func17 (by kernel_rfl) rfl #[.agg #[.int .i64 a0_0, .bool a0_1, .bool a0_2, .int .i64 a0_3, .string a0_4, .int .i64 a0_5, .slice A0_6 l0_6.length c0_6, .slice A0_7 l0_7.length c0_7], .int .i64 1048576] rfl argsS_ ?_; (with_reducible refine (laws_szMessage.calls k a0_0 a0_1 a0_2 a0_3 a0_4 a0_5 _ _ l0_6 _ _ l0_7 1048576 t351 _ ?side1 ?side2 ?side3 ?side4 A5.out).mono ?_); (case side1 => exact kC_ HR0_6.out HB.out); (case side2 => exact HC0_6.out); (case side3 => exact kC_ HR0_7.out HB.out); (case side4 => exact HC0_7.out); rintro e w9 ⟨rfl, hb⟩; refine ⟨_, rfl, ?_⟩; replace BK350 := a0_ (bkB_ BK350 hb); replace HB := a0_ (below_step bq1_ hb); (try clear hb); (try clear hb2); (try clear hk); (try clear hi)))
  go_ret
  exact ⟨rr_, bq1_⟩
 rw [if_neg c6] at H
 have c6b0 := decide_eq_false c6
 clear c6
 obtain ⟨t352, A100, H⟩ := Option.bind_eq_some_iff.mp H
 have A10 := a0_ A100
 clear A100
 by_cases c11 : t352 < 0
 case pos =>
  rw [if_pos c11] at H
  have c11b0 := decide_eq_true c11
  clear c11
  obtain rfl := Option.some.inj H
  go_enter Tryz.func4, Tryz.ntmps4
  go_wp2_with (first | ((with_reducible refine gate_dst (N := 4) rfl ?_); refine boxS_ 4 #[.int .i64 a0_0, .bool a0_1, .bool a0_2, .int .i64 a0_3, .string a0_4, .int .i64 a0_5, .slice A0_6 l0_6.length c0_6, .slice A0_7 l0_7.length c0_7] 32 (fun gb350 hg w12 hbox hb => ?_); have n0_ := a0_ (below_step bq0_ hb); have n1_ := a0_ (hbox); have n2_ := a0_ (gw_ hg : w.heap.size ≤ gb350); have n3_ := n2_; clear HB; have HB := n0_; have BK350 := n1_; have GW350 := n2_; have GE350 := n3_; clear n0_ n1_ n2_ n3_; clear hb hbox hg; obtain ⟨z13_0, z13_1, z13_2, z13_3, z13_4, z13_5, z13_6, z13_7, q13_0, q13_1, q13_2, q13_3, q13_4, q13_5, q13_6, q13_7⟩ := bk8_ BK350.out) | ((with_reducible refine gate_callee (f := 17) rfl ?_); refine goesL_ (some 24) rfl rfl Tryz.func17 (by kernel_rfl) rfl #[.agg #[.int .i64 a0_0, .bool a0_1, .bool a0_2, .int .i64 a0_3, .string a0_4, .int .i64 a0_5, .slice A0_6 l0_6.length c0_6, .slice A0_7 l0_7.length c0_7], .int .i64 1048576] rfl argsS_ ?_; (with_reducible refine (laws_szMessage.calls k a0_0 a0_1 a0_2 a0_3 a0_4 a0_5 _ _ l0_6 _ _ l0_7 1048576 t351 _ ?side1 ?side2 ?side3 ?side4 A5.out).mono ?_); (case side1 => exact kC_ HR0_6.out HB.out); (case side2 => exact HC0_6.out); (case side3 => exact kC_ HR0_7.out HB.out); (case side4 => exact HC0_7.out); rintro e w14 ⟨rfl, hb⟩; refine ⟨_, rfl, ?_⟩; replace BK350 := a0_ (bkB_ BK350 hb); replace HB := a0_ (below_step bq1_ hb); (try clear hb); (try clear hb2); (try clear hk); (try clear hi)) | ((with_reducible refine gate_callee (f := 18) rfl ?_); refine goesL_ (some 29) rfl rfl Tryz.func18 (by kernel_rfl) rfl #[.slice A2 l2.length c2, .int .i64 t351] rfl argsS_ ?_; (with_reducible refine (laws_szRecordS.calls k _ _ l2 t351 t352 _ ?side1 ?side2 A10.out).mono ?_); (case side1 => exact kC_ HR2.out HB.out); (case side2 => exact HC2.out); rintro e w15 ⟨rfl, hb⟩; refine ⟨_, rfl, ?_⟩; replace BK350 := a0_ (bkB_ BK350 hb); replace HB := a0_ (below_step bq1_ hb); (try clear hb); (try clear hb2); (try clear hk); (try clear hi)))
  go_ret
  exact ⟨rr_, bq1_⟩
 rw [if_neg c11] at H
 have c11b0 := decide_eq_false c11
 clear c11
 obtain ⟨t353, A160, H⟩ := Option.bind_eq_some_iff.mp H
 have A16 := a0_ A160
 clear A160
 by_cases c17 : t353 < 0
 case pos =>
  rw [if_pos c17] at H
  have c17b0 := decide_eq_true c17
  clear c17
  obtain rfl := Option.some.inj H
  go_enter Tryz.func4, Tryz.ntmps4
  go_wp2_with (first | ((with_reducible refine gate_dst (N := 4) rfl ?_); refine boxS_ 4 #[.int .i64 a0_0, .bool a0_1, .bool a0_2, .int .i64 a0_3, .string a0_4, .int .i64 a0_5, .slice A0_6 l0_6.length c0_6, .slice A0_7 l0_7.length c0_7] 32 (fun gb350 hg w18 hbox hb => ?_); have n0_ := a0_ (below_step bq0_ hb); have n1_ := a0_ (hbox); have n2_ := a0_ (gw_ hg : w.heap.size ≤ gb350); have n3_ := n2_; clear HB; have HB := n0_; have BK350 := n1_; have GW350 := n2_; have GE350 := n3_; clear n0_ n1_ n2_ n3_; clear hb hbox hg; obtain ⟨z19_0, z19_1, z19_2, z19_3, z19_4, z19_5, z19_6, z19_7, q19_0, q19_1, q19_2, q19_3, q19_4, q19_5, q19_6, q19_7⟩ := bk8_ BK350.out) | ((with_reducible refine gate_callee (f := 17) rfl ?_); refine goesL_ (some 24) rfl rfl Tryz.func17 (by kernel_rfl) rfl #[.agg #[.int .i64 a0_0, .bool a0_1, .bool a0_2, .int .i64 a0_3, .string a0_4, .int .i64 a0_5, .slice A0_6 l0_6.length c0_6, .slice A0_7 l0_7.length c0_7], .int .i64 1048576] rfl argsS_ ?_; (with_reducible refine (laws_szMessage.calls k a0_0 a0_1 a0_2 a0_3 a0_4 a0_5 _ _ l0_6 _ _ l0_7 1048576 t351 _ ?side1 ?side2 ?side3 ?side4 A5.out).mono ?_); (case side1 => exact kC_ HR0_6.out HB.out); (case side2 => exact HC0_6.out); (case side3 => exact kC_ HR0_7.out HB.out); (case side4 => exact HC0_7.out); rintro e w20 ⟨rfl, hb⟩; refine ⟨_, rfl, ?_⟩; replace BK350 := a0_ (bkB_ BK350 hb); replace HB := a0_ (below_step bq1_ hb); (try clear hb); (try clear hb2); (try clear hk); (try clear hi)) | ((with_reducible refine gate_callee (f := 18) rfl ?_); refine goesL_ (some 29) rfl rfl Tryz.func18 (by kernel_rfl) rfl #[.slice A2 l2.length c2, .int .i64 t351] rfl argsS_ ?_; (with_reducible refine (laws_szRecordS.calls k _ _ l2 t351 t352 _ ?side1 ?side2 A10.out).mono ?_); (case side1 => exact kC_ HR2.out HB.out); (case side2 => exact HC2.out); rintro e w21 ⟨rfl, hb⟩; refine ⟨_, rfl, ?_⟩; replace BK350 := a0_ (bkB_ BK350 hb); replace HB := a0_ (below_step bq1_ hb); (try clear hb); (try clear hb2); (try clear hk); (try clear hi)) | ((with_reducible refine gate_callee (f := 18) rfl ?_); refine goesL_ (some 34) rfl rfl Tryz.func18 (by kernel_rfl) rfl #[.slice A3 l3.length c3, .int .i64 t352] rfl argsS_ ?_; (with_reducible refine (laws_szRecordS.calls k _ _ l3 t352 t353 _ ?side1 ?side2 A16.out).mono ?_); (case side1 => exact kC_ HR3.out HB.out); (case side2 => exact HC3.out); rintro e w22 ⟨rfl, hb⟩; refine ⟨_, rfl, ?_⟩; replace BK350 := a0_ (bkB_ BK350 hb); replace HB := a0_ (below_step bq1_ hb); (try clear hb); (try clear hb2); (try clear hk); (try clear hi)))
  go_ret
  exact ⟨rr_, bq1_⟩
 rw [if_neg c17] at H
 have c17b0 := decide_eq_false c17
 clear c17
 obtain ⟨⟨t354, t355, t356, t357, t358, t359, t360, t363⟩, A230, H⟩ := Option.bind_eq_some_iff.mp H
 have A23 := a0_ A230
 clear A230
 obtain ⟨t366, A240, H⟩ := Option.bind_eq_some_iff.mp H
 have A24 := a0_ A240
 clear A240
 obtain ⟨t369, A250, H⟩ := Option.bind_eq_some_iff.mp H
 have A25 := a0_ A250
 clear A250
 obtain ⟨⟨t372, t373, t374, t375, t376, t377, t378, t381, t384⟩, A260, H⟩ := Option.bind_eq_some_iff.mp H
 have A26 := a0_ A260
 clear A260
 obtain ⟨⟨t386, t387, t388, t389, t390, t391, t392, t395⟩, A270, H⟩ := Option.bind_eq_some_iff.mp H
 have A27 := a0_ A270
 clear A270
 obtain ⟨t399, A280, H⟩ := Option.bind_eq_some_iff.mp H
 have A28 := a0_ A280
 clear A280
 obtain ⟨t402, A290, H⟩ := Option.bind_eq_some_iff.mp H
 have A29 := a0_ A290
 clear A290
 obtain ⟨⟨t405, t406, t407, t408, t409, t410, t411, t414, t417⟩, A300, H⟩ := Option.bind_eq_some_iff.mp H
 have A30 := a0_ A300
 clear A300
 have HC31 := a0_ H
 clear H
 go_enter Tryz.func4, Tryz.ntmps4
 go_upto_region 16 with (first | ((with_reducible refine gate_dst (N := 4) rfl ?_); refine boxS_ 4 #[.int .i64 a0_0, .bool a0_1, .bool a0_2, .int .i64 a0_3, .string a0_4, .int .i64 a0_5, .slice A0_6 l0_6.length c0_6, .slice A0_7 l0_7.length c0_7] 32 (fun gb350 hg w32 hbox hb => ?_); have n0_ := a0_ (below_step bq0_ hb); have n1_ := a0_ (hbox); have n2_ := a0_ (gw_ hg : w.heap.size ≤ gb350); have n3_ := n2_; clear HB; have HB := n0_; have BK350 := n1_; have GW350 := n2_; have GE350 := n3_; clear n0_ n1_ n2_ n3_; clear hb hbox hg; obtain ⟨z33_0, z33_1, z33_2, z33_3, z33_4, z33_5, z33_6, z33_7, q33_0, q33_1, q33_2, q33_3, q33_4, q33_5, q33_6, q33_7⟩ := bk8_ BK350.out) | ((with_reducible refine gate_callee (f := 17) rfl ?_); refine goesL_ (some 24) rfl rfl Tryz.func17 (by kernel_rfl) rfl #[.agg #[.int .i64 a0_0, .bool a0_1, .bool a0_2, .int .i64 a0_3, .string a0_4, .int .i64 a0_5, .slice A0_6 l0_6.length c0_6, .slice A0_7 l0_7.length c0_7], .int .i64 1048576] rfl argsS_ ?_; (with_reducible refine (laws_szMessage.calls k a0_0 a0_1 a0_2 a0_3 a0_4 a0_5 _ _ l0_6 _ _ l0_7 1048576 t351 _ ?side1 ?side2 ?side3 ?side4 A5.out).mono ?_); (case side1 => exact kC_ HR0_6.out HB.out); (case side2 => exact HC0_6.out); (case side3 => exact kC_ HR0_7.out HB.out); (case side4 => exact HC0_7.out); rintro e w34 ⟨rfl, hb⟩; refine ⟨_, rfl, ?_⟩; replace BK350 := a0_ (bkB_ BK350 hb); replace HB := a0_ (below_step bq1_ hb); (try clear hb); (try clear hb2); (try clear hk); (try clear hi)) | ((with_reducible refine gate_callee (f := 18) rfl ?_); refine goesL_ (some 29) rfl rfl Tryz.func18 (by kernel_rfl) rfl #[.slice A2 l2.length c2, .int .i64 t351] rfl argsS_ ?_; (with_reducible refine (laws_szRecordS.calls k _ _ l2 t351 t352 _ ?side1 ?side2 A10.out).mono ?_); (case side1 => exact kC_ HR2.out HB.out); (case side2 => exact HC2.out); rintro e w35 ⟨rfl, hb⟩; refine ⟨_, rfl, ?_⟩; replace BK350 := a0_ (bkB_ BK350 hb); replace HB := a0_ (below_step bq1_ hb); (try clear hb); (try clear hb2); (try clear hk); (try clear hi)) | ((with_reducible refine gate_callee (f := 18) rfl ?_); refine goesL_ (some 34) rfl rfl Tryz.func18 (by kernel_rfl) rfl #[.slice A3 l3.length c3, .int .i64 t352] rfl argsS_ ?_; (with_reducible refine (laws_szRecordS.calls k _ _ l3 t352 t353 _ ?side1 ?side2 A16.out).mono ?_); (case side1 => exact kC_ HR3.out HB.out); (case side2 => exact HC3.out); rintro e w36 ⟨rfl, hb⟩; refine ⟨_, rfl, ?_⟩; replace BK350 := a0_ (bkB_ BK350 hb); replace HB := a0_ (below_step bq1_ hb); (try clear hb); (try clear hb2); (try clear hk); (try clear hi); obtain ⟨z37_0, z37_1, z37_2, z37_3, z37_4, z37_5, z37_6, z37_7, q37_0, q37_1, q37_2, q37_3, q37_4, q37_5, q37_6, q37_7⟩ := bk8_ BK350.out) | ((with_reducible refine gate_callee (f := 20) rfl ?_); refine goesL_ (some 39) rfl rfl Tryz.func20 (by kernel_rfl) rfl #[.agg #[.int .i64 a0_0, .bool a0_1, .bool a0_2, .int .i64 a0_3, .string a0_4, .int .i64 a0_5, .slice A0_6 l0_6.length c0_6, .slice A0_7 l0_7.length c0_7]] rfl argsS_ ?_; (with_reducible refine (laws_toMessage.calls k a0_0 a0_1 a0_2 a0_3 a0_4 a0_5 _ _ l0_6 _ _ l0_7 t354 t355 t356 t357 t358 t359 t360 t363 _ ?side1 ?side2 ?side3 ?side4 A23.out).mono ?_); (case side1 => exact kC_ HR0_6.out HB.out); (case side2 => exact HC0_6.out); (case side3 => exact kC_ HR0_7.out HB.out); (case side4 => exact HC0_7.out); rintro e w38 ⟨v361, v364, rfl, ho0, ho1, hb⟩; refine ⟨_, rfl, ?_⟩; have HO362 := a0_ (Kd.R_lower ho0 (below_size bq1_)); have HO365 := a0_ (Kd.R_lower ho1 (below_size bq1_)); replace BK350 := a0_ (bkB_ BK350 hb); replace HB := a0_ (below_step bq1_ hb); (try clear hb); (try clear hb2); (try clear hk); (try clear hi); (try clear ho0); (try clear ho1)) | ((with_reducible refine gate_callee (f := 21) rfl ?_); refine goesL_ (some 42) rfl rfl Tryz.func21 (by kernel_rfl) rfl #[.slice A2 l2.length c2] rfl argsS_ ?_; (with_reducible refine (laws_toRecordS.calls k _ _ l2 t366 _ ?side1 ?side2 A24.out).mono ?_); (case side1 => exact kC_ HR2.out HB.out); (case side2 => exact HC2.out); rintro e w39 ⟨v367, rfl, ho0, hb⟩; refine ⟨_, rfl, ?_⟩; have n0_ := a0_ (Kd.R_elder' (kR_ HO362.out) (Kd.R_base ho0) hb); have n1_ := a0_ (Kd.R_elder' (kR_ HO365.out) (Kd.R_base ho0) hb); have n2_ := a0_ (Kd.R_lower (Kd.R_new' (Kd.R_new' ho0 (Kd.R_lt (kR_ HO362.out))) (Kd.R_lt (kR_ HO365.out))) (below_size bq1_)); have n3_ := a0_ (bkB_ BK350 hb); have n4_ := a0_ (below_step bq1_ hb); clear HO362; clear HO365; clear BK350; clear HB; have HO362 := n0_; have HO365 := n1_; have HO368 := n2_; have BK350 := n3_; have HB := n4_; clear n0_ n1_ n2_ n3_ n4_; (try clear hb); (try clear hb2); (try clear hk); (try clear hi); (try clear ho0)) | ((with_reducible refine gate_callee (f := 21) rfl ?_); refine goesL_ (some 44) rfl rfl Tryz.func21 (by kernel_rfl) rfl #[.slice A3 l3.length c3] rfl argsS_ ?_; (with_reducible refine (laws_toRecordS.calls k _ _ l3 t369 _ ?side1 ?side2 A25.out).mono ?_); (case side1 => exact kC_ HR3.out HB.out); (case side2 => exact HC3.out); rintro e w40 ⟨v370, rfl, ho0, hb⟩; refine ⟨_, rfl, ?_⟩; have n0_ := a0_ (Kd.R_elder' (kR_ HO362.out) (Kd.R_base ho0) hb); have n1_ := a0_ (Kd.R_elder' (kR_ HO365.out) (Kd.R_base ho0) hb); have n2_ := a0_ (Kd.R_elder' (kR_ HO368.out) (Kd.R_base ho0) hb); have n3_ := a0_ (Kd.R_lower (Kd.R_new' (Kd.R_new' (Kd.R_new' ho0 (Kd.R_lt (kR_ HO362.out))) (Kd.R_lt (kR_ HO365.out))) (Kd.R_lt (kR_ HO368.out))) (below_size bq1_)); have n4_ := a0_ (bkB_ BK350 hb); have n5_ := a0_ (below_step bq1_ hb); clear HO362; clear HO365; clear HO368; clear BK350; clear HB; have HO362 := n0_; have HO365 := n1_; have HO368 := n2_; have HO371 := n3_; have BK350 := n4_; have HB := n5_; clear n0_ n1_ n2_ n3_ n4_ n5_; (try clear hb); (try clear hb2); (try clear hk); (try clear hi); (try clear ho0); obtain ⟨Ao41, co41, eo41⟩ := Kd.R_slice HO362.out; subst eo41; obtain ⟨Ao42, co42, eo42⟩ := Kd.R_slice HO365.out; subst eo42; obtain ⟨Ao43, co43, eo43⟩ := Kd.R_slice HO368.out; subst eo43; obtain ⟨Ao44, co44, eo44⟩ := Kd.R_slice HO371.out; subst eo44) | ((with_reducible refine gate_callee (f := 19) rfl ?_); refine goesL_ (some 45) rfl rfl Tryz.func19 (by kernel_rfl) rfl #[.agg #[.int .i64 t354, .bool t355, .bool t356, .int .i64 t357, .string t358, .int .i64 t359, .slice Ao41 t360.length co41, .slice Ao42 t363.length co42], .int .i64 a1, .slice Ao43 t366.length co43, .slice Ao44 t369.length co44] rfl argsS_ ?_; (with_reducible refine (spec_ReplyTo.calls k t354 t355 t356 t357 t358 t359 _ _ t360 _ _ t363 a1 _ _ t366 _ _ t369 t372 t373 t374 t375 t376 t377 t378 t381 t384 _ ?side1 ?side2 ?side3 ?side4 ?side5 ?side6 ?side7 ?side8 A26.out).mono ?_); (case side1 => exact kD_ (Kd.R_reads' HO362.out).2.2); (case side2 => exact (Kd.R_reads' HO362.out).2.1); (case side3 => exact kD_ (Kd.R_reads' HO365.out).2.2); (case side4 => exact (Kd.R_reads' HO365.out).2.1); (case side5 => exact kD_ (Kd.R_reads' HO368.out).2.2); (case side6 => exact (Kd.R_reads' HO368.out).2.1); (case side7 => exact kD_ (Kd.R_reads' HO371.out).2.2); (case side8 => exact (Kd.R_reads' HO371.out).2.1); rintro e w45 ⟨v379, v382, rfl, ho0, ho1, hb⟩; refine ⟨_, rfl, ?_⟩; have n0_ := a0_ (Kd.R_mono (Kd.R_told (Kd.R_told (Kd.R_old (kR_ HO362.out) hb) (Kd.R_base ho0)) (Kd.R_base ho1)) (fun _ h_ => h_.1)); have n1_ := a0_ (Kd.R_mono (Kd.R_told (Kd.R_told (Kd.R_old (kR_ HO365.out) hb) (Kd.R_base ho0)) (Kd.R_base ho1)) (fun _ h_ => h_.1)); have n2_ := a0_ (Kd.R_mono (Kd.R_told (Kd.R_told (Kd.R_old (kR_ HO368.out) hb) (Kd.R_base ho0)) (Kd.R_base ho1)) (fun _ h_ => h_.1)); have n3_ := a0_ (Kd.R_mono (Kd.R_told (Kd.R_told (Kd.R_old (kR_ HO371.out) hb) (Kd.R_base ho0)) (Kd.R_base ho1)) (fun _ h_ => h_.1)); have n4_ := a0_ (Kd.R_lower (Kd.R_new' (Kd.R_new' (Kd.R_new' (Kd.R_new' ho0 (Kd.R_lt (kR_ HO362.out))) (Kd.R_lt (kR_ HO365.out))) (Kd.R_lt (kR_ HO368.out))) (Kd.R_lt (kR_ HO371.out))) (below_size bq1_)); have n5_ := a0_ (Kd.R_lower (Kd.R_new' (Kd.R_new' (Kd.R_new' (Kd.R_new' ho1 (Kd.R_lt (kR_ HO362.out))) (Kd.R_lt (kR_ HO365.out))) (Kd.R_lt (kR_ HO368.out))) (Kd.R_lt (kR_ HO371.out))) (below_size bq1_)); have n6_ := a0_ (bkB_ BK350 hb); have n7_ := a0_ (below_step bq1_ hb); clear HO362; clear HO365; clear HO368; clear HO371; clear BK350; clear HB; have HO362 := n0_; have HO365 := n1_; have HO368 := n2_; have HO371 := n3_; have HO380 := n4_; have HO383 := n5_; have BK350 := n6_; have HB := n7_; clear n0_ n1_ n2_ n3_ n4_ n5_ n6_ n7_; (try clear hb); (try clear hb2); (try clear hk); (try clear hi); (try clear ho0); (try clear ho1)) | ((with_reducible refine gate_dst (N := 10) rfl ?_); refine boxS_ 10 #[.int .i64 0, .bool false, .bool false, .int .i64 0, .string (⟨#[]⟩ : ByteArray), .int .i64 0, .slice none 0 0, .slice none 0 0] 24 (fun gb385 hg w46 hbox hb => ?_); have n0_ := a0_ (Kd.R_below (kR_ HO362.out) hb); have n1_ := a0_ (Kd.R_below (kR_ HO365.out) hb); have n2_ := a0_ (Kd.R_below (kR_ HO368.out) hb); have n3_ := a0_ (Kd.R_below (kR_ HO371.out) hb); have n4_ := a0_ (Kd.R_below (kR_ HO380.out) hb); have n5_ := a0_ (Kd.R_below (kR_ HO383.out) hb); have n6_ := a0_ (bkB_ BK350 hb); have n7_ := a0_ (below_step bq1_ hb); have n8_ := a0_ (hbox); have n9_ := a0_ (gw_ hg (below_size bq1_) : w.heap.size ≤ gb385); have n10_ := n9_; have n11_ := a0_ ((by rw [hg]; exact Nat.ne_of_lt (blk_lt (g := gb350) (o := .cells #[.int .i64 a0_0, .bool a0_1, .bool a0_2, .int .i64 a0_3, .string a0_4, .int .i64 a0_5, .slice A0_6 l0_6.length c0_6, .slice A0_7 l0_7.length c0_7] 32 (0, 0)) (kB_ BK350.out)) : gb350 ≠ gb385)); have n12_ := a0_ ((by rw [hg]; exact Nat.ne_of_gt (blk_lt (g := gb350) (o := .cells #[.int .i64 a0_0, .bool a0_1, .bool a0_2, .int .i64 a0_3, .string a0_4, .int .i64 a0_5, .slice A0_6 l0_6.length c0_6, .slice A0_7 l0_7.length c0_7] 32 (0, 0)) (kB_ BK350.out)) : gb385 ≠ gb350)); clear HO362; clear HO365; clear HO368; clear HO371; clear HO380; clear HO383; clear BK350; clear HB; have HO362 := n0_; have HO365 := n1_; have HO368 := n2_; have HO371 := n3_; have HO380 := n4_; have HO383 := n5_; have BK350 := n6_; have HB := n7_; have BK385 := n8_; have GW385 := n9_; have GE385 := n10_; have NB350_385 := n11_; have NB385_350 := n12_; clear n0_ n1_ n2_ n3_ n4_ n5_ n6_ n7_ n8_ n9_ n10_ n11_ n12_; clear hb hbox hg; have hnb47 := NB385_350.out; have hnc47 := NB350_385.out; obtain ⟨z48_0, z48_1, z48_2, z48_3, z48_4, z48_5, z48_6, z48_7, q48_0, q48_1, q48_2, q48_3, q48_4, q48_5, q48_6, q48_7⟩ := bk8_ BK385.out; obtain ⟨Ao49, co49, eo49⟩ := Kd.R_slice HO380.out; subst eo49; obtain ⟨Ao50, co50, eo50⟩ := Kd.R_slice HO383.out; subst eo50; obtain ⟨z51_0, z51_1, z51_2, z51_3, z51_4, z51_5, z51_6, z51_7, q51_0, q51_1, q51_2, q51_3, q51_4, q51_5, q51_6, q51_7⟩ := bk8_ BK350.out) | ((with_reducible refine gate_callee (f := 20) rfl ?_); refine goesL_ (some 49) rfl rfl Tryz.func20 (by kernel_rfl) rfl #[.agg #[.int .i64 a0_0, .bool a0_1, .bool a0_2, .int .i64 a0_3, .string a0_4, .int .i64 a0_5, .slice A0_6 l0_6.length c0_6, .slice A0_7 l0_7.length c0_7]] rfl argsS_ ?_; (with_reducible refine (laws_toMessage.calls k a0_0 a0_1 a0_2 a0_3 a0_4 a0_5 _ _ l0_6 _ _ l0_7 t386 t387 t388 t389 t390 t391 t392 t395 _ ?side1 ?side2 ?side3 ?side4 A27.out).mono ?_); (case side1 => exact Kd.C_below HR0_6.out bq1_); (case side2 => exact HC0_6.out); (case side3 => exact Kd.C_below HR0_7.out bq1_); (case side4 => exact HC0_7.out); rintro e w52 ⟨v393, v396, rfl, ho0, ho1, hb⟩; refine ⟨_, rfl, ?_⟩; have n0_ := a0_ (Kd.R_mono (Kd.R_told (Kd.R_told (Kd.R_old (kR_ (farR8_ HO362.out BK385.out)) hb) (Kd.R_base ho0)) (Kd.R_base ho1)) (fun _ h_ => h_.1)); have n1_ := a0_ (Kd.R_mono (Kd.R_told (Kd.R_told (Kd.R_old (kR_ (farR8_ HO365.out BK385.out)) hb) (Kd.R_base ho0)) (Kd.R_base ho1)) (fun _ h_ => h_.1)); have n2_ := a0_ (Kd.R_mono (Kd.R_told (Kd.R_told (Kd.R_old (kR_ (farR8_ HO368.out BK385.out)) hb) (Kd.R_base ho0)) (Kd.R_base ho1)) (fun _ h_ => h_.1)); have n3_ := a0_ (Kd.R_mono (Kd.R_told (Kd.R_told (Kd.R_old (kR_ (farR8_ HO371.out BK385.out)) hb) (Kd.R_base ho0)) (Kd.R_base ho1)) (fun _ h_ => h_.1)); have n4_ := a0_ (Kd.R_mono (Kd.R_told (Kd.R_told (Kd.R_old (kR_ (farR8_ HO380.out BK385.out)) hb) (Kd.R_base ho0)) (Kd.R_base ho1)) (fun _ h_ => h_.1)); have n5_ := a0_ (Kd.R_mono (Kd.R_told (Kd.R_told (Kd.R_old (kR_ (farR8_ HO383.out BK385.out)) hb) (Kd.R_base ho0)) (Kd.R_base ho1)) (fun _ h_ => h_.1)); have n6_ := a0_ (Kd.R_lower (Kd.R_new' (Kd.R_new' (Kd.R_new' (Kd.R_new' (Kd.R_new' (Kd.R_new' ho0 (Kd.R_lt (kR_ (farR8_ HO362.out BK385.out)))) (Kd.R_lt (kR_ (farR8_ HO365.out BK385.out)))) (Kd.R_lt (kR_ (farR8_ HO368.out BK385.out)))) (Kd.R_lt (kR_ (farR8_ HO371.out BK385.out)))) (Kd.R_lt (kR_ (farR8_ HO380.out BK385.out)))) (Kd.R_lt (kR_ (farR8_ HO383.out BK385.out)))) (below_size bq1_)); have n7_ := a0_ (Kd.R_lower (Kd.R_new' (Kd.R_new' (Kd.R_new' (Kd.R_new' (Kd.R_new' (Kd.R_new' ho1 (Kd.R_lt (kR_ (farR8_ HO362.out BK385.out)))) (Kd.R_lt (kR_ (farR8_ HO365.out BK385.out)))) (Kd.R_lt (kR_ (farR8_ HO368.out BK385.out)))) (Kd.R_lt (kR_ (farR8_ HO371.out BK385.out)))) (Kd.R_lt (kR_ (farR8_ HO380.out BK385.out)))) (Kd.R_lt (kR_ (farR8_ HO383.out BK385.out)))) (below_size bq1_)); have n8_ := a0_ (blk_below (g := gb350) (o := .cells #[.int .i64 a0_0, .bool a0_1, .bool a0_2, .int .i64 a0_3, .string a0_4, .int .i64 a0_5, .slice A0_6 l0_6.length c0_6, .slice A0_7 l0_7.length c0_7] 32 (0, 0)) (bfar8_ NB350_385.out BK350.out) hb); have n9_ := a0_ (blk_below (g := gb385) (o := .cells #[.int .i64 t372, .bool t373, .bool t374, .int .i64 t375, .string t376, .int .i64 t377, .slice Ao49 t378.length co49, .slice Ao50 t381.length co50] 24 (0, 0)) (put8_ BK385.out) hb); have n10_ := a0_ (below_step bq1_ hb); clear HO362; clear HO365; clear HO368; clear HO371; clear HO380; clear HO383; clear BK350; clear BK385; clear HB; have HO362 := n0_; have HO365 := n1_; have HO368 := n2_; have HO371 := n3_; have HO380 := n4_; have HO383 := n5_; have HO394 := n6_; have HO397 := n7_; have BK350 := n8_; have BK385 := n9_; have HB := n10_; clear n0_ n1_ n2_ n3_ n4_ n5_ n6_ n7_ n8_ n9_ n10_; (try clear hb); (try clear hb2); (try clear hk); (try clear hi); (try clear ho0); (try clear ho1)) | ((with_reducible refine gate_dst (N := 12) rfl ?_); refine boxS_ 12 #[.int .i64 0, .bool false, .bool false, .int .i64 0, .string (⟨#[]⟩ : ByteArray), .int .i64 0, .slice none 0 0, .slice none 0 0] 24 (fun gb398 hg w53 hbox hb => ?_); have n0_ := a0_ (Kd.R_below (kR_ HO362.out) hb); have n1_ := a0_ (Kd.R_below (kR_ HO365.out) hb); have n2_ := a0_ (Kd.R_below (kR_ HO368.out) hb); have n3_ := a0_ (Kd.R_below (kR_ HO371.out) hb); have n4_ := a0_ (Kd.R_below (kR_ HO380.out) hb); have n5_ := a0_ (Kd.R_below (kR_ HO383.out) hb); have n6_ := a0_ (Kd.R_below (kR_ HO394.out) hb); have n7_ := a0_ (Kd.R_below (kR_ HO397.out) hb); have n8_ := a0_ (bkB_ BK350 hb); have n9_ := a0_ (bkB_ BK385 hb); have n10_ := a0_ (below_step bq1_ hb); have n11_ := a0_ (hbox); have n12_ := a0_ (gw_ hg (below_size bq1_) : w.heap.size ≤ gb398); have n13_ := n12_; have n14_ := a0_ ((by rw [hg]; exact Nat.ne_of_lt (blk_lt (g := gb350) (o := .cells #[.int .i64 a0_0, .bool a0_1, .bool a0_2, .int .i64 a0_3, .string a0_4, .int .i64 a0_5, .slice A0_6 l0_6.length c0_6, .slice A0_7 l0_7.length c0_7] 32 (0, 0)) (kB_ BK350.out)) : gb350 ≠ gb398)); have n15_ := a0_ ((by rw [hg]; exact Nat.ne_of_gt (blk_lt (g := gb350) (o := .cells #[.int .i64 a0_0, .bool a0_1, .bool a0_2, .int .i64 a0_3, .string a0_4, .int .i64 a0_5, .slice A0_6 l0_6.length c0_6, .slice A0_7 l0_7.length c0_7] 32 (0, 0)) (kB_ BK350.out)) : gb398 ≠ gb350)); have n16_ := a0_ ((by rw [hg]; exact Nat.ne_of_lt (blk_lt (g := gb385) (o := .cells #[.int .i64 t372, .bool t373, .bool t374, .int .i64 t375, .string t376, .int .i64 t377, .slice Ao49 t378.length co49, .slice Ao50 t381.length co50] 24 (0, 0)) (kB_ BK385.out)) : gb385 ≠ gb398)); have n17_ := a0_ ((by rw [hg]; exact Nat.ne_of_gt (blk_lt (g := gb385) (o := .cells #[.int .i64 t372, .bool t373, .bool t374, .int .i64 t375, .string t376, .int .i64 t377, .slice Ao49 t378.length co49, .slice Ao50 t381.length co50] 24 (0, 0)) (kB_ BK385.out)) : gb398 ≠ gb385)); clear HO362; clear HO365; clear HO368; clear HO371; clear HO380; clear HO383; clear HO394; clear HO397; clear BK350; clear BK385; clear HB; have HO362 := n0_; have HO365 := n1_; have HO368 := n2_; have HO371 := n3_; have HO380 := n4_; have HO383 := n5_; have HO394 := n6_; have HO397 := n7_; have BK350 := n8_; have BK385 := n9_; have HB := n10_; have BK398 := n11_; have GW398 := n12_; have GE398 := n13_; have NB350_398 := n14_; have NB398_350 := n15_; have NB385_398 := n16_; have NB398_385 := n17_; clear n0_ n1_ n2_ n3_ n4_ n5_ n6_ n7_ n8_ n9_ n10_ n11_ n12_ n13_ n14_ n15_ n16_ n17_; clear hb hbox hg; have hnb54 := NB398_350.out; have hnc54 := NB350_398.out; have hnb55 := NB398_385.out; have hnc55 := NB385_398.out; obtain ⟨z56_0, z56_1, z56_2, z56_3, z56_4, z56_5, z56_6, z56_7, q56_0, q56_1, q56_2, q56_3, q56_4, q56_5, q56_6, q56_7⟩ := bk8_ BK398.out; obtain ⟨Ao57, co57, eo57⟩ := Kd.R_slice HO394.out; subst eo57; obtain ⟨Ao58, co58, eo58⟩ := Kd.R_slice HO397.out; subst eo58) | ((with_reducible refine gate_callee (f := 21) rfl ?_); refine goesL_ (some 51) rfl rfl Tryz.func21 (by kernel_rfl) rfl #[.slice A2 l2.length c2] rfl argsS_ ?_; (with_reducible refine (laws_toRecordS.calls k _ _ l2 t399 _ ?side1 ?side2 A28.out).mono ?_); (case side1 => exact Kd.C_below HR2.out bq1_); (case side2 => exact HC2.out); rintro e w59 ⟨v400, rfl, ho0, hb⟩; refine ⟨_, rfl, ?_⟩; have n0_ := a0_ (Kd.R_elder' (kR_ (farR8_ HO362.out BK398.out)) (Kd.R_base ho0) hb); have n1_ := a0_ (Kd.R_elder' (kR_ (farR8_ HO365.out BK398.out)) (Kd.R_base ho0) hb); have n2_ := a0_ (Kd.R_elder' (kR_ (farR8_ HO368.out BK398.out)) (Kd.R_base ho0) hb); have n3_ := a0_ (Kd.R_elder' (kR_ (farR8_ HO371.out BK398.out)) (Kd.R_base ho0) hb); have n4_ := a0_ (Kd.R_elder' (kR_ (farR8_ HO380.out BK398.out)) (Kd.R_base ho0) hb); have n5_ := a0_ (Kd.R_elder' (kR_ (farR8_ HO383.out BK398.out)) (Kd.R_base ho0) hb); have n6_ := a0_ (Kd.R_elder' (kR_ (farR8_ HO394.out BK398.out)) (Kd.R_base ho0) hb); have n7_ := a0_ (Kd.R_elder' (kR_ (farR8_ HO397.out BK398.out)) (Kd.R_base ho0) hb); have n8_ := a0_ (Kd.R_lower (Kd.R_new' (Kd.R_new' (Kd.R_new' (Kd.R_new' (Kd.R_new' (Kd.R_new' (Kd.R_new' (Kd.R_new' ho0 (Kd.R_lt (kR_ (farR8_ HO362.out BK398.out)))) (Kd.R_lt (kR_ (farR8_ HO365.out BK398.out)))) (Kd.R_lt (kR_ (farR8_ HO368.out BK398.out)))) (Kd.R_lt (kR_ (farR8_ HO371.out BK398.out)))) (Kd.R_lt (kR_ (farR8_ HO380.out BK398.out)))) (Kd.R_lt (kR_ (farR8_ HO383.out BK398.out)))) (Kd.R_lt (kR_ (farR8_ HO394.out BK398.out)))) (Kd.R_lt (kR_ (farR8_ HO397.out BK398.out)))) (below_size bq1_)); have n9_ := a0_ (blk_below (g := gb350) (o := .cells #[.int .i64 a0_0, .bool a0_1, .bool a0_2, .int .i64 a0_3, .string a0_4, .int .i64 a0_5, .slice A0_6 l0_6.length c0_6, .slice A0_7 l0_7.length c0_7] 32 (0, 0)) (bfar8_ NB350_398.out BK350.out) hb); have n10_ := a0_ (blk_below (g := gb385) (o := .cells #[.int .i64 t372, .bool t373, .bool t374, .int .i64 t375, .string t376, .int .i64 t377, .slice Ao49 t378.length co49, .slice Ao50 t381.length co50] 24 (0, 0)) (bfar8_ NB385_398.out BK385.out) hb); have n11_ := a0_ (blk_below (g := gb398) (o := .cells #[.int .i64 t386, .bool t387, .bool t388, .int .i64 t389, .string t390, .int .i64 t391, .slice Ao57 t392.length co57, .slice Ao58 t395.length co58] 24 (0, 0)) (put8_ BK398.out) hb); have n12_ := a0_ (below_step bq1_ hb); clear HO362; clear HO365; clear HO368; clear HO371; clear HO380; clear HO383; clear HO394; clear HO397; clear BK350; clear BK385; clear BK398; clear HB; have HO362 := n0_; have HO365 := n1_; have HO368 := n2_; have HO371 := n3_; have HO380 := n4_; have HO383 := n5_; have HO394 := n6_; have HO397 := n7_; have HO401 := n8_; have BK350 := n9_; have BK385 := n10_; have BK398 := n11_; have HB := n12_; clear n0_ n1_ n2_ n3_ n4_ n5_ n6_ n7_ n8_ n9_ n10_ n11_ n12_; (try clear hb); (try clear hb2); (try clear hk); (try clear hi); (try clear ho0)) | ((with_reducible refine gate_callee (f := 21) rfl ?_); refine goesL_ (some 53) rfl rfl Tryz.func21 (by kernel_rfl) rfl #[.slice A3 l3.length c3] rfl argsS_ ?_; (with_reducible refine (laws_toRecordS.calls k _ _ l3 t402 _ ?side1 ?side2 A29.out).mono ?_); (case side1 => exact kC_ HR3.out HB.out); (case side2 => exact HC3.out); rintro e w60 ⟨v403, rfl, ho0, hb⟩; refine ⟨_, rfl, ?_⟩; have n0_ := a0_ (Kd.R_elder' (kR_ HO362.out) (Kd.R_base ho0) hb); have n1_ := a0_ (Kd.R_elder' (kR_ HO365.out) (Kd.R_base ho0) hb); have n2_ := a0_ (Kd.R_elder' (kR_ HO368.out) (Kd.R_base ho0) hb); have n3_ := a0_ (Kd.R_elder' (kR_ HO371.out) (Kd.R_base ho0) hb); have n4_ := a0_ (Kd.R_elder' (kR_ HO380.out) (Kd.R_base ho0) hb); have n5_ := a0_ (Kd.R_elder' (kR_ HO383.out) (Kd.R_base ho0) hb); have n6_ := a0_ (Kd.R_elder' (kR_ HO394.out) (Kd.R_base ho0) hb); have n7_ := a0_ (Kd.R_elder' (kR_ HO397.out) (Kd.R_base ho0) hb); have n8_ := a0_ (Kd.R_elder' (kR_ HO401.out) (Kd.R_base ho0) hb); have n9_ := a0_ (Kd.R_lower (Kd.R_new' (Kd.R_new' (Kd.R_new' (Kd.R_new' (Kd.R_new' (Kd.R_new' (Kd.R_new' (Kd.R_new' (Kd.R_new' ho0 (Kd.R_lt (kR_ HO362.out))) (Kd.R_lt (kR_ HO365.out))) (Kd.R_lt (kR_ HO368.out))) (Kd.R_lt (kR_ HO371.out))) (Kd.R_lt (kR_ HO380.out))) (Kd.R_lt (kR_ HO383.out))) (Kd.R_lt (kR_ HO394.out))) (Kd.R_lt (kR_ HO397.out))) (Kd.R_lt (kR_ HO401.out))) (below_size bq1_)); have n10_ := a0_ (bkB_ BK350 hb); have n11_ := a0_ (bkB_ BK385 hb); have n12_ := a0_ (bkB_ BK398 hb); have n13_ := a0_ (below_step bq1_ hb); clear HO362; clear HO365; clear HO368; clear HO371; clear HO380; clear HO383; clear HO394; clear HO397; clear HO401; clear BK350; clear BK385; clear BK398; clear HB; have HO362 := n0_; have HO365 := n1_; have HO368 := n2_; have HO371 := n3_; have HO380 := n4_; have HO383 := n5_; have HO394 := n6_; have HO397 := n7_; have HO401 := n8_; have HO404 := n9_; have BK350 := n10_; have BK385 := n11_; have BK398 := n12_; have HB := n13_; clear n0_ n1_ n2_ n3_ n4_ n5_ n6_ n7_ n8_ n9_ n10_ n11_ n12_ n13_; (try clear hb); (try clear hb2); (try clear hk); (try clear hi); (try clear ho0); obtain ⟨z61_0, z61_1, z61_2, z61_3, z61_4, z61_5, z61_6, z61_7, q61_0, q61_1, q61_2, q61_3, q61_4, q61_5, q61_6, q61_7⟩ := bk8_ BK398.out; obtain ⟨Ao62, co62, eo62⟩ := Kd.R_slice HO401.out; subst eo62; obtain ⟨Ao63, co63, eo63⟩ := Kd.R_slice HO404.out; subst eo63) | ((with_reducible refine gate_callee (f := 22) rfl ?_); refine goesL_ (some 59) rfl rfl Tryz.func22 (by kernel_rfl) rfl #[.agg #[.int .i64 t386, .bool t387, .bool t388, .int .i64 t389, .string t390, .int .i64 t391, .slice Ao57 t392.length co57, .slice Ao58 t395.length co58], .int .i64 a1, .slice Ao62 t399.length co62, .slice Ao63 t402.length co63] rfl argsS_ ?_; (with_reducible refine (impl_ReplyTo.calls k t386 t387 t388 t389 t390 t391 _ _ t392 _ _ t395 a1 _ _ t399 _ _ t402 t405 t406 t407 t408 t409 t410 t411 t414 t417 _ ?side1 ?side2 ?side3 ?side4 ?side5 ?side6 ?side7 ?side8 A30.out).mono ?_); (case side1 => exact kD_ (Kd.R_reads' HO394.out).2.2); (case side2 => exact (Kd.R_reads' HO394.out).2.1); (case side3 => exact kD_ (Kd.R_reads' HO397.out).2.2); (case side4 => exact (Kd.R_reads' HO397.out).2.1); (case side5 => exact kD_ (Kd.R_reads' HO401.out).2.2); (case side6 => exact (Kd.R_reads' HO401.out).2.1); (case side7 => exact kD_ (Kd.R_reads' HO404.out).2.2); (case side8 => exact (Kd.R_reads' HO404.out).2.1); rintro e w64 ⟨v412, v415, rfl, ho0, ho1, hb⟩; refine ⟨_, rfl, ?_⟩; have n0_ := a0_ (Kd.R_mono (Kd.R_told (Kd.R_told (Kd.R_old (kR_ HO362.out) hb) (Kd.R_base ho0)) (Kd.R_base ho1)) (fun _ h_ => h_.1)); have n1_ := a0_ (Kd.R_mono (Kd.R_told (Kd.R_told (Kd.R_old (kR_ HO365.out) hb) (Kd.R_base ho0)) (Kd.R_base ho1)) (fun _ h_ => h_.1)); have n2_ := a0_ (Kd.R_mono (Kd.R_told (Kd.R_told (Kd.R_old (kR_ HO368.out) hb) (Kd.R_base ho0)) (Kd.R_base ho1)) (fun _ h_ => h_.1)); have n3_ := a0_ (Kd.R_mono (Kd.R_told (Kd.R_told (Kd.R_old (kR_ HO371.out) hb) (Kd.R_base ho0)) (Kd.R_base ho1)) (fun _ h_ => h_.1)); have n4_ := a0_ (Kd.R_mono (Kd.R_told (Kd.R_told (Kd.R_old (kR_ HO380.out) hb) (Kd.R_base ho0)) (Kd.R_base ho1)) (fun _ h_ => h_.1)); have n5_ := a0_ (Kd.R_mono (Kd.R_told (Kd.R_told (Kd.R_old (kR_ HO383.out) hb) (Kd.R_base ho0)) (Kd.R_base ho1)) (fun _ h_ => h_.1)); have n6_ := a0_ (Kd.R_mono (Kd.R_told (Kd.R_told (Kd.R_old (kR_ HO394.out) hb) (Kd.R_base ho0)) (Kd.R_base ho1)) (fun _ h_ => h_.1)); have n7_ := a0_ (Kd.R_mono (Kd.R_told (Kd.R_told (Kd.R_old (kR_ HO397.out) hb) (Kd.R_base ho0)) (Kd.R_base ho1)) (fun _ h_ => h_.1)); have n8_ := a0_ (Kd.R_mono (Kd.R_told (Kd.R_told (Kd.R_old (kR_ HO401.out) hb) (Kd.R_base ho0)) (Kd.R_base ho1)) (fun _ h_ => h_.1)); have n9_ := a0_ (Kd.R_mono (Kd.R_told (Kd.R_told (Kd.R_old (kR_ HO404.out) hb) (Kd.R_base ho0)) (Kd.R_base ho1)) (fun _ h_ => h_.1)); have n10_ := a0_ (Kd.R_lower (Kd.R_new' (Kd.R_new' (Kd.R_new' (Kd.R_new' (Kd.R_new' (Kd.R_new' (Kd.R_new' (Kd.R_new' (Kd.R_new' (Kd.R_new' ho0 (Kd.R_lt (kR_ HO362.out))) (Kd.R_lt (kR_ HO365.out))) (Kd.R_lt (kR_ HO368.out))) (Kd.R_lt (kR_ HO371.out))) (Kd.R_lt (kR_ HO380.out))) (Kd.R_lt (kR_ HO383.out))) (Kd.R_lt (kR_ HO394.out))) (Kd.R_lt (kR_ HO397.out))) (Kd.R_lt (kR_ HO401.out))) (Kd.R_lt (kR_ HO404.out))) (below_size bq1_)); have n11_ := a0_ (Kd.R_lower (Kd.R_new' (Kd.R_new' (Kd.R_new' (Kd.R_new' (Kd.R_new' (Kd.R_new' (Kd.R_new' (Kd.R_new' (Kd.R_new' (Kd.R_new' ho1 (Kd.R_lt (kR_ HO362.out))) (Kd.R_lt (kR_ HO365.out))) (Kd.R_lt (kR_ HO368.out))) (Kd.R_lt (kR_ HO371.out))) (Kd.R_lt (kR_ HO380.out))) (Kd.R_lt (kR_ HO383.out))) (Kd.R_lt (kR_ HO394.out))) (Kd.R_lt (kR_ HO397.out))) (Kd.R_lt (kR_ HO401.out))) (Kd.R_lt (kR_ HO404.out))) (below_size bq1_)); have n12_ := a0_ (bkB_ BK350 hb); have n13_ := a0_ (bkB_ BK385 hb); have n14_ := a0_ (bkB_ BK398 hb); have n15_ := a0_ (below_step bq1_ hb); clear HO362; clear HO365; clear HO368; clear HO371; clear HO380; clear HO383; clear HO394; clear HO397; clear HO401; clear HO404; clear BK350; clear BK385; clear BK398; clear HB; have HO362 := n0_; have HO365 := n1_; have HO368 := n2_; have HO371 := n3_; have HO380 := n4_; have HO383 := n5_; have HO394 := n6_; have HO397 := n7_; have HO401 := n8_; have HO404 := n9_; have HO413 := n10_; have HO416 := n11_; have BK350 := n12_; have BK385 := n13_; have BK398 := n14_; have HB := n15_; clear n0_ n1_ n2_ n3_ n4_ n5_ n6_ n7_ n8_ n9_ n10_ n11_ n12_ n13_ n14_ n15_; (try clear hb); (try clear hb2); (try clear hk); (try clear hi); (try clear ho0); (try clear ho1)) | ((with_reducible refine gate_dst (N := 15) rfl ?_); refine boxS_ 15 #[.int .i64 0, .bool false, .bool false, .int .i64 0, .string (⟨#[]⟩ : ByteArray), .int .i64 0, .slice none 0 0, .slice none 0 0] 24 (fun gb418 hg w65 hbox hb => ?_); have n0_ := a0_ (Kd.R_below (kR_ HO362.out) hb); have n1_ := a0_ (Kd.R_below (kR_ HO365.out) hb); have n2_ := a0_ (Kd.R_below (kR_ HO368.out) hb); have n3_ := a0_ (Kd.R_below (kR_ HO371.out) hb); have n4_ := a0_ (Kd.R_below (kR_ HO380.out) hb); have n5_ := a0_ (Kd.R_below (kR_ HO383.out) hb); have n6_ := a0_ (Kd.R_below (kR_ HO394.out) hb); have n7_ := a0_ (Kd.R_below (kR_ HO397.out) hb); have n8_ := a0_ (Kd.R_below (kR_ HO401.out) hb); have n9_ := a0_ (Kd.R_below (kR_ HO404.out) hb); have n10_ := a0_ (Kd.R_below (kR_ HO413.out) hb); have n11_ := a0_ (Kd.R_below (kR_ HO416.out) hb); have n12_ := a0_ (bkB_ BK350 hb); have n13_ := a0_ (bkB_ BK385 hb); have n14_ := a0_ (bkB_ BK398 hb); have n15_ := a0_ (below_step bq1_ hb); have n16_ := a0_ (hbox); have n17_ := a0_ (gw_ hg (below_size bq1_) : w.heap.size ≤ gb418); have n18_ := n17_; have n19_ := a0_ ((by rw [hg]; exact Nat.ne_of_lt (blk_lt (g := gb350) (o := .cells #[.int .i64 a0_0, .bool a0_1, .bool a0_2, .int .i64 a0_3, .string a0_4, .int .i64 a0_5, .slice A0_6 l0_6.length c0_6, .slice A0_7 l0_7.length c0_7] 32 (0, 0)) (kB_ BK350.out)) : gb350 ≠ gb418)); have n20_ := a0_ ((by rw [hg]; exact Nat.ne_of_gt (blk_lt (g := gb350) (o := .cells #[.int .i64 a0_0, .bool a0_1, .bool a0_2, .int .i64 a0_3, .string a0_4, .int .i64 a0_5, .slice A0_6 l0_6.length c0_6, .slice A0_7 l0_7.length c0_7] 32 (0, 0)) (kB_ BK350.out)) : gb418 ≠ gb350)); have n21_ := a0_ ((by rw [hg]; exact Nat.ne_of_lt (blk_lt (g := gb385) (o := .cells #[.int .i64 t372, .bool t373, .bool t374, .int .i64 t375, .string t376, .int .i64 t377, .slice Ao49 t378.length co49, .slice Ao50 t381.length co50] 24 (0, 0)) (kB_ BK385.out)) : gb385 ≠ gb418)); have n22_ := a0_ ((by rw [hg]; exact Nat.ne_of_gt (blk_lt (g := gb385) (o := .cells #[.int .i64 t372, .bool t373, .bool t374, .int .i64 t375, .string t376, .int .i64 t377, .slice Ao49 t378.length co49, .slice Ao50 t381.length co50] 24 (0, 0)) (kB_ BK385.out)) : gb418 ≠ gb385)); have n23_ := a0_ ((by rw [hg]; exact Nat.ne_of_lt (blk_lt (g := gb398) (o := .cells #[.int .i64 t386, .bool t387, .bool t388, .int .i64 t389, .string t390, .int .i64 t391, .slice Ao57 t392.length co57, .slice Ao58 t395.length co58] 24 (0, 0)) (kB_ BK398.out)) : gb398 ≠ gb418)); have n24_ := a0_ ((by rw [hg]; exact Nat.ne_of_gt (blk_lt (g := gb398) (o := .cells #[.int .i64 t386, .bool t387, .bool t388, .int .i64 t389, .string t390, .int .i64 t391, .slice Ao57 t392.length co57, .slice Ao58 t395.length co58] 24 (0, 0)) (kB_ BK398.out)) : gb418 ≠ gb398)); clear HO362; clear HO365; clear HO368; clear HO371; clear HO380; clear HO383; clear HO394; clear HO397; clear HO401; clear HO404; clear HO413; clear HO416; clear BK350; clear BK385; clear BK398; clear HB; have HO362 := n0_; have HO365 := n1_; have HO368 := n2_; have HO371 := n3_; have HO380 := n4_; have HO383 := n5_; have HO394 := n6_; have HO397 := n7_; have HO401 := n8_; have HO404 := n9_; have HO413 := n10_; have HO416 := n11_; have BK350 := n12_; have BK385 := n13_; have BK398 := n14_; have HB := n15_; have BK418 := n16_; have GW418 := n17_; have GE418 := n18_; have NB350_418 := n19_; have NB418_350 := n20_; have NB385_418 := n21_; have NB418_385 := n22_; have NB398_418 := n23_; have NB418_398 := n24_; clear n0_ n1_ n2_ n3_ n4_ n5_ n6_ n7_ n8_ n9_ n10_ n11_ n12_ n13_ n14_ n15_ n16_ n17_ n18_ n19_ n20_ n21_ n22_ n23_ n24_; clear hb hbox hg; have hnb66 := NB418_350.out; have hnc66 := NB350_418.out; have hnb67 := NB418_385.out; have hnc67 := NB385_418.out; have hnb68 := NB418_398.out; have hnc68 := NB398_418.out; obtain ⟨z69_0, z69_1, z69_2, z69_3, z69_4, z69_5, z69_6, z69_7, q69_0, q69_1, q69_2, q69_3, q69_4, q69_5, q69_6, q69_7⟩ := bk8_ BK418.out; obtain ⟨Ao70, co70, eo70⟩ := Kd.R_slice HO413.out; subst eo70; obtain ⟨Ao71, co71, eo71⟩ := Kd.R_slice HO416.out; subst eo71))
 (try simp only [Act.put, List.setIfInBounds_toArray, List.set_cons_zero, List.set_cons_succ])
 go_cut [70] (fun v70 wc => ∃ (kq : Nat) (x70_30 : Bool), v70 = .bool x70_30 ∧ Aside0 (laws_FnExactReplyTo.j0 kq a1 l2 l3 t384 t399 t402 t417 x70_30 a0_0 a0_1 a0_2 a0_3 a0_4 a0_5 l0_6 l0_7 t372 t373 t374 t375 t376 t377 t378 t381 t386 t387 t388 t389 t390 t391 t392 t395 t405 t406 t407 t408 t409 t410 t411 t414 = some r) ∧ Aside0 (kq ≤ k) ∧ Aside0 (Kd.R k72 72 wc w.heap.size (fun k_ => some k_ ≠ ((.slice Ao63 t402.length co63) : Value).ownBlock ∧ some k_ ≠ ((.slice Ao49 t378.length co49) : Value).ownBlock ∧ some k_ ≠ ((.slice Ao50 t381.length co50) : Value).ownBlock ∧ some k_ ≠ ((.slice Ao57 t392.length co57) : Value).ownBlock ∧ some k_ ≠ ((.slice Ao58 t395.length co58) : Value).ownBlock ∧ some k_ ≠ ((.slice Ao70 t411.length co70) : Value).ownBlock ∧ some k_ ≠ ((.slice Ao71 t414.length co71) : Value).ownBlock) (.slice Ao62 t399.length co62) t399) ∧ Aside0 (Kd.R k72 72 wc w.heap.size (fun k_ => some k_ ≠ ((.slice Ao62 t399.length co62) : Value).ownBlock ∧ some k_ ≠ ((.slice Ao49 t378.length co49) : Value).ownBlock ∧ some k_ ≠ ((.slice Ao50 t381.length co50) : Value).ownBlock ∧ some k_ ≠ ((.slice Ao57 t392.length co57) : Value).ownBlock ∧ some k_ ≠ ((.slice Ao58 t395.length co58) : Value).ownBlock ∧ some k_ ≠ ((.slice Ao70 t411.length co70) : Value).ownBlock ∧ some k_ ≠ ((.slice Ao71 t414.length co71) : Value).ownBlock) (.slice Ao63 t402.length co63) t402) ∧ Aside0 (Kd.R k72 72 wc w.heap.size (fun k_ => some k_ ≠ ((.slice Ao62 t399.length co62) : Value).ownBlock ∧ some k_ ≠ ((.slice Ao63 t402.length co63) : Value).ownBlock ∧ some k_ ≠ ((.slice Ao50 t381.length co50) : Value).ownBlock ∧ some k_ ≠ ((.slice Ao57 t392.length co57) : Value).ownBlock ∧ some k_ ≠ ((.slice Ao58 t395.length co58) : Value).ownBlock ∧ some k_ ≠ ((.slice Ao70 t411.length co70) : Value).ownBlock ∧ some k_ ≠ ((.slice Ao71 t414.length co71) : Value).ownBlock) (.slice Ao49 t378.length co49) t378) ∧ Aside0 (Kd.R k72 72 wc w.heap.size (fun k_ => some k_ ≠ ((.slice Ao62 t399.length co62) : Value).ownBlock ∧ some k_ ≠ ((.slice Ao63 t402.length co63) : Value).ownBlock ∧ some k_ ≠ ((.slice Ao49 t378.length co49) : Value).ownBlock ∧ some k_ ≠ ((.slice Ao57 t392.length co57) : Value).ownBlock ∧ some k_ ≠ ((.slice Ao58 t395.length co58) : Value).ownBlock ∧ some k_ ≠ ((.slice Ao70 t411.length co70) : Value).ownBlock ∧ some k_ ≠ ((.slice Ao71 t414.length co71) : Value).ownBlock) (.slice Ao50 t381.length co50) t381) ∧ Aside0 (Kd.R k72 72 wc w.heap.size (fun k_ => some k_ ≠ ((.slice Ao62 t399.length co62) : Value).ownBlock ∧ some k_ ≠ ((.slice Ao63 t402.length co63) : Value).ownBlock ∧ some k_ ≠ ((.slice Ao49 t378.length co49) : Value).ownBlock ∧ some k_ ≠ ((.slice Ao50 t381.length co50) : Value).ownBlock ∧ some k_ ≠ ((.slice Ao58 t395.length co58) : Value).ownBlock ∧ some k_ ≠ ((.slice Ao70 t411.length co70) : Value).ownBlock ∧ some k_ ≠ ((.slice Ao71 t414.length co71) : Value).ownBlock) (.slice Ao57 t392.length co57) t392) ∧ Aside0 (Kd.R k72 72 wc w.heap.size (fun k_ => some k_ ≠ ((.slice Ao62 t399.length co62) : Value).ownBlock ∧ some k_ ≠ ((.slice Ao63 t402.length co63) : Value).ownBlock ∧ some k_ ≠ ((.slice Ao49 t378.length co49) : Value).ownBlock ∧ some k_ ≠ ((.slice Ao50 t381.length co50) : Value).ownBlock ∧ some k_ ≠ ((.slice Ao57 t392.length co57) : Value).ownBlock ∧ some k_ ≠ ((.slice Ao70 t411.length co70) : Value).ownBlock ∧ some k_ ≠ ((.slice Ao71 t414.length co71) : Value).ownBlock) (.slice Ao58 t395.length co58) t395) ∧ Aside0 (Kd.R k72 72 wc w.heap.size (fun k_ => some k_ ≠ ((.slice Ao62 t399.length co62) : Value).ownBlock ∧ some k_ ≠ ((.slice Ao63 t402.length co63) : Value).ownBlock ∧ some k_ ≠ ((.slice Ao49 t378.length co49) : Value).ownBlock ∧ some k_ ≠ ((.slice Ao50 t381.length co50) : Value).ownBlock ∧ some k_ ≠ ((.slice Ao57 t392.length co57) : Value).ownBlock ∧ some k_ ≠ ((.slice Ao58 t395.length co58) : Value).ownBlock ∧ some k_ ≠ ((.slice Ao71 t414.length co71) : Value).ownBlock) (.slice Ao70 t411.length co70) t411) ∧ Aside0 (Kd.R k72 72 wc w.heap.size (fun k_ => some k_ ≠ ((.slice Ao62 t399.length co62) : Value).ownBlock ∧ some k_ ≠ ((.slice Ao63 t402.length co63) : Value).ownBlock ∧ some k_ ≠ ((.slice Ao49 t378.length co49) : Value).ownBlock ∧ some k_ ≠ ((.slice Ao50 t381.length co50) : Value).ownBlock ∧ some k_ ≠ ((.slice Ao57 t392.length co57) : Value).ownBlock ∧ some k_ ≠ ((.slice Ao58 t395.length co58) : Value).ownBlock ∧ some k_ ≠ ((.slice Ao70 t411.length co70) : Value).ownBlock) (.slice Ao71 t414.length co71) t414) ∧ Aside0 (wc.heap[gb350]? = some (.cells #[.int .i64 a0_0, .bool a0_1, .bool a0_2, .int .i64 a0_3, .string a0_4, .int .i64 a0_5, (.slice A0_6 l0_6.length c0_6), (.slice A0_7 l0_7.length c0_7)] 32 (0, 0))) ∧ Aside0 (wc.heap[gb385]? = some (.cells #[.int .i64 t372, .bool t373, .bool t374, .int .i64 t375, .string t376, .int .i64 t377, (.slice Ao49 t378.length co49), (.slice Ao50 t381.length co50)] 24 (0, 0))) ∧ Aside0 (wc.heap[gb398]? = some (.cells #[.int .i64 t386, .bool t387, .bool t388, .int .i64 t389, .string t390, .int .i64 t391, (.slice Ao57 t392.length co57), (.slice Ao58 t395.length co58)] 24 (0, 0))) ∧ Aside0 (wc.heap[gb418]? = some (.cells #[.int .i64 t405, .bool t406, .bool t407, .int .i64 t408, .string t409, .int .i64 t410, (.slice Ao70 t411.length co70), (.slice Ao71 t414.length co71)] 24 (0, 0))) ∧ Aside0 (Below w.heap.size w wc))
 case first =>
  have H := HC31.out
  clear HC31
  obtain ⟨t419, A720, H⟩ := Option.bind_eq_some_iff.mp H
  have A72 := a0_ A720
  clear A720
  by_cases c73 : t419 = true
  case pos =>
   subst c73
   rw [if_pos rfl] at H
   have H' := a0_ H
   clear H
   have hnb74 := NB418_350.out
   have hnc74 := NB350_418.out
   have hnb75 := NB418_385.out
   have hnc75 := NB385_418.out
   have hnb76 := NB418_398.out
   have hnc76 := NB398_418.out
   have z77_0 : w65.cell? ⟨gb418, 0, none⟩ = some (.int .i64 0) := (blk_cell BK418.out 0).trans rfl
   have z77_1 : w65.cell? ⟨gb418, 1, none⟩ = some (.bool false) := (blk_cell BK418.out 1).trans rfl
   have z77_2 : w65.cell? ⟨gb418, 2, none⟩ = some (.bool false) := (blk_cell BK418.out 2).trans rfl
   have z77_3 : w65.cell? ⟨gb418, 3, none⟩ = some (.int .i64 0) := (blk_cell BK418.out 3).trans rfl
   have z77_4 : w65.cell? ⟨gb418, 4, none⟩ = some (.string (⟨#[]⟩ : ByteArray)) := (blk_cell BK418.out 4).trans rfl
   have z77_5 : w65.cell? ⟨gb418, 5, none⟩ = some (.int .i64 0) := (blk_cell BK418.out 5).trans rfl
   have z77_6 : w65.cell? ⟨gb418, 6, none⟩ = some (.slice none 0 0) := (blk_cell BK418.out 6).trans rfl
   have z77_7 : w65.cell? ⟨gb418, 7, none⟩ = some (.slice none 0 0) := (blk_cell BK418.out 7).trans rfl
   have q77_0 := blk_frozen BK418.out 0
   have q77_1 := blk_frozen BK418.out 1
   have q77_2 := blk_frozen BK418.out 2
   have q77_3 := blk_frozen BK418.out 3
   have q77_4 := blk_frozen BK418.out 4
   have q77_5 := blk_frozen BK418.out 5
   have q77_6 := blk_frozen BK418.out 6
   have q77_7 := blk_frozen BK418.out 7
   have hnb78 := NB385_350.out
   have hnc78 := NB350_385.out
   have hnb79 := NB385_398.out
   have hnc79 := NB398_385.out
   have z80_0 : w65.cell? ⟨gb385, 0, none⟩ = some (.int .i64 t372) := (blk_cell BK385.out 0).trans rfl
   have z80_1 : w65.cell? ⟨gb385, 1, none⟩ = some (.bool t373) := (blk_cell BK385.out 1).trans rfl
   have z80_2 : w65.cell? ⟨gb385, 2, none⟩ = some (.bool t374) := (blk_cell BK385.out 2).trans rfl
   have z80_3 : w65.cell? ⟨gb385, 3, none⟩ = some (.int .i64 t375) := (blk_cell BK385.out 3).trans rfl
   have z80_4 : w65.cell? ⟨gb385, 4, none⟩ = some (.string t376) := (blk_cell BK385.out 4).trans rfl
   have z80_5 : w65.cell? ⟨gb385, 5, none⟩ = some (.int .i64 t377) := (blk_cell BK385.out 5).trans rfl
   have z80_6 : w65.cell? ⟨gb385, 6, none⟩ = some (.slice Ao49 t378.length co49) := (blk_cell BK385.out 6).trans rfl
   have z80_7 : w65.cell? ⟨gb385, 7, none⟩ = some (.slice Ao50 t381.length co50) := (blk_cell BK385.out 7).trans rfl
   have q80_0 := blk_frozen BK385.out 0
   have q80_1 := blk_frozen BK385.out 1
   have q80_2 := blk_frozen BK385.out 2
   have q80_3 := blk_frozen BK385.out 3
   have q80_4 := blk_frozen BK385.out 4
   have q80_5 := blk_frozen BK385.out 5
   have q80_6 := blk_frozen BK385.out 6
   have q80_7 := blk_frozen BK385.out 7
   go_wp2_with (first | ((with_reducible refine gate_callee (f := 14) rfl ?_); refine goesL_ (some 64) rfl rfl Tryz.func14 (by kernel_rfl) rfl #[.agg #[.int .i64 t405, .bool t406, .bool t407, .int .i64 t408, .string t409, .int .i64 t410, .slice Ao70 t411.length co70, .slice Ao71 t414.length co71], .agg #[.int .i64 t372, .bool t373, .bool t374, .int .i64 t375, .string t376, .int .i64 t377, .slice Ao49 t378.length co49, .slice Ao50 t381.length co50]] rfl argsS_ ?_; (with_reducible refine (laws_eqMessage.calls k t405 t406 t407 t408 t409 t410 _ _ t411 _ _ t414 t372 t373 t374 t375 t376 t377 _ _ t378 _ _ t381 true _ ?side1 ?side2 ?side3 ?side4 ?side5 ?side6 ?side7 ?side8 A72.out).mono ?_); (case side1 => refine (Kd.R_reads' (e := 72) (base := w.heap.size) (ok := fun k_ => ((((((((((nw_ k_ Ao71 t414.length co71 ∧ nw_ k_ Ao41 t360.length co41) ∧ nw_ k_ Ao42 t363.length co42) ∧ nw_ k_ Ao43 t366.length co43) ∧ nw_ k_ Ao44 t369.length co44) ∧ nw_ k_ Ao49 t378.length co49) ∧ nw_ k_ Ao50 t381.length co50) ∧ nw_ k_ Ao57 t392.length co57) ∧ nw_ k_ Ao58 t395.length co58) ∧ nw_ k_ Ao62 t399.length co62) ∧ nw_ k_ Ao63 t402.length co63)) (n := t411.length) (c := co70) ?_).2.2; exact (kR_ (farR8_ HO413.out BK418.out))); (case side2 => exact (Kd.R_reads' HO413.out).2.1); (case side3 => refine (Kd.R_reads' (e := 72) (base := w.heap.size) (ok := fun k_ => ((((((((((nw_ k_ Ao70 t411.length co70 ∧ nw_ k_ Ao41 t360.length co41) ∧ nw_ k_ Ao42 t363.length co42) ∧ nw_ k_ Ao43 t366.length co43) ∧ nw_ k_ Ao44 t369.length co44) ∧ nw_ k_ Ao49 t378.length co49) ∧ nw_ k_ Ao50 t381.length co50) ∧ nw_ k_ Ao57 t392.length co57) ∧ nw_ k_ Ao58 t395.length co58) ∧ nw_ k_ Ao62 t399.length co62) ∧ nw_ k_ Ao63 t402.length co63)) (n := t414.length) (c := co71) ?_).2.2; exact (kR_ (farR8_ HO416.out BK418.out))); (case side4 => exact (Kd.R_reads' HO416.out).2.1); (case side5 => refine (Kd.R_reads' (e := 72) (base := w.heap.size) (ok := fun k_ => ((((((((((nw_ k_ Ao50 t381.length co50 ∧ nw_ k_ Ao41 t360.length co41) ∧ nw_ k_ Ao42 t363.length co42) ∧ nw_ k_ Ao43 t366.length co43) ∧ nw_ k_ Ao44 t369.length co44) ∧ nw_ k_ Ao57 t392.length co57) ∧ nw_ k_ Ao58 t395.length co58) ∧ nw_ k_ Ao62 t399.length co62) ∧ nw_ k_ Ao63 t402.length co63) ∧ nw_ k_ Ao70 t411.length co70) ∧ nw_ k_ Ao71 t414.length co71)) (n := t378.length) (c := co49) ?_).2.2; exact (kR_ (farR8_ HO380.out BK418.out))); (case side6 => exact (Kd.R_reads' HO380.out).2.1); (case side7 => refine (Kd.R_reads' (e := 72) (base := w.heap.size) (ok := fun k_ => ((((((((((nw_ k_ Ao49 t378.length co49 ∧ nw_ k_ Ao41 t360.length co41) ∧ nw_ k_ Ao42 t363.length co42) ∧ nw_ k_ Ao43 t366.length co43) ∧ nw_ k_ Ao44 t369.length co44) ∧ nw_ k_ Ao57 t392.length co57) ∧ nw_ k_ Ao58 t395.length co58) ∧ nw_ k_ Ao62 t399.length co62) ∧ nw_ k_ Ao63 t402.length co63) ∧ nw_ k_ Ao70 t411.length co70) ∧ nw_ k_ Ao71 t414.length co71)) (n := t381.length) (c := co50) ?_).2.2; exact (kR_ (farR8_ HO383.out BK418.out))); (case side8 => exact (Kd.R_reads' HO383.out).2.1); rintro e w81 ⟨rfl, hb⟩; refine ⟨_, rfl, ?_⟩; replace HO362 := a0_ (Kd.R_below (kR_ (farR8_ HO362.out BK418.out)) hb); replace HO365 := a0_ (Kd.R_below (kR_ (farR8_ HO365.out BK418.out)) hb); replace HO368 := a0_ (Kd.R_below (kR_ (farR8_ HO368.out BK418.out)) hb); replace HO371 := a0_ (Kd.R_below (kR_ (farR8_ HO371.out BK418.out)) hb); replace HO380 := a0_ (Kd.R_below (kR_ (farR8_ HO380.out BK418.out)) hb); replace HO383 := a0_ (Kd.R_below (kR_ (farR8_ HO383.out BK418.out)) hb); replace HO394 := a0_ (Kd.R_below (kR_ (farR8_ HO394.out BK418.out)) hb); replace HO397 := a0_ (Kd.R_below (kR_ (farR8_ HO397.out BK418.out)) hb); replace HO401 := a0_ (Kd.R_below (kR_ (farR8_ HO401.out BK418.out)) hb); replace HO404 := a0_ (Kd.R_below (kR_ (farR8_ HO404.out BK418.out)) hb); replace HO413 := a0_ (Kd.R_below (kR_ (farR8_ HO413.out BK418.out)) hb); replace HO416 := a0_ (Kd.R_below (kR_ (farR8_ HO416.out BK418.out)) hb); replace BK350 := a0_ (blk_below (g := gb350) (o := .cells #[.int .i64 a0_0, .bool a0_1, .bool a0_2, .int .i64 a0_3, .string a0_4, .int .i64 a0_5, .slice A0_6 l0_6.length c0_6, .slice A0_7 l0_7.length c0_7] 32 (0, 0)) (bfar8_ NB350_418.out BK350.out) hb); replace BK385 := a0_ (blk_below (g := gb385) (o := .cells #[.int .i64 t372, .bool t373, .bool t374, .int .i64 t375, .string t376, .int .i64 t377, .slice Ao49 t378.length co49, .slice Ao50 t381.length co50] 24 (0, 0)) (bfar8_ NB385_418.out BK385.out) hb); replace BK398 := a0_ (blk_below (g := gb398) (o := .cells #[.int .i64 t386, .bool t387, .bool t388, .int .i64 t389, .string t390, .int .i64 t391, .slice Ao57 t392.length co57, .slice Ao58 t395.length co58] 24 (0, 0)) (bfar8_ NB398_418.out BK398.out) hb); replace BK418 := a0_ (blk_below (g := gb418) (o := .cells #[.int .i64 t405, .bool t406, .bool t407, .int .i64 t408, .string t409, .int .i64 t410, .slice Ao70 t411.length co70, .slice Ao71 t414.length co71] 24 (0, 0)) (put8_ BK418.out) hb); replace HB := a0_ (below_step bq1_ hb); (try clear hb); (try clear hb2); (try clear hk); (try clear hi)))
   go_meet
   case rel => exact ⟨_, ((t417 != t384)), rs_, H', ⟨by first | omega | exact Nat.le_refl _⟩, ⟨by (with_reducible repeat (first | apply Kd.R_alloc | apply Kd.R_drewN | apply Kd.R_drew)); exact Kd.R_mono HO401.out (fun _ hk => ⟨hk.1.1.2, ⟨hk.1.1.1.1.1.1.2, ⟨hk.1.1.1.1.1.2, ⟨hk.1.1.1.1.2, ⟨hk.1.1.1.2, ⟨hk.1.2, hk.2⟩⟩⟩⟩⟩⟩)⟩, ⟨by (with_reducible repeat (first | apply Kd.R_alloc | apply Kd.R_drewN | apply Kd.R_drew)); exact Kd.R_mono HO404.out (fun _ hk => ⟨hk.1.1.2, ⟨hk.1.1.1.1.1.1.2, ⟨hk.1.1.1.1.1.2, ⟨hk.1.1.1.1.2, ⟨hk.1.1.1.2, ⟨hk.1.2, hk.2⟩⟩⟩⟩⟩⟩)⟩, ⟨by (with_reducible repeat (first | apply Kd.R_alloc | apply Kd.R_drewN | apply Kd.R_drew)); exact Kd.R_mono HO380.out (fun _ hk => ⟨hk.1.1.1.2, ⟨hk.1.1.2, ⟨hk.1.1.1.1.1.1.1.1.1.1, ⟨hk.1.1.1.1.1.2, ⟨hk.1.1.1.1.2, ⟨hk.1.2, hk.2⟩⟩⟩⟩⟩⟩)⟩, ⟨by (with_reducible repeat (first | apply Kd.R_alloc | apply Kd.R_drewN | apply Kd.R_drew)); exact Kd.R_mono HO383.out (fun _ hk => ⟨hk.1.1.1.2, ⟨hk.1.1.2, ⟨hk.1.1.1.1.1.1.1.1.1.1, ⟨hk.1.1.1.1.1.2, ⟨hk.1.1.1.1.2, ⟨hk.1.2, hk.2⟩⟩⟩⟩⟩⟩)⟩, ⟨by (with_reducible repeat (first | apply Kd.R_alloc | apply Kd.R_drewN | apply Kd.R_drew)); exact Kd.R_mono HO394.out (fun _ hk => ⟨hk.1.1.1.2, ⟨hk.1.1.2, ⟨hk.1.1.1.1.1.2, ⟨hk.1.1.1.1.2, ⟨hk.1.1.1.1.1.1.1.1.1.1, ⟨hk.1.2, hk.2⟩⟩⟩⟩⟩⟩)⟩, ⟨by (with_reducible repeat (first | apply Kd.R_alloc | apply Kd.R_drewN | apply Kd.R_drew)); exact Kd.R_mono HO397.out (fun _ hk => ⟨hk.1.1.1.2, ⟨hk.1.1.2, ⟨hk.1.1.1.1.1.2, ⟨hk.1.1.1.1.2, ⟨hk.1.1.1.1.1.1.1.1.1.1, ⟨hk.1.2, hk.2⟩⟩⟩⟩⟩⟩)⟩, ⟨by (with_reducible repeat (first | apply Kd.R_alloc | apply Kd.R_drewN | apply Kd.R_drew)); exact Kd.R_mono HO413.out (fun _ hk => ⟨hk.1.2, ⟨hk.2, ⟨hk.1.1.1.1.1.2, ⟨hk.1.1.1.1.2, ⟨hk.1.1.1.2, ⟨hk.1.1.2, hk.1.1.1.1.1.1.1.1.1.1⟩⟩⟩⟩⟩⟩)⟩, ⟨by (with_reducible repeat (first | apply Kd.R_alloc | apply Kd.R_drewN | apply Kd.R_drew)); exact Kd.R_mono HO416.out (fun _ hk => ⟨hk.1.2, ⟨hk.2, ⟨hk.1.1.1.1.1.2, ⟨hk.1.1.1.1.2, ⟨hk.1.1.1.2, ⟨hk.1.1.2, hk.1.1.1.1.1.1.1.1.1.1⟩⟩⟩⟩⟩⟩)⟩, ⟨by (with_reducible repeat (first | refine blk_drewN ?_ _ | refine blk_drew ?_ | refine blk_alloc ?_ _)); exact BK350.out⟩, ⟨by (with_reducible repeat (first | refine blk_drewN ?_ _ | refine blk_drew ?_ | refine blk_alloc ?_ _)); exact BK385.out⟩, ⟨by (with_reducible repeat (first | refine blk_drewN ?_ _ | refine blk_drew ?_ | refine blk_alloc ?_ _)); exact BK398.out⟩, ⟨by (with_reducible repeat (first | refine blk_drewN ?_ _ | refine blk_drew ?_ | refine blk_alloc ?_ _)); exact BK418.out⟩, ⟨bq1_⟩⟩
  replace c73 := Bool.eq_false_iff.mpr c73
  subst c73
  rw [if_neg (show ¬ (false = true) by decide)] at H
  have H' := a0_ H
  clear H
  have hnb82 := NB418_350.out
  have hnc82 := NB350_418.out
  have hnb83 := NB418_385.out
  have hnc83 := NB385_418.out
  have hnb84 := NB418_398.out
  have hnc84 := NB398_418.out
  have z85_0 : w65.cell? ⟨gb418, 0, none⟩ = some (.int .i64 0) := (blk_cell BK418.out 0).trans rfl
  have z85_1 : w65.cell? ⟨gb418, 1, none⟩ = some (.bool false) := (blk_cell BK418.out 1).trans rfl
  have z85_2 : w65.cell? ⟨gb418, 2, none⟩ = some (.bool false) := (blk_cell BK418.out 2).trans rfl
  have z85_3 : w65.cell? ⟨gb418, 3, none⟩ = some (.int .i64 0) := (blk_cell BK418.out 3).trans rfl
  have z85_4 : w65.cell? ⟨gb418, 4, none⟩ = some (.string (⟨#[]⟩ : ByteArray)) := (blk_cell BK418.out 4).trans rfl
  have z85_5 : w65.cell? ⟨gb418, 5, none⟩ = some (.int .i64 0) := (blk_cell BK418.out 5).trans rfl
  have z85_6 : w65.cell? ⟨gb418, 6, none⟩ = some (.slice none 0 0) := (blk_cell BK418.out 6).trans rfl
  have z85_7 : w65.cell? ⟨gb418, 7, none⟩ = some (.slice none 0 0) := (blk_cell BK418.out 7).trans rfl
  have q85_0 := blk_frozen BK418.out 0
  have q85_1 := blk_frozen BK418.out 1
  have q85_2 := blk_frozen BK418.out 2
  have q85_3 := blk_frozen BK418.out 3
  have q85_4 := blk_frozen BK418.out 4
  have q85_5 := blk_frozen BK418.out 5
  have q85_6 := blk_frozen BK418.out 6
  have q85_7 := blk_frozen BK418.out 7
  have hnb86 := NB385_350.out
  have hnc86 := NB350_385.out
  have hnb87 := NB385_398.out
  have hnc87 := NB398_385.out
  have z88_0 : w65.cell? ⟨gb385, 0, none⟩ = some (.int .i64 t372) := (blk_cell BK385.out 0).trans rfl
  have z88_1 : w65.cell? ⟨gb385, 1, none⟩ = some (.bool t373) := (blk_cell BK385.out 1).trans rfl
  have z88_2 : w65.cell? ⟨gb385, 2, none⟩ = some (.bool t374) := (blk_cell BK385.out 2).trans rfl
  have z88_3 : w65.cell? ⟨gb385, 3, none⟩ = some (.int .i64 t375) := (blk_cell BK385.out 3).trans rfl
  have z88_4 : w65.cell? ⟨gb385, 4, none⟩ = some (.string t376) := (blk_cell BK385.out 4).trans rfl
  have z88_5 : w65.cell? ⟨gb385, 5, none⟩ = some (.int .i64 t377) := (blk_cell BK385.out 5).trans rfl
  have z88_6 : w65.cell? ⟨gb385, 6, none⟩ = some (.slice Ao49 t378.length co49) := (blk_cell BK385.out 6).trans rfl
  have z88_7 : w65.cell? ⟨gb385, 7, none⟩ = some (.slice Ao50 t381.length co50) := (blk_cell BK385.out 7).trans rfl
  have q88_0 := blk_frozen BK385.out 0
  have q88_1 := blk_frozen BK385.out 1
  have q88_2 := blk_frozen BK385.out 2
  have q88_3 := blk_frozen BK385.out 3
  have q88_4 := blk_frozen BK385.out 4
  have q88_5 := blk_frozen BK385.out 5
  have q88_6 := blk_frozen BK385.out 6
  have q88_7 := blk_frozen BK385.out 7
  go_wp2_with (first | ((with_reducible refine gate_callee (f := 14) rfl ?_); refine goesL_ (some 64) rfl rfl Tryz.func14 (by kernel_rfl) rfl #[.agg #[.int .i64 t405, .bool t406, .bool t407, .int .i64 t408, .string t409, .int .i64 t410, .slice Ao70 t411.length co70, .slice Ao71 t414.length co71], .agg #[.int .i64 t372, .bool t373, .bool t374, .int .i64 t375, .string t376, .int .i64 t377, .slice Ao49 t378.length co49, .slice Ao50 t381.length co50]] rfl argsS_ ?_; (with_reducible refine (laws_eqMessage.calls k t405 t406 t407 t408 t409 t410 _ _ t411 _ _ t414 t372 t373 t374 t375 t376 t377 _ _ t378 _ _ t381 false _ ?side1 ?side2 ?side3 ?side4 ?side5 ?side6 ?side7 ?side8 A72.out).mono ?_); (case side1 => refine (Kd.R_reads' (e := 72) (base := w.heap.size) (ok := fun k_ => ((((((((((nw_ k_ Ao71 t414.length co71 ∧ nw_ k_ Ao41 t360.length co41) ∧ nw_ k_ Ao42 t363.length co42) ∧ nw_ k_ Ao43 t366.length co43) ∧ nw_ k_ Ao44 t369.length co44) ∧ nw_ k_ Ao49 t378.length co49) ∧ nw_ k_ Ao50 t381.length co50) ∧ nw_ k_ Ao57 t392.length co57) ∧ nw_ k_ Ao58 t395.length co58) ∧ nw_ k_ Ao62 t399.length co62) ∧ nw_ k_ Ao63 t402.length co63)) (n := t411.length) (c := co70) ?_).2.2; exact (kR_ (farR8_ HO413.out BK418.out))); (case side2 => exact (Kd.R_reads' HO413.out).2.1); (case side3 => refine (Kd.R_reads' (e := 72) (base := w.heap.size) (ok := fun k_ => ((((((((((nw_ k_ Ao70 t411.length co70 ∧ nw_ k_ Ao41 t360.length co41) ∧ nw_ k_ Ao42 t363.length co42) ∧ nw_ k_ Ao43 t366.length co43) ∧ nw_ k_ Ao44 t369.length co44) ∧ nw_ k_ Ao49 t378.length co49) ∧ nw_ k_ Ao50 t381.length co50) ∧ nw_ k_ Ao57 t392.length co57) ∧ nw_ k_ Ao58 t395.length co58) ∧ nw_ k_ Ao62 t399.length co62) ∧ nw_ k_ Ao63 t402.length co63)) (n := t414.length) (c := co71) ?_).2.2; exact (kR_ (farR8_ HO416.out BK418.out))); (case side4 => exact (Kd.R_reads' HO416.out).2.1); (case side5 => refine (Kd.R_reads' (e := 72) (base := w.heap.size) (ok := fun k_ => ((((((((((nw_ k_ Ao50 t381.length co50 ∧ nw_ k_ Ao41 t360.length co41) ∧ nw_ k_ Ao42 t363.length co42) ∧ nw_ k_ Ao43 t366.length co43) ∧ nw_ k_ Ao44 t369.length co44) ∧ nw_ k_ Ao57 t392.length co57) ∧ nw_ k_ Ao58 t395.length co58) ∧ nw_ k_ Ao62 t399.length co62) ∧ nw_ k_ Ao63 t402.length co63) ∧ nw_ k_ Ao70 t411.length co70) ∧ nw_ k_ Ao71 t414.length co71)) (n := t378.length) (c := co49) ?_).2.2; exact (kR_ (farR8_ HO380.out BK418.out))); (case side6 => exact (Kd.R_reads' HO380.out).2.1); (case side7 => refine (Kd.R_reads' (e := 72) (base := w.heap.size) (ok := fun k_ => ((((((((((nw_ k_ Ao49 t378.length co49 ∧ nw_ k_ Ao41 t360.length co41) ∧ nw_ k_ Ao42 t363.length co42) ∧ nw_ k_ Ao43 t366.length co43) ∧ nw_ k_ Ao44 t369.length co44) ∧ nw_ k_ Ao57 t392.length co57) ∧ nw_ k_ Ao58 t395.length co58) ∧ nw_ k_ Ao62 t399.length co62) ∧ nw_ k_ Ao63 t402.length co63) ∧ nw_ k_ Ao70 t411.length co70) ∧ nw_ k_ Ao71 t414.length co71)) (n := t381.length) (c := co50) ?_).2.2; exact (kR_ (farR8_ HO383.out BK418.out))); (case side8 => exact (Kd.R_reads' HO383.out).2.1); rintro e w89 ⟨rfl, hb⟩; refine ⟨_, rfl, ?_⟩; replace HO362 := a0_ (Kd.R_below (kR_ (farR8_ HO362.out BK418.out)) hb); replace HO365 := a0_ (Kd.R_below (kR_ (farR8_ HO365.out BK418.out)) hb); replace HO368 := a0_ (Kd.R_below (kR_ (farR8_ HO368.out BK418.out)) hb); replace HO371 := a0_ (Kd.R_below (kR_ (farR8_ HO371.out BK418.out)) hb); replace HO380 := a0_ (Kd.R_below (kR_ (farR8_ HO380.out BK418.out)) hb); replace HO383 := a0_ (Kd.R_below (kR_ (farR8_ HO383.out BK418.out)) hb); replace HO394 := a0_ (Kd.R_below (kR_ (farR8_ HO394.out BK418.out)) hb); replace HO397 := a0_ (Kd.R_below (kR_ (farR8_ HO397.out BK418.out)) hb); replace HO401 := a0_ (Kd.R_below (kR_ (farR8_ HO401.out BK418.out)) hb); replace HO404 := a0_ (Kd.R_below (kR_ (farR8_ HO404.out BK418.out)) hb); replace HO413 := a0_ (Kd.R_below (kR_ (farR8_ HO413.out BK418.out)) hb); replace HO416 := a0_ (Kd.R_below (kR_ (farR8_ HO416.out BK418.out)) hb); replace BK350 := a0_ (blk_below (g := gb350) (o := .cells #[.int .i64 a0_0, .bool a0_1, .bool a0_2, .int .i64 a0_3, .string a0_4, .int .i64 a0_5, .slice A0_6 l0_6.length c0_6, .slice A0_7 l0_7.length c0_7] 32 (0, 0)) (bfar8_ NB350_418.out BK350.out) hb); replace BK385 := a0_ (blk_below (g := gb385) (o := .cells #[.int .i64 t372, .bool t373, .bool t374, .int .i64 t375, .string t376, .int .i64 t377, .slice Ao49 t378.length co49, .slice Ao50 t381.length co50] 24 (0, 0)) (bfar8_ NB385_418.out BK385.out) hb); replace BK398 := a0_ (blk_below (g := gb398) (o := .cells #[.int .i64 t386, .bool t387, .bool t388, .int .i64 t389, .string t390, .int .i64 t391, .slice Ao57 t392.length co57, .slice Ao58 t395.length co58] 24 (0, 0)) (bfar8_ NB398_418.out BK398.out) hb); replace BK418 := a0_ (blk_below (g := gb418) (o := .cells #[.int .i64 t405, .bool t406, .bool t407, .int .i64 t408, .string t409, .int .i64 t410, .slice Ao70 t411.length co70, .slice Ao71 t414.length co71] 24 (0, 0)) (put8_ BK418.out) hb); replace HB := a0_ (below_step bq1_ hb); (try clear hb); (try clear hb2); (try clear hk); (try clear hi)))
  go_meet
  case rel => exact ⟨_, (true), rs_, H', ⟨by first | omega | exact Nat.le_refl _⟩, ⟨by (with_reducible repeat (first | apply Kd.R_alloc | apply Kd.R_drewN | apply Kd.R_drew)); exact Kd.R_mono HO401.out (fun _ hk => ⟨hk.1.1.2, ⟨hk.1.1.1.1.1.1.2, ⟨hk.1.1.1.1.1.2, ⟨hk.1.1.1.1.2, ⟨hk.1.1.1.2, ⟨hk.1.2, hk.2⟩⟩⟩⟩⟩⟩)⟩, ⟨by (with_reducible repeat (first | apply Kd.R_alloc | apply Kd.R_drewN | apply Kd.R_drew)); exact Kd.R_mono HO404.out (fun _ hk => ⟨hk.1.1.2, ⟨hk.1.1.1.1.1.1.2, ⟨hk.1.1.1.1.1.2, ⟨hk.1.1.1.1.2, ⟨hk.1.1.1.2, ⟨hk.1.2, hk.2⟩⟩⟩⟩⟩⟩)⟩, ⟨by (with_reducible repeat (first | apply Kd.R_alloc | apply Kd.R_drewN | apply Kd.R_drew)); exact Kd.R_mono HO380.out (fun _ hk => ⟨hk.1.1.1.2, ⟨hk.1.1.2, ⟨hk.1.1.1.1.1.1.1.1.1.1, ⟨hk.1.1.1.1.1.2, ⟨hk.1.1.1.1.2, ⟨hk.1.2, hk.2⟩⟩⟩⟩⟩⟩)⟩, ⟨by (with_reducible repeat (first | apply Kd.R_alloc | apply Kd.R_drewN | apply Kd.R_drew)); exact Kd.R_mono HO383.out (fun _ hk => ⟨hk.1.1.1.2, ⟨hk.1.1.2, ⟨hk.1.1.1.1.1.1.1.1.1.1, ⟨hk.1.1.1.1.1.2, ⟨hk.1.1.1.1.2, ⟨hk.1.2, hk.2⟩⟩⟩⟩⟩⟩)⟩, ⟨by (with_reducible repeat (first | apply Kd.R_alloc | apply Kd.R_drewN | apply Kd.R_drew)); exact Kd.R_mono HO394.out (fun _ hk => ⟨hk.1.1.1.2, ⟨hk.1.1.2, ⟨hk.1.1.1.1.1.2, ⟨hk.1.1.1.1.2, ⟨hk.1.1.1.1.1.1.1.1.1.1, ⟨hk.1.2, hk.2⟩⟩⟩⟩⟩⟩)⟩, ⟨by (with_reducible repeat (first | apply Kd.R_alloc | apply Kd.R_drewN | apply Kd.R_drew)); exact Kd.R_mono HO397.out (fun _ hk => ⟨hk.1.1.1.2, ⟨hk.1.1.2, ⟨hk.1.1.1.1.1.2, ⟨hk.1.1.1.1.2, ⟨hk.1.1.1.1.1.1.1.1.1.1, ⟨hk.1.2, hk.2⟩⟩⟩⟩⟩⟩)⟩, ⟨by (with_reducible repeat (first | apply Kd.R_alloc | apply Kd.R_drewN | apply Kd.R_drew)); exact Kd.R_mono HO413.out (fun _ hk => ⟨hk.1.2, ⟨hk.2, ⟨hk.1.1.1.1.1.2, ⟨hk.1.1.1.1.2, ⟨hk.1.1.1.2, ⟨hk.1.1.2, hk.1.1.1.1.1.1.1.1.1.1⟩⟩⟩⟩⟩⟩)⟩, ⟨by (with_reducible repeat (first | apply Kd.R_alloc | apply Kd.R_drewN | apply Kd.R_drew)); exact Kd.R_mono HO416.out (fun _ hk => ⟨hk.1.2, ⟨hk.2, ⟨hk.1.1.1.1.1.2, ⟨hk.1.1.1.1.2, ⟨hk.1.1.1.2, ⟨hk.1.1.2, hk.1.1.1.1.1.1.1.1.1.1⟩⟩⟩⟩⟩⟩)⟩, ⟨by (with_reducible repeat (first | refine blk_drewN ?_ _ | refine blk_drew ?_ | refine blk_alloc ?_ _)); exact BK350.out⟩, ⟨by (with_reducible repeat (first | refine blk_drewN ?_ _ | refine blk_drew ?_ | refine blk_alloc ?_ _)); exact BK385.out⟩, ⟨by (with_reducible repeat (first | refine blk_drewN ?_ _ | refine blk_drew ?_ | refine blk_alloc ?_ _)); exact BK398.out⟩, ⟨by (with_reducible repeat (first | refine blk_drewN ?_ _ | refine blk_drew ?_ | refine blk_alloc ?_ _)); exact BK418.out⟩, ⟨bq1_⟩⟩
 case rest =>
  clear HC31
  try clear c1
  try clear c2
  try clear p2
  try clear c3
  try clear c4
  try clear c5
  try clear c6
  try clear c6b0
  try clear c7
  try clear c8
  try clear c11
  try clear c11b0
  try clear c14
  try clear c17
  try clear c17b0
  try clear c18
  try clear c19
  try clear c20
  try clear c21
  try clear c22
  try clear c47
  try clear c54
  try clear c55
  try clear c66
  try clear c67
  try clear c68
  try clear c73
  try clear c74
  try clear c75
  try clear c76
  try clear c78
  try clear c79
  try clear c82
  try clear c83
  try clear c84
  try clear c86
  try clear c87
  try clear z13_0 z13_1 z13_2 z13_3 z13_4 z13_5 z13_6 z13_7
  try clear z19_0 z19_1 z19_2 z19_3 z19_4 z19_5 z19_6 z19_7
  try clear z33_0 z33_1 z33_2 z33_3 z33_4 z33_5 z33_6 z33_7
  try clear z37_0 z37_1 z37_2 z37_3 z37_4 z37_5 z37_6 z37_7
  try clear z48_0 z48_1 z48_2 z48_3 z48_4 z48_5 z48_6 z48_7
  try clear z51_0 z51_1 z51_2 z51_3 z51_4 z51_5 z51_6 z51_7
  try clear z56_0 z56_1 z56_2 z56_3 z56_4 z56_5 z56_6 z56_7
  try clear z61_0 z61_1 z61_2 z61_3 z61_4 z61_5 z61_6 z61_7
  try clear z69_0 z69_1 z69_2 z69_3 z69_4 z69_5 z69_6 z69_7
  try clear z77_0 z77_1 z77_2 z77_3 z77_4 z77_5 z77_6 z77_7
  try clear z80_0 z80_1 z80_2 z80_3 z80_4 z80_5 z80_6 z80_7
  try clear z85_0 z85_1 z85_2 z85_3 z85_4 z85_5 z85_6 z85_7
  try clear z88_0 z88_1 z88_2 z88_3 z88_4 z88_5 z88_6 z88_7
  try clear z8_0 z8_1 z8_2 z8_3 z8_4 z8_5 z8_6 z8_7
  try clear q13_0 q13_1 q13_2 q13_3 q13_4 q13_5 q13_6 q13_7
  try clear q19_0 q19_1 q19_2 q19_3 q19_4 q19_5 q19_6 q19_7
  try clear q33_0 q33_1 q33_2 q33_3 q33_4 q33_5 q33_6 q33_7
  try clear q37_0 q37_1 q37_2 q37_3 q37_4 q37_5 q37_6 q37_7
  try clear q48_0 q48_1 q48_2 q48_3 q48_4 q48_5 q48_6 q48_7
  try clear q51_0 q51_1 q51_2 q51_3 q51_4 q51_5 q51_6 q51_7
  try clear q56_0 q56_1 q56_2 q56_3 q56_4 q56_5 q56_6 q56_7
  try clear q61_0 q61_1 q61_2 q61_3 q61_4 q61_5 q61_6 q61_7
  try clear q69_0 q69_1 q69_2 q69_3 q69_4 q69_5 q69_6 q69_7
  try clear q77_0 q77_1 q77_2 q77_3 q77_4 q77_5 q77_6 q77_7
  try clear q80_0 q80_1 q80_2 q80_3 q80_4 q80_5 q80_6 q80_7
  try clear q85_0 q85_1 q85_2 q85_3 q85_4 q85_5 q85_6 q85_7
  try clear q88_0 q88_1 q88_2 q88_3 q88_4 q88_5 q88_6 q88_7
  try clear q8_0 q8_1 q8_2 q8_3 q8_4 q8_5 q8_6 q8_7
  obtain ⟨kq, x70_30, rfl, HA, HJ30, HO_13, HO_14, HO_386006, HO_386007, HO_399006, HO_399007, HO_419006, HO_419007, BK350, BK385, BK398, BK418, HB⟩ := hcut
  cases kq with
  | zero => exact absurd HA.out (by simp [laws_FnExactReplyTo.j0])
  | succ kj30 =>
   have H := HA.out
   clear HA
   simp only [laws_FnExactReplyTo.j0] at H
   by_cases c90 : x70_30 = true
   case pos =>
    subst c90
    rw [if_pos rfl] at H
    obtain rfl := Option.some.inj H
    go_wp2
    go_ret
    exact ⟨rr_, bq1_⟩
   replace c90 := Bool.eq_false_iff.mpr c90
   subst c90
   rw [if_neg (show ¬ (false = true) by decide)] at H
   obtain ⟨⟨t420, t421, t422, t423, t424, t425, t426, t429⟩, A910, H⟩ := Option.bind_eq_some_iff.mp H
   have A91 := a0_ A910
   clear A910
   obtain ⟨t432, A920, H⟩ := Option.bind_eq_some_iff.mp H
   have A92 := a0_ A920
   clear A920
   by_cases c93 : t432 = true
   case neg =>
    replace c93 := Bool.eq_false_iff.mpr c93
    subst c93
    rw [if_neg (show ¬ (false = true) by decide)] at H
    obtain rfl := Option.some.inj H
    try go_wp2
    replace HO_13 := a0_ (Kd.R_drew HO_13.out)
    replace HO_14 := a0_ (Kd.R_drew HO_14.out)
    replace HO_386006 := a0_ (Kd.R_drew HO_386006.out)
    replace HO_386007 := a0_ (Kd.R_drew HO_386007.out)
    replace HO_399006 := a0_ (Kd.R_drew HO_399006.out)
    replace HO_399007 := a0_ (Kd.R_drew HO_399007.out)
    replace HO_419006 := a0_ (Kd.R_drew HO_419006.out)
    replace HO_419007 := a0_ (Kd.R_drew HO_419007.out)
    replace BK350 := a0_ (blk_drew BK350.out)
    replace BK385 := a0_ (blk_drew BK385.out)
    replace BK398 := a0_ (blk_drew BK398.out)
    replace BK418 := a0_ (blk_drew BK418.out)
    replace HB := a0_ (below_drew1 HB.out)
    refine start_ (n := 5) (S := fun w' => w'.cell? ⟨gb398, 0, none⟩ = some (.int .i64 t386) ∧ w'.cell? ⟨gb398, 1, none⟩ = some (.bool t387) ∧ w'.cell? ⟨gb398, 2, none⟩ = some (.bool t388) ∧ w'.cell? ⟨gb398, 3, none⟩ = some (.int .i64 t389) ∧ w'.cell? ⟨gb398, 4, none⟩ = some (.string t390) ∧ w'.cell? ⟨gb398, 5, none⟩ = some (.int .i64 t391) ∧ w'.cell? ⟨gb398, 6, none⟩ = some (.slice Ao57 t392.length co57) ∧ w'.cell? ⟨gb398, 7, none⟩ = some (.slice Ao58 t395.length co58) ∧ w'.cell? ⟨gb350, 0, none⟩ = some (.int .i64 a0_0) ∧ w'.cell? ⟨gb350, 1, none⟩ = some (.bool a0_1) ∧ w'.cell? ⟨gb350, 2, none⟩ = some (.bool a0_2) ∧ w'.cell? ⟨gb350, 3, none⟩ = some (.int .i64 a0_3) ∧ w'.cell? ⟨gb350, 4, none⟩ = some (.string a0_4) ∧ w'.cell? ⟨gb350, 5, none⟩ = some (.int .i64 a0_5) ∧ w'.cell? ⟨gb350, 6, none⟩ = some (.slice A0_6 l0_6.length c0_6) ∧ w'.cell? ⟨gb350, 7, none⟩ = some (.slice A0_7 l0_7.length c0_7)) (ds := []) #[false, false, false, false, false] (by kernel_rfl) rfl rfl ⟨(blk_cell BK398.out 0).trans rfl, (blk_cell BK398.out 1).trans rfl, (blk_cell BK398.out 2).trans rfl, (blk_cell BK398.out 3).trans rfl, (blk_cell BK398.out 4).trans rfl, (blk_cell BK398.out 5).trans rfl, (blk_cell BK398.out 6).trans rfl, (blk_cell BK398.out 7).trans rfl, (blk_cell BK350.out 0).trans rfl, (blk_cell BK350.out 1).trans rfl, (blk_cell BK350.out 2).trans rfl, (blk_cell BK350.out 3).trans rfl, (blk_cell BK350.out 4).trans rfl, (blk_cell BK350.out 5).trans rfl, (blk_cell BK350.out 6).trans rfl, (blk_cell BK350.out 7).trans rfl⟩ (fun hHeld => ?_)
    generalize wc.drew = w254 at HO_13 HO_14 HO_386006 HO_386007 HO_399006 HO_399007 HO_419006 HO_419007 BK350 BK385 BK398 BK418 HB hHeld ⊢
    refine take_ (i := 0) (N := some 71) (v := ?_) (a' := ?_) #[true, false, false, false, false] rfl rfl (by kernel_rfl) (fun _ _ _ h => h) (Or.inl ⟨by rfl, ?_⟩) hHeld ?_ ?_
    rotate_left
    · rintro w' ⟨s0, s1, s2, s3, s4, s5, s6, s7, s8, s9, s10, s11, s12, s13, s14, s15⟩
      go_simp
      with_reducible rfl
    rotate_left
    · simp only [Act.put, List.setIfInBounds_toArray, List.set_cons_zero, List.set_cons_succ, i64_w, i32_w]
      rfl
    refine take_ (i := 1) (N := some 72) (v := ?_) (a' := ?_) #[true, true, false, false, false] rfl rfl (by kernel_rfl) (fun _ _ _ h => h) (Or.inl ⟨by rfl, ?_⟩) hHeld ?_ ?_
    rotate_left
    · rintro w' ⟨s0, s1, s2, s3, s4, s5, s6, s7, s8, s9, s10, s11, s12, s13, s14, s15⟩
      go_simp
      with_reducible rfl
    rotate_left
    · simp only [Act.put, List.setIfInBounds_toArray, List.set_cons_zero, List.set_cons_succ, i64_w, i32_w]
      rfl
    refine one_ (i := 2) (N := some 73) #[true, true, true, false, false] rfl rfl (by kernel_rfl) (by decide) (fun K hK => ?_)
    refine goes_ Tryz.func20 (by kernel_rfl) rfl #[.agg #[.int .i64 a0_0, .bool a0_1, .bool a0_2, .int .i64 a0_3, .string a0_4, .int .i64 a0_5, .slice A0_6 l0_6.length c0_6, .slice A0_7 l0_7.length c0_7]] (by rfl) rfl rfl argsS_ ?_
    with_reducible refine (laws_toMessage.calls kj30 a0_0 a0_1 a0_2 a0_3 a0_4 a0_5 _ _ l0_6 _ _ l0_7 t420 t421 t422 t423 t424 t425 t426 t429 _ ?side1 ?side2 ?side3 ?side4 A91.out).mono ?_
    (case side1 => exact kC_ HR0_6.out HB.out)
    (case side2 => exact HC0_6.out)
    (case side3 => exact kC_ HR0_7.out HB.out)
    (case side4 => exact HC0_7.out)
    rintro e w255 ⟨v427, v430, rfl, ho0, ho1, hb⟩
    refine ⟨_, rfl, ?_⟩
    have n0_ := a0_ (Kd.R_mono (Kd.R_told (Kd.R_told (Kd.R_old (kR_ HO_13.out) hb) (Kd.R_base ho0)) (Kd.R_base ho1)) (fun _ h_ => h_.1))
    have n1_ := a0_ (Kd.R_mono (Kd.R_told (Kd.R_told (Kd.R_old (kR_ HO_14.out) hb) (Kd.R_base ho0)) (Kd.R_base ho1)) (fun _ h_ => h_.1))
    have n2_ := a0_ (Kd.R_mono (Kd.R_told (Kd.R_told (Kd.R_old (kR_ HO_386006.out) hb) (Kd.R_base ho0)) (Kd.R_base ho1)) (fun _ h_ => h_.1))
    have n3_ := a0_ (Kd.R_mono (Kd.R_told (Kd.R_told (Kd.R_old (kR_ HO_386007.out) hb) (Kd.R_base ho0)) (Kd.R_base ho1)) (fun _ h_ => h_.1))
    have n4_ := a0_ (Kd.R_mono (Kd.R_told (Kd.R_told (Kd.R_old (kR_ HO_399006.out) hb) (Kd.R_base ho0)) (Kd.R_base ho1)) (fun _ h_ => h_.1))
    have n5_ := a0_ (Kd.R_mono (Kd.R_told (Kd.R_told (Kd.R_old (kR_ HO_399007.out) hb) (Kd.R_base ho0)) (Kd.R_base ho1)) (fun _ h_ => h_.1))
    have n6_ := a0_ (Kd.R_mono (Kd.R_told (Kd.R_told (Kd.R_old (kR_ HO_419006.out) hb) (Kd.R_base ho0)) (Kd.R_base ho1)) (fun _ h_ => h_.1))
    have n7_ := a0_ (Kd.R_mono (Kd.R_told (Kd.R_told (Kd.R_old (kR_ HO_419007.out) hb) (Kd.R_base ho0)) (Kd.R_base ho1)) (fun _ h_ => h_.1))
    have n8_ := a0_ (Kd.R_lower (Kd.R_new' (Kd.R_new' (Kd.R_new' (Kd.R_new' (Kd.R_new' (Kd.R_new' (Kd.R_new' (Kd.R_new' ho0 (Kd.R_lt (kR_ HO_13.out))) (Kd.R_lt (kR_ HO_14.out))) (Kd.R_lt (kR_ HO_386006.out))) (Kd.R_lt (kR_ HO_386007.out))) (Kd.R_lt (kR_ HO_399006.out))) (Kd.R_lt (kR_ HO_399007.out))) (Kd.R_lt (kR_ HO_419006.out))) (Kd.R_lt (kR_ HO_419007.out))) (below_size bq1_))
    have n9_ := a0_ (Kd.R_lower (Kd.R_new' (Kd.R_new' (Kd.R_new' (Kd.R_new' (Kd.R_new' (Kd.R_new' (Kd.R_new' (Kd.R_new' ho1 (Kd.R_lt (kR_ HO_13.out))) (Kd.R_lt (kR_ HO_14.out))) (Kd.R_lt (kR_ HO_386006.out))) (Kd.R_lt (kR_ HO_386007.out))) (Kd.R_lt (kR_ HO_399006.out))) (Kd.R_lt (kR_ HO_399007.out))) (Kd.R_lt (kR_ HO_419006.out))) (Kd.R_lt (kR_ HO_419007.out))) (below_size bq1_))
    have n10_ := a0_ (bkB_ BK350 hb)
    have n11_ := a0_ (bkB_ BK385 hb)
    have n12_ := a0_ (bkB_ BK398 hb)
    have n13_ := a0_ (bkB_ BK418 hb)
    have n14_ := a0_ (below_step bq1_ hb)
    clear HO_13
    clear HO_14
    clear HO_386006
    clear HO_386007
    clear HO_399006
    clear HO_399007
    clear HO_419006
    clear HO_419007
    clear BK350
    clear BK385
    clear BK398
    clear BK418
    clear HB
    have HO_13 := n0_
    have HO_14 := n1_
    have HO_386006 := n2_
    have HO_386007 := n3_
    have HO_399006 := n4_
    have HO_399007 := n5_
    have HO_419006 := n6_
    have HO_419007 := n7_
    have HO428 := n8_
    have HO431 := n9_
    have BK350 := n10_
    have BK385 := n11_
    have BK398 := n12_
    have BK418 := n13_
    have HB := n14_
    clear n0_ n1_ n2_ n3_ n4_ n5_ n6_ n7_ n8_ n9_ n10_ n11_ n12_ n13_ n14_
    (try clear hb)
    (try clear hb2)
    (try clear hk)
    (try clear hi)
    (try clear ho0)
    (try clear ho1)
    obtain ⟨Ao256, co256, eo256⟩ := Kd.R_slice HO428.out
    (first | subst eo256 | (injection eo256 with f1_ f2_ f3_; have f4_ := f1_.symm; have f5_ := f3_.symm; clear f1_ f2_ f3_; subst f4_; subst f5_))
    obtain ⟨Ao257, co257, eo257⟩ := Kd.R_slice HO431.out
    (first | subst eo257 | (injection eo257 with f1_ f2_ f3_; have f4_ := f1_.symm; have f5_ := f3_.symm; clear f1_ f2_ f3_; subst f4_; subst f5_))
    refine hK.out _ _ ⟨(blk_cell BK398.out 0).trans rfl, (blk_cell BK398.out 1).trans rfl, (blk_cell BK398.out 2).trans rfl, (blk_cell BK398.out 3).trans rfl, (blk_cell BK398.out 4).trans rfl, (blk_cell BK398.out 5).trans rfl, (blk_cell BK398.out 6).trans rfl, (blk_cell BK398.out 7).trans rfl, (blk_cell BK350.out 0).trans rfl, (blk_cell BK350.out 1).trans rfl, (blk_cell BK350.out 2).trans rfl, (blk_cell BK350.out 3).trans rfl, (blk_cell BK350.out 4).trans rfl, (blk_cell BK350.out 5).trans rfl, (blk_cell BK350.out 6).trans rfl, (blk_cell BK350.out 7).trans rfl⟩ (fun hHeld => ?_)
    clear hK K
    refine normS_ ?_
    refine one_ (i := 3) (N := some 74) #[true, true, true, true, false] rfl rfl (by kernel_rfl) (by decide) (fun K hK => ?_)
    refine goes_ Tryz.func14 (by kernel_rfl) rfl #[.agg #[.int .i64 t386, .bool t387, .bool t388, .int .i64 t389, .string t390, .int .i64 t391, .slice Ao57 t392.length co57, .slice Ao58 t395.length co58], .agg #[.int .i64 t420, .bool t421, .bool t422, .int .i64 t423, .string t424, .int .i64 t425, .slice Ao256 t426.length co256, .slice Ao257 t429.length co257]] (by rfl) rfl rfl argsS_ ?_
    with_reducible refine (laws_eqMessage.calls kj30 t386 t387 t388 t389 t390 t391 _ _ t392 _ _ t395 t420 t421 t422 t423 t424 t425 _ _ t426 _ _ t429 false _ ?side1 ?side2 ?side3 ?side4 ?side5 ?side6 ?side7 ?side8 A92.out).mono ?_
    (case side1 => exact kD_ (Kd.R_reads' HO_399006.out).2.2)
    (case side2 => exact (Kd.R_reads' HO_399006.out).2.1)
    (case side3 => exact kD_ (Kd.R_reads' HO_399007.out).2.2)
    (case side4 => exact (Kd.R_reads' HO_399007.out).2.1)
    (case side5 => exact kD_ (Kd.R_reads' HO428.out).2.2)
    (case side6 => exact (Kd.R_reads' HO428.out).2.1)
    (case side7 => exact kD_ (Kd.R_reads' HO431.out).2.2)
    (case side8 => exact (Kd.R_reads' HO431.out).2.1)
    rintro e w258 ⟨rfl, hb⟩
    refine ⟨_, rfl, ?_⟩
    replace HO_13 := a0_ (Kd.R_below (kR_ HO_13.out) hb)
    replace HO_14 := a0_ (Kd.R_below (kR_ HO_14.out) hb)
    replace HO_386006 := a0_ (Kd.R_below (kR_ HO_386006.out) hb)
    replace HO_386007 := a0_ (Kd.R_below (kR_ HO_386007.out) hb)
    replace HO_399006 := a0_ (Kd.R_below (kR_ HO_399006.out) hb)
    replace HO_399007 := a0_ (Kd.R_below (kR_ HO_399007.out) hb)
    replace HO_419006 := a0_ (Kd.R_below (kR_ HO_419006.out) hb)
    replace HO_419007 := a0_ (Kd.R_below (kR_ HO_419007.out) hb)
    replace HO428 := a0_ (Kd.R_below (kR_ HO428.out) hb)
    replace HO431 := a0_ (Kd.R_below (kR_ HO431.out) hb)
    replace BK350 := a0_ (bkB_ BK350 hb)
    replace BK385 := a0_ (bkB_ BK385 hb)
    replace BK398 := a0_ (bkB_ BK398 hb)
    replace BK418 := a0_ (bkB_ BK418 hb)
    replace HB := a0_ (below_step bq1_ hb)
    (try clear hb)
    (try clear hb2)
    (try clear hk)
    (try clear hi)
    refine hK.out _ _ ⟨(blk_cell BK398.out 0).trans rfl, (blk_cell BK398.out 1).trans rfl, (blk_cell BK398.out 2).trans rfl, (blk_cell BK398.out 3).trans rfl, (blk_cell BK398.out 4).trans rfl, (blk_cell BK398.out 5).trans rfl, (blk_cell BK398.out 6).trans rfl, (blk_cell BK398.out 7).trans rfl, (blk_cell BK350.out 0).trans rfl, (blk_cell BK350.out 1).trans rfl, (blk_cell BK350.out 2).trans rfl, (blk_cell BK350.out 3).trans rfl, (blk_cell BK350.out 4).trans rfl, (blk_cell BK350.out 5).trans rfl, (blk_cell BK350.out 6).trans rfl, (blk_cell BK350.out 7).trans rfl⟩ (fun hHeld => ?_)
    clear hK K
    refine normS_ ?_
    refine pure_ (i := 4) (N := some 75) (v := ?_) (a' := ?_) #[true, true, true, true, true] rfl rfl (by kernel_rfl) (fun _ _ _ h => h) (Or.inl ⟨by rfl, ?_⟩) ?_ ?_
    rotate_left
    · intro w'
      go_simp
      with_reducible rfl
    rotate_left
    · simp only [Act.put, List.setIfInBounds_toArray, List.set_cons_zero, List.set_cons_succ, i64_w, i32_w]
      rfl
    refine done_ (by kernel_rfl) ?_
    try go_wp2
    go_ret
    exact ⟨rr_, bq1_⟩
   subst c93
   rw [if_pos rfl] at H
   obtain ⟨t433, A940, H⟩ := Option.bind_eq_some_iff.mp H
   have A94 := a0_ A940
   clear A940
   obtain ⟨t436, A950, H⟩ := Option.bind_eq_some_iff.mp H
   have A95 := a0_ A950
   clear A950
   by_cases c96 : t436 = true
   case neg =>
    replace c96 := Bool.eq_false_iff.mpr c96
    subst c96
    rw [if_neg (show ¬ (false = true) by decide)] at H
    obtain rfl := Option.some.inj H
    try go_wp2
    replace HO_13 := a0_ (Kd.R_drew HO_13.out)
    replace HO_14 := a0_ (Kd.R_drew HO_14.out)
    replace HO_386006 := a0_ (Kd.R_drew HO_386006.out)
    replace HO_386007 := a0_ (Kd.R_drew HO_386007.out)
    replace HO_399006 := a0_ (Kd.R_drew HO_399006.out)
    replace HO_399007 := a0_ (Kd.R_drew HO_399007.out)
    replace HO_419006 := a0_ (Kd.R_drew HO_419006.out)
    replace HO_419007 := a0_ (Kd.R_drew HO_419007.out)
    replace BK350 := a0_ (blk_drew BK350.out)
    replace BK385 := a0_ (blk_drew BK385.out)
    replace BK398 := a0_ (blk_drew BK398.out)
    replace BK418 := a0_ (blk_drew BK418.out)
    replace HB := a0_ (below_drew1 HB.out)
    refine start_ (n := 5) (S := fun w' => w'.cell? ⟨gb398, 0, none⟩ = some (.int .i64 t386) ∧ w'.cell? ⟨gb398, 1, none⟩ = some (.bool t387) ∧ w'.cell? ⟨gb398, 2, none⟩ = some (.bool t388) ∧ w'.cell? ⟨gb398, 3, none⟩ = some (.int .i64 t389) ∧ w'.cell? ⟨gb398, 4, none⟩ = some (.string t390) ∧ w'.cell? ⟨gb398, 5, none⟩ = some (.int .i64 t391) ∧ w'.cell? ⟨gb398, 6, none⟩ = some (.slice Ao57 t392.length co57) ∧ w'.cell? ⟨gb398, 7, none⟩ = some (.slice Ao58 t395.length co58) ∧ w'.cell? ⟨gb350, 0, none⟩ = some (.int .i64 a0_0) ∧ w'.cell? ⟨gb350, 1, none⟩ = some (.bool a0_1) ∧ w'.cell? ⟨gb350, 2, none⟩ = some (.bool a0_2) ∧ w'.cell? ⟨gb350, 3, none⟩ = some (.int .i64 a0_3) ∧ w'.cell? ⟨gb350, 4, none⟩ = some (.string a0_4) ∧ w'.cell? ⟨gb350, 5, none⟩ = some (.int .i64 a0_5) ∧ w'.cell? ⟨gb350, 6, none⟩ = some (.slice A0_6 l0_6.length c0_6) ∧ w'.cell? ⟨gb350, 7, none⟩ = some (.slice A0_7 l0_7.length c0_7)) (ds := []) #[false, false, false, false, false] (by kernel_rfl) rfl rfl ⟨(blk_cell BK398.out 0).trans rfl, (blk_cell BK398.out 1).trans rfl, (blk_cell BK398.out 2).trans rfl, (blk_cell BK398.out 3).trans rfl, (blk_cell BK398.out 4).trans rfl, (blk_cell BK398.out 5).trans rfl, (blk_cell BK398.out 6).trans rfl, (blk_cell BK398.out 7).trans rfl, (blk_cell BK350.out 0).trans rfl, (blk_cell BK350.out 1).trans rfl, (blk_cell BK350.out 2).trans rfl, (blk_cell BK350.out 3).trans rfl, (blk_cell BK350.out 4).trans rfl, (blk_cell BK350.out 5).trans rfl, (blk_cell BK350.out 6).trans rfl, (blk_cell BK350.out 7).trans rfl⟩ (fun hHeld => ?_)
    generalize wc.drew = w246 at HO_13 HO_14 HO_386006 HO_386007 HO_399006 HO_399007 HO_419006 HO_419007 BK350 BK385 BK398 BK418 HB hHeld ⊢
    refine take_ (i := 0) (N := some 71) (v := ?_) (a' := ?_) #[true, false, false, false, false] rfl rfl (by kernel_rfl) (fun _ _ _ h => h) (Or.inl ⟨by rfl, ?_⟩) hHeld ?_ ?_
    rotate_left
    · rintro w' ⟨s0, s1, s2, s3, s4, s5, s6, s7, s8, s9, s10, s11, s12, s13, s14, s15⟩
      go_simp
      with_reducible rfl
    rotate_left
    · simp only [Act.put, List.setIfInBounds_toArray, List.set_cons_zero, List.set_cons_succ, i64_w, i32_w]
      rfl
    refine take_ (i := 1) (N := some 72) (v := ?_) (a' := ?_) #[true, true, false, false, false] rfl rfl (by kernel_rfl) (fun _ _ _ h => h) (Or.inl ⟨by rfl, ?_⟩) hHeld ?_ ?_
    rotate_left
    · rintro w' ⟨s0, s1, s2, s3, s4, s5, s6, s7, s8, s9, s10, s11, s12, s13, s14, s15⟩
      go_simp
      with_reducible rfl
    rotate_left
    · simp only [Act.put, List.setIfInBounds_toArray, List.set_cons_zero, List.set_cons_succ, i64_w, i32_w]
      rfl
    refine one_ (i := 2) (N := some 73) #[true, true, true, false, false] rfl rfl (by kernel_rfl) (by decide) (fun K hK => ?_)
    refine goes_ Tryz.func20 (by kernel_rfl) rfl #[.agg #[.int .i64 a0_0, .bool a0_1, .bool a0_2, .int .i64 a0_3, .string a0_4, .int .i64 a0_5, .slice A0_6 l0_6.length c0_6, .slice A0_7 l0_7.length c0_7]] (by rfl) rfl rfl argsS_ ?_
    with_reducible refine (laws_toMessage.calls kj30 a0_0 a0_1 a0_2 a0_3 a0_4 a0_5 _ _ l0_6 _ _ l0_7 t420 t421 t422 t423 t424 t425 t426 t429 _ ?side1 ?side2 ?side3 ?side4 A91.out).mono ?_
    (case side1 => exact kC_ HR0_6.out HB.out)
    (case side2 => exact HC0_6.out)
    (case side3 => exact kC_ HR0_7.out HB.out)
    (case side4 => exact HC0_7.out)
    rintro e w247 ⟨v427, v430, rfl, ho0, ho1, hb⟩
    refine ⟨_, rfl, ?_⟩
    have n0_ := a0_ (Kd.R_mono (Kd.R_told (Kd.R_told (Kd.R_old (kR_ HO_13.out) hb) (Kd.R_base ho0)) (Kd.R_base ho1)) (fun _ h_ => h_.1))
    have n1_ := a0_ (Kd.R_mono (Kd.R_told (Kd.R_told (Kd.R_old (kR_ HO_14.out) hb) (Kd.R_base ho0)) (Kd.R_base ho1)) (fun _ h_ => h_.1))
    have n2_ := a0_ (Kd.R_mono (Kd.R_told (Kd.R_told (Kd.R_old (kR_ HO_386006.out) hb) (Kd.R_base ho0)) (Kd.R_base ho1)) (fun _ h_ => h_.1))
    have n3_ := a0_ (Kd.R_mono (Kd.R_told (Kd.R_told (Kd.R_old (kR_ HO_386007.out) hb) (Kd.R_base ho0)) (Kd.R_base ho1)) (fun _ h_ => h_.1))
    have n4_ := a0_ (Kd.R_mono (Kd.R_told (Kd.R_told (Kd.R_old (kR_ HO_399006.out) hb) (Kd.R_base ho0)) (Kd.R_base ho1)) (fun _ h_ => h_.1))
    have n5_ := a0_ (Kd.R_mono (Kd.R_told (Kd.R_told (Kd.R_old (kR_ HO_399007.out) hb) (Kd.R_base ho0)) (Kd.R_base ho1)) (fun _ h_ => h_.1))
    have n6_ := a0_ (Kd.R_mono (Kd.R_told (Kd.R_told (Kd.R_old (kR_ HO_419006.out) hb) (Kd.R_base ho0)) (Kd.R_base ho1)) (fun _ h_ => h_.1))
    have n7_ := a0_ (Kd.R_mono (Kd.R_told (Kd.R_told (Kd.R_old (kR_ HO_419007.out) hb) (Kd.R_base ho0)) (Kd.R_base ho1)) (fun _ h_ => h_.1))
    have n8_ := a0_ (Kd.R_lower (Kd.R_new' (Kd.R_new' (Kd.R_new' (Kd.R_new' (Kd.R_new' (Kd.R_new' (Kd.R_new' (Kd.R_new' ho0 (Kd.R_lt (kR_ HO_13.out))) (Kd.R_lt (kR_ HO_14.out))) (Kd.R_lt (kR_ HO_386006.out))) (Kd.R_lt (kR_ HO_386007.out))) (Kd.R_lt (kR_ HO_399006.out))) (Kd.R_lt (kR_ HO_399007.out))) (Kd.R_lt (kR_ HO_419006.out))) (Kd.R_lt (kR_ HO_419007.out))) (below_size bq1_))
    have n9_ := a0_ (Kd.R_lower (Kd.R_new' (Kd.R_new' (Kd.R_new' (Kd.R_new' (Kd.R_new' (Kd.R_new' (Kd.R_new' (Kd.R_new' ho1 (Kd.R_lt (kR_ HO_13.out))) (Kd.R_lt (kR_ HO_14.out))) (Kd.R_lt (kR_ HO_386006.out))) (Kd.R_lt (kR_ HO_386007.out))) (Kd.R_lt (kR_ HO_399006.out))) (Kd.R_lt (kR_ HO_399007.out))) (Kd.R_lt (kR_ HO_419006.out))) (Kd.R_lt (kR_ HO_419007.out))) (below_size bq1_))
    have n10_ := a0_ (bkB_ BK350 hb)
    have n11_ := a0_ (bkB_ BK385 hb)
    have n12_ := a0_ (bkB_ BK398 hb)
    have n13_ := a0_ (bkB_ BK418 hb)
    have n14_ := a0_ (below_step bq1_ hb)
    clear HO_13
    clear HO_14
    clear HO_386006
    clear HO_386007
    clear HO_399006
    clear HO_399007
    clear HO_419006
    clear HO_419007
    clear BK350
    clear BK385
    clear BK398
    clear BK418
    clear HB
    have HO_13 := n0_
    have HO_14 := n1_
    have HO_386006 := n2_
    have HO_386007 := n3_
    have HO_399006 := n4_
    have HO_399007 := n5_
    have HO_419006 := n6_
    have HO_419007 := n7_
    have HO428 := n8_
    have HO431 := n9_
    have BK350 := n10_
    have BK385 := n11_
    have BK398 := n12_
    have BK418 := n13_
    have HB := n14_
    clear n0_ n1_ n2_ n3_ n4_ n5_ n6_ n7_ n8_ n9_ n10_ n11_ n12_ n13_ n14_
    (try clear hb)
    (try clear hb2)
    (try clear hk)
    (try clear hi)
    (try clear ho0)
    (try clear ho1)
    obtain ⟨Ao248, co248, eo248⟩ := Kd.R_slice HO428.out
    (first | subst eo248 | (injection eo248 with f1_ f2_ f3_; have f4_ := f1_.symm; have f5_ := f3_.symm; clear f1_ f2_ f3_; subst f4_; subst f5_))
    obtain ⟨Ao249, co249, eo249⟩ := Kd.R_slice HO431.out
    (first | subst eo249 | (injection eo249 with f1_ f2_ f3_; have f4_ := f1_.symm; have f5_ := f3_.symm; clear f1_ f2_ f3_; subst f4_; subst f5_))
    refine hK.out _ _ ⟨(blk_cell BK398.out 0).trans rfl, (blk_cell BK398.out 1).trans rfl, (blk_cell BK398.out 2).trans rfl, (blk_cell BK398.out 3).trans rfl, (blk_cell BK398.out 4).trans rfl, (blk_cell BK398.out 5).trans rfl, (blk_cell BK398.out 6).trans rfl, (blk_cell BK398.out 7).trans rfl, (blk_cell BK350.out 0).trans rfl, (blk_cell BK350.out 1).trans rfl, (blk_cell BK350.out 2).trans rfl, (blk_cell BK350.out 3).trans rfl, (blk_cell BK350.out 4).trans rfl, (blk_cell BK350.out 5).trans rfl, (blk_cell BK350.out 6).trans rfl, (blk_cell BK350.out 7).trans rfl⟩ (fun hHeld => ?_)
    clear hK K
    refine normS_ ?_
    refine one_ (i := 3) (N := some 74) #[true, true, true, true, false] rfl rfl (by kernel_rfl) (by decide) (fun K hK => ?_)
    refine goes_ Tryz.func14 (by kernel_rfl) rfl #[.agg #[.int .i64 t386, .bool t387, .bool t388, .int .i64 t389, .string t390, .int .i64 t391, .slice Ao57 t392.length co57, .slice Ao58 t395.length co58], .agg #[.int .i64 t420, .bool t421, .bool t422, .int .i64 t423, .string t424, .int .i64 t425, .slice Ao248 t426.length co248, .slice Ao249 t429.length co249]] (by rfl) rfl rfl argsS_ ?_
    with_reducible refine (laws_eqMessage.calls kj30 t386 t387 t388 t389 t390 t391 _ _ t392 _ _ t395 t420 t421 t422 t423 t424 t425 _ _ t426 _ _ t429 true _ ?side1 ?side2 ?side3 ?side4 ?side5 ?side6 ?side7 ?side8 A92.out).mono ?_
    (case side1 => exact kD_ (Kd.R_reads' HO_399006.out).2.2)
    (case side2 => exact (Kd.R_reads' HO_399006.out).2.1)
    (case side3 => exact kD_ (Kd.R_reads' HO_399007.out).2.2)
    (case side4 => exact (Kd.R_reads' HO_399007.out).2.1)
    (case side5 => exact kD_ (Kd.R_reads' HO428.out).2.2)
    (case side6 => exact (Kd.R_reads' HO428.out).2.1)
    (case side7 => exact kD_ (Kd.R_reads' HO431.out).2.2)
    (case side8 => exact (Kd.R_reads' HO431.out).2.1)
    rintro e w250 ⟨rfl, hb⟩
    refine ⟨_, rfl, ?_⟩
    replace HO_13 := a0_ (Kd.R_below (kR_ HO_13.out) hb)
    replace HO_14 := a0_ (Kd.R_below (kR_ HO_14.out) hb)
    replace HO_386006 := a0_ (Kd.R_below (kR_ HO_386006.out) hb)
    replace HO_386007 := a0_ (Kd.R_below (kR_ HO_386007.out) hb)
    replace HO_399006 := a0_ (Kd.R_below (kR_ HO_399006.out) hb)
    replace HO_399007 := a0_ (Kd.R_below (kR_ HO_399007.out) hb)
    replace HO_419006 := a0_ (Kd.R_below (kR_ HO_419006.out) hb)
    replace HO_419007 := a0_ (Kd.R_below (kR_ HO_419007.out) hb)
    replace HO428 := a0_ (Kd.R_below (kR_ HO428.out) hb)
    replace HO431 := a0_ (Kd.R_below (kR_ HO431.out) hb)
    replace BK350 := a0_ (bkB_ BK350 hb)
    replace BK385 := a0_ (bkB_ BK385 hb)
    replace BK398 := a0_ (bkB_ BK398 hb)
    replace BK418 := a0_ (bkB_ BK418 hb)
    replace HB := a0_ (below_step bq1_ hb)
    (try clear hb)
    (try clear hb2)
    (try clear hk)
    (try clear hi)
    refine hK.out _ _ ⟨(blk_cell BK398.out 0).trans rfl, (blk_cell BK398.out 1).trans rfl, (blk_cell BK398.out 2).trans rfl, (blk_cell BK398.out 3).trans rfl, (blk_cell BK398.out 4).trans rfl, (blk_cell BK398.out 5).trans rfl, (blk_cell BK398.out 6).trans rfl, (blk_cell BK398.out 7).trans rfl, (blk_cell BK350.out 0).trans rfl, (blk_cell BK350.out 1).trans rfl, (blk_cell BK350.out 2).trans rfl, (blk_cell BK350.out 3).trans rfl, (blk_cell BK350.out 4).trans rfl, (blk_cell BK350.out 5).trans rfl, (blk_cell BK350.out 6).trans rfl, (blk_cell BK350.out 7).trans rfl⟩ (fun hHeld => ?_)
    clear hK K
    refine normS_ ?_
    refine pure_ (i := 4) (N := some 75) (v := ?_) (a' := ?_) #[true, true, true, true, true] rfl rfl (by kernel_rfl) (fun _ _ _ h => h) (Or.inl ⟨by rfl, ?_⟩) ?_ ?_
    rotate_left
    · intro w'
      go_simp
      with_reducible rfl
    rotate_left
    · simp only [Act.put, List.setIfInBounds_toArray, List.set_cons_zero, List.set_cons_succ, i64_w, i32_w]
      rfl
    refine done_ (by kernel_rfl) ?_
    try go_wp2_with (first | ((with_reducible refine gate_callee (f := 21) rfl ?_); refine goesL_ (some 78) rfl rfl Tryz.func21 (by kernel_rfl) rfl #[.slice A2 l2.length c2] rfl argsS_ ?_; (with_reducible refine (laws_toRecordS.calls kj30 _ _ l2 t433 _ ?side1 ?side2 A94.out).mono ?_); (case side1 => exact kC_ HR2.out HB.out); (case side2 => exact HC2.out); rintro e w251 ⟨v434, rfl, ho0, hb⟩; refine ⟨_, rfl, ?_⟩; have n0_ := a0_ (Kd.R_elder' (kR_ HO_13.out) (Kd.R_base ho0) hb); have n1_ := a0_ (Kd.R_elder' (kR_ HO_14.out) (Kd.R_base ho0) hb); have n2_ := a0_ (Kd.R_elder' (kR_ HO_386006.out) (Kd.R_base ho0) hb); have n3_ := a0_ (Kd.R_elder' (kR_ HO_386007.out) (Kd.R_base ho0) hb); have n4_ := a0_ (Kd.R_elder' (kR_ HO_399006.out) (Kd.R_base ho0) hb); have n5_ := a0_ (Kd.R_elder' (kR_ HO_399007.out) (Kd.R_base ho0) hb); have n6_ := a0_ (Kd.R_elder' (kR_ HO_419006.out) (Kd.R_base ho0) hb); have n7_ := a0_ (Kd.R_elder' (kR_ HO_419007.out) (Kd.R_base ho0) hb); have n8_ := a0_ (Kd.R_elder' (kR_ HO428.out) (Kd.R_base ho0) hb); have n9_ := a0_ (Kd.R_elder' (kR_ HO431.out) (Kd.R_base ho0) hb); have n10_ := a0_ (Kd.R_lower (Kd.R_new' (Kd.R_new' (Kd.R_new' (Kd.R_new' (Kd.R_new' (Kd.R_new' (Kd.R_new' (Kd.R_new' (Kd.R_new' (Kd.R_new' ho0 (Kd.R_lt (kR_ HO_13.out))) (Kd.R_lt (kR_ HO_14.out))) (Kd.R_lt (kR_ HO_386006.out))) (Kd.R_lt (kR_ HO_386007.out))) (Kd.R_lt (kR_ HO_399006.out))) (Kd.R_lt (kR_ HO_399007.out))) (Kd.R_lt (kR_ HO_419006.out))) (Kd.R_lt (kR_ HO_419007.out))) (Kd.R_lt (kR_ HO428.out))) (Kd.R_lt (kR_ HO431.out))) (below_size bq1_)); have n11_ := a0_ (bkB_ BK350 hb); have n12_ := a0_ (bkB_ BK385 hb); have n13_ := a0_ (bkB_ BK398 hb); have n14_ := a0_ (bkB_ BK418 hb); have n15_ := a0_ (below_step bq1_ hb); clear HO_13; clear HO_14; clear HO_386006; clear HO_386007; clear HO_399006; clear HO_399007; clear HO_419006; clear HO_419007; clear HO428; clear HO431; clear BK350; clear BK385; clear BK398; clear BK418; clear HB; have HO_13 := n0_; have HO_14 := n1_; have HO_386006 := n2_; have HO_386007 := n3_; have HO_399006 := n4_; have HO_399007 := n5_; have HO_419006 := n6_; have HO_419007 := n7_; have HO428 := n8_; have HO431 := n9_; have HO435 := n10_; have BK350 := n11_; have BK385 := n12_; have BK398 := n13_; have BK418 := n14_; have HB := n15_; clear n0_ n1_ n2_ n3_ n4_ n5_ n6_ n7_ n8_ n9_ n10_ n11_ n12_ n13_ n14_ n15_; (try clear hb); (try clear hb2); (try clear hk); (try clear hi); (try clear ho0); obtain ⟨Ao252, co252, eo252⟩ := Kd.R_slice HO435.out; subst eo252) | ((with_reducible refine gate_callee (f := 23) rfl ?_); refine goesL_ (some 79) rfl rfl Tryz.func23 (by kernel_rfl) rfl #[.slice Ao62 t399.length co62, .slice Ao252 t433.length co252] rfl argsS_ ?_; (with_reducible refine (laws_eqRecordS.calls kj30 _ _ t399 _ _ t433 false _ ?side1 ?side2 ?side3 ?side4 A95.out).mono ?_); (case side1 => exact kD_ (Kd.R_reads' HO_13.out).2.2); (case side2 => exact (Kd.R_reads' HO_13.out).2.1); (case side3 => exact kD_ (Kd.R_reads' HO435.out).2.2); (case side4 => exact (Kd.R_reads' HO435.out).2.1); rintro e w253 ⟨rfl, hb⟩; refine ⟨_, rfl, ?_⟩; replace HO_13 := a0_ (Kd.R_below (kR_ HO_13.out) hb); replace HO_14 := a0_ (Kd.R_below (kR_ HO_14.out) hb); replace HO_386006 := a0_ (Kd.R_below (kR_ HO_386006.out) hb); replace HO_386007 := a0_ (Kd.R_below (kR_ HO_386007.out) hb); replace HO_399006 := a0_ (Kd.R_below (kR_ HO_399006.out) hb); replace HO_399007 := a0_ (Kd.R_below (kR_ HO_399007.out) hb); replace HO_419006 := a0_ (Kd.R_below (kR_ HO_419006.out) hb); replace HO_419007 := a0_ (Kd.R_below (kR_ HO_419007.out) hb); replace HO428 := a0_ (Kd.R_below (kR_ HO428.out) hb); replace HO431 := a0_ (Kd.R_below (kR_ HO431.out) hb); replace HO435 := a0_ (Kd.R_below (kR_ HO435.out) hb); replace BK350 := a0_ (bkB_ BK350 hb); replace BK385 := a0_ (bkB_ BK385 hb); replace BK398 := a0_ (bkB_ BK398 hb); replace BK418 := a0_ (bkB_ BK418 hb); replace HB := a0_ (below_step bq1_ hb); (try clear hb); (try clear hb2); (try clear hk); (try clear hi)))
    go_ret
    exact ⟨rr_, bq1_⟩
   subst c96
   rw [if_pos rfl] at H
   obtain ⟨t437, A970, H⟩ := Option.bind_eq_some_iff.mp H
   have A97 := a0_ A970
   clear A970
   obtain ⟨t440, A980, H⟩ := Option.bind_eq_some_iff.mp H
   have A98 := a0_ A980
   clear A980
   by_cases c99 : t440 = true
   case neg =>
    replace c99 := Bool.eq_false_iff.mpr c99
    subst c99
    rw [if_neg (show ¬ (false = true) by decide)] at H
    obtain rfl := Option.some.inj H
    try go_wp2
    replace HO_13 := a0_ (Kd.R_drew HO_13.out)
    replace HO_14 := a0_ (Kd.R_drew HO_14.out)
    replace HO_386006 := a0_ (Kd.R_drew HO_386006.out)
    replace HO_386007 := a0_ (Kd.R_drew HO_386007.out)
    replace HO_399006 := a0_ (Kd.R_drew HO_399006.out)
    replace HO_399007 := a0_ (Kd.R_drew HO_399007.out)
    replace HO_419006 := a0_ (Kd.R_drew HO_419006.out)
    replace HO_419007 := a0_ (Kd.R_drew HO_419007.out)
    replace BK350 := a0_ (blk_drew BK350.out)
    replace BK385 := a0_ (blk_drew BK385.out)
    replace BK398 := a0_ (blk_drew BK398.out)
    replace BK418 := a0_ (blk_drew BK418.out)
    replace HB := a0_ (below_drew1 HB.out)
    refine start_ (n := 5) (S := fun w' => w'.cell? ⟨gb398, 0, none⟩ = some (.int .i64 t386) ∧ w'.cell? ⟨gb398, 1, none⟩ = some (.bool t387) ∧ w'.cell? ⟨gb398, 2, none⟩ = some (.bool t388) ∧ w'.cell? ⟨gb398, 3, none⟩ = some (.int .i64 t389) ∧ w'.cell? ⟨gb398, 4, none⟩ = some (.string t390) ∧ w'.cell? ⟨gb398, 5, none⟩ = some (.int .i64 t391) ∧ w'.cell? ⟨gb398, 6, none⟩ = some (.slice Ao57 t392.length co57) ∧ w'.cell? ⟨gb398, 7, none⟩ = some (.slice Ao58 t395.length co58) ∧ w'.cell? ⟨gb350, 0, none⟩ = some (.int .i64 a0_0) ∧ w'.cell? ⟨gb350, 1, none⟩ = some (.bool a0_1) ∧ w'.cell? ⟨gb350, 2, none⟩ = some (.bool a0_2) ∧ w'.cell? ⟨gb350, 3, none⟩ = some (.int .i64 a0_3) ∧ w'.cell? ⟨gb350, 4, none⟩ = some (.string a0_4) ∧ w'.cell? ⟨gb350, 5, none⟩ = some (.int .i64 a0_5) ∧ w'.cell? ⟨gb350, 6, none⟩ = some (.slice A0_6 l0_6.length c0_6) ∧ w'.cell? ⟨gb350, 7, none⟩ = some (.slice A0_7 l0_7.length c0_7)) (ds := []) #[false, false, false, false, false] (by kernel_rfl) rfl rfl ⟨(blk_cell BK398.out 0).trans rfl, (blk_cell BK398.out 1).trans rfl, (blk_cell BK398.out 2).trans rfl, (blk_cell BK398.out 3).trans rfl, (blk_cell BK398.out 4).trans rfl, (blk_cell BK398.out 5).trans rfl, (blk_cell BK398.out 6).trans rfl, (blk_cell BK398.out 7).trans rfl, (blk_cell BK350.out 0).trans rfl, (blk_cell BK350.out 1).trans rfl, (blk_cell BK350.out 2).trans rfl, (blk_cell BK350.out 3).trans rfl, (blk_cell BK350.out 4).trans rfl, (blk_cell BK350.out 5).trans rfl, (blk_cell BK350.out 6).trans rfl, (blk_cell BK350.out 7).trans rfl⟩ (fun hHeld => ?_)
    generalize wc.drew = w235 at HO_13 HO_14 HO_386006 HO_386007 HO_399006 HO_399007 HO_419006 HO_419007 BK350 BK385 BK398 BK418 HB hHeld ⊢
    refine take_ (i := 0) (N := some 71) (v := ?_) (a' := ?_) #[true, false, false, false, false] rfl rfl (by kernel_rfl) (fun _ _ _ h => h) (Or.inl ⟨by rfl, ?_⟩) hHeld ?_ ?_
    rotate_left
    · rintro w' ⟨s0, s1, s2, s3, s4, s5, s6, s7, s8, s9, s10, s11, s12, s13, s14, s15⟩
      go_simp
      with_reducible rfl
    rotate_left
    · simp only [Act.put, List.setIfInBounds_toArray, List.set_cons_zero, List.set_cons_succ, i64_w, i32_w]
      rfl
    refine take_ (i := 1) (N := some 72) (v := ?_) (a' := ?_) #[true, true, false, false, false] rfl rfl (by kernel_rfl) (fun _ _ _ h => h) (Or.inl ⟨by rfl, ?_⟩) hHeld ?_ ?_
    rotate_left
    · rintro w' ⟨s0, s1, s2, s3, s4, s5, s6, s7, s8, s9, s10, s11, s12, s13, s14, s15⟩
      go_simp
      with_reducible rfl
    rotate_left
    · simp only [Act.put, List.setIfInBounds_toArray, List.set_cons_zero, List.set_cons_succ, i64_w, i32_w]
      rfl
    refine one_ (i := 2) (N := some 73) #[true, true, true, false, false] rfl rfl (by kernel_rfl) (by decide) (fun K hK => ?_)
    refine goes_ Tryz.func20 (by kernel_rfl) rfl #[.agg #[.int .i64 a0_0, .bool a0_1, .bool a0_2, .int .i64 a0_3, .string a0_4, .int .i64 a0_5, .slice A0_6 l0_6.length c0_6, .slice A0_7 l0_7.length c0_7]] (by rfl) rfl rfl argsS_ ?_
    with_reducible refine (laws_toMessage.calls kj30 a0_0 a0_1 a0_2 a0_3 a0_4 a0_5 _ _ l0_6 _ _ l0_7 t420 t421 t422 t423 t424 t425 t426 t429 _ ?side1 ?side2 ?side3 ?side4 A91.out).mono ?_
    (case side1 => exact kC_ HR0_6.out HB.out)
    (case side2 => exact HC0_6.out)
    (case side3 => exact kC_ HR0_7.out HB.out)
    (case side4 => exact HC0_7.out)
    rintro e w236 ⟨v427, v430, rfl, ho0, ho1, hb⟩
    refine ⟨_, rfl, ?_⟩
    have n0_ := a0_ (Kd.R_mono (Kd.R_told (Kd.R_told (Kd.R_old (kR_ HO_13.out) hb) (Kd.R_base ho0)) (Kd.R_base ho1)) (fun _ h_ => h_.1))
    have n1_ := a0_ (Kd.R_mono (Kd.R_told (Kd.R_told (Kd.R_old (kR_ HO_14.out) hb) (Kd.R_base ho0)) (Kd.R_base ho1)) (fun _ h_ => h_.1))
    have n2_ := a0_ (Kd.R_mono (Kd.R_told (Kd.R_told (Kd.R_old (kR_ HO_386006.out) hb) (Kd.R_base ho0)) (Kd.R_base ho1)) (fun _ h_ => h_.1))
    have n3_ := a0_ (Kd.R_mono (Kd.R_told (Kd.R_told (Kd.R_old (kR_ HO_386007.out) hb) (Kd.R_base ho0)) (Kd.R_base ho1)) (fun _ h_ => h_.1))
    have n4_ := a0_ (Kd.R_mono (Kd.R_told (Kd.R_told (Kd.R_old (kR_ HO_399006.out) hb) (Kd.R_base ho0)) (Kd.R_base ho1)) (fun _ h_ => h_.1))
    have n5_ := a0_ (Kd.R_mono (Kd.R_told (Kd.R_told (Kd.R_old (kR_ HO_399007.out) hb) (Kd.R_base ho0)) (Kd.R_base ho1)) (fun _ h_ => h_.1))
    have n6_ := a0_ (Kd.R_mono (Kd.R_told (Kd.R_told (Kd.R_old (kR_ HO_419006.out) hb) (Kd.R_base ho0)) (Kd.R_base ho1)) (fun _ h_ => h_.1))
    have n7_ := a0_ (Kd.R_mono (Kd.R_told (Kd.R_told (Kd.R_old (kR_ HO_419007.out) hb) (Kd.R_base ho0)) (Kd.R_base ho1)) (fun _ h_ => h_.1))
    have n8_ := a0_ (Kd.R_lower (Kd.R_new' (Kd.R_new' (Kd.R_new' (Kd.R_new' (Kd.R_new' (Kd.R_new' (Kd.R_new' (Kd.R_new' ho0 (Kd.R_lt (kR_ HO_13.out))) (Kd.R_lt (kR_ HO_14.out))) (Kd.R_lt (kR_ HO_386006.out))) (Kd.R_lt (kR_ HO_386007.out))) (Kd.R_lt (kR_ HO_399006.out))) (Kd.R_lt (kR_ HO_399007.out))) (Kd.R_lt (kR_ HO_419006.out))) (Kd.R_lt (kR_ HO_419007.out))) (below_size bq1_))
    have n9_ := a0_ (Kd.R_lower (Kd.R_new' (Kd.R_new' (Kd.R_new' (Kd.R_new' (Kd.R_new' (Kd.R_new' (Kd.R_new' (Kd.R_new' ho1 (Kd.R_lt (kR_ HO_13.out))) (Kd.R_lt (kR_ HO_14.out))) (Kd.R_lt (kR_ HO_386006.out))) (Kd.R_lt (kR_ HO_386007.out))) (Kd.R_lt (kR_ HO_399006.out))) (Kd.R_lt (kR_ HO_399007.out))) (Kd.R_lt (kR_ HO_419006.out))) (Kd.R_lt (kR_ HO_419007.out))) (below_size bq1_))
    have n10_ := a0_ (bkB_ BK350 hb)
    have n11_ := a0_ (bkB_ BK385 hb)
    have n12_ := a0_ (bkB_ BK398 hb)
    have n13_ := a0_ (bkB_ BK418 hb)
    have n14_ := a0_ (below_step bq1_ hb)
    clear HO_13
    clear HO_14
    clear HO_386006
    clear HO_386007
    clear HO_399006
    clear HO_399007
    clear HO_419006
    clear HO_419007
    clear BK350
    clear BK385
    clear BK398
    clear BK418
    clear HB
    have HO_13 := n0_
    have HO_14 := n1_
    have HO_386006 := n2_
    have HO_386007 := n3_
    have HO_399006 := n4_
    have HO_399007 := n5_
    have HO_419006 := n6_
    have HO_419007 := n7_
    have HO428 := n8_
    have HO431 := n9_
    have BK350 := n10_
    have BK385 := n11_
    have BK398 := n12_
    have BK418 := n13_
    have HB := n14_
    clear n0_ n1_ n2_ n3_ n4_ n5_ n6_ n7_ n8_ n9_ n10_ n11_ n12_ n13_ n14_
    (try clear hb)
    (try clear hb2)
    (try clear hk)
    (try clear hi)
    (try clear ho0)
    (try clear ho1)
    obtain ⟨Ao237, co237, eo237⟩ := Kd.R_slice HO428.out
    (first | subst eo237 | (injection eo237 with f1_ f2_ f3_; have f4_ := f1_.symm; have f5_ := f3_.symm; clear f1_ f2_ f3_; subst f4_; subst f5_))
    obtain ⟨Ao238, co238, eo238⟩ := Kd.R_slice HO431.out
    (first | subst eo238 | (injection eo238 with f1_ f2_ f3_; have f4_ := f1_.symm; have f5_ := f3_.symm; clear f1_ f2_ f3_; subst f4_; subst f5_))
    refine hK.out _ _ ⟨(blk_cell BK398.out 0).trans rfl, (blk_cell BK398.out 1).trans rfl, (blk_cell BK398.out 2).trans rfl, (blk_cell BK398.out 3).trans rfl, (blk_cell BK398.out 4).trans rfl, (blk_cell BK398.out 5).trans rfl, (blk_cell BK398.out 6).trans rfl, (blk_cell BK398.out 7).trans rfl, (blk_cell BK350.out 0).trans rfl, (blk_cell BK350.out 1).trans rfl, (blk_cell BK350.out 2).trans rfl, (blk_cell BK350.out 3).trans rfl, (blk_cell BK350.out 4).trans rfl, (blk_cell BK350.out 5).trans rfl, (blk_cell BK350.out 6).trans rfl, (blk_cell BK350.out 7).trans rfl⟩ (fun hHeld => ?_)
    clear hK K
    refine normS_ ?_
    refine one_ (i := 3) (N := some 74) #[true, true, true, true, false] rfl rfl (by kernel_rfl) (by decide) (fun K hK => ?_)
    refine goes_ Tryz.func14 (by kernel_rfl) rfl #[.agg #[.int .i64 t386, .bool t387, .bool t388, .int .i64 t389, .string t390, .int .i64 t391, .slice Ao57 t392.length co57, .slice Ao58 t395.length co58], .agg #[.int .i64 t420, .bool t421, .bool t422, .int .i64 t423, .string t424, .int .i64 t425, .slice Ao237 t426.length co237, .slice Ao238 t429.length co238]] (by rfl) rfl rfl argsS_ ?_
    with_reducible refine (laws_eqMessage.calls kj30 t386 t387 t388 t389 t390 t391 _ _ t392 _ _ t395 t420 t421 t422 t423 t424 t425 _ _ t426 _ _ t429 true _ ?side1 ?side2 ?side3 ?side4 ?side5 ?side6 ?side7 ?side8 A92.out).mono ?_
    (case side1 => exact kD_ (Kd.R_reads' HO_399006.out).2.2)
    (case side2 => exact (Kd.R_reads' HO_399006.out).2.1)
    (case side3 => exact kD_ (Kd.R_reads' HO_399007.out).2.2)
    (case side4 => exact (Kd.R_reads' HO_399007.out).2.1)
    (case side5 => exact kD_ (Kd.R_reads' HO428.out).2.2)
    (case side6 => exact (Kd.R_reads' HO428.out).2.1)
    (case side7 => exact kD_ (Kd.R_reads' HO431.out).2.2)
    (case side8 => exact (Kd.R_reads' HO431.out).2.1)
    rintro e w239 ⟨rfl, hb⟩
    refine ⟨_, rfl, ?_⟩
    replace HO_13 := a0_ (Kd.R_below (kR_ HO_13.out) hb)
    replace HO_14 := a0_ (Kd.R_below (kR_ HO_14.out) hb)
    replace HO_386006 := a0_ (Kd.R_below (kR_ HO_386006.out) hb)
    replace HO_386007 := a0_ (Kd.R_below (kR_ HO_386007.out) hb)
    replace HO_399006 := a0_ (Kd.R_below (kR_ HO_399006.out) hb)
    replace HO_399007 := a0_ (Kd.R_below (kR_ HO_399007.out) hb)
    replace HO_419006 := a0_ (Kd.R_below (kR_ HO_419006.out) hb)
    replace HO_419007 := a0_ (Kd.R_below (kR_ HO_419007.out) hb)
    replace HO428 := a0_ (Kd.R_below (kR_ HO428.out) hb)
    replace HO431 := a0_ (Kd.R_below (kR_ HO431.out) hb)
    replace BK350 := a0_ (bkB_ BK350 hb)
    replace BK385 := a0_ (bkB_ BK385 hb)
    replace BK398 := a0_ (bkB_ BK398 hb)
    replace BK418 := a0_ (bkB_ BK418 hb)
    replace HB := a0_ (below_step bq1_ hb)
    (try clear hb)
    (try clear hb2)
    (try clear hk)
    (try clear hi)
    refine hK.out _ _ ⟨(blk_cell BK398.out 0).trans rfl, (blk_cell BK398.out 1).trans rfl, (blk_cell BK398.out 2).trans rfl, (blk_cell BK398.out 3).trans rfl, (blk_cell BK398.out 4).trans rfl, (blk_cell BK398.out 5).trans rfl, (blk_cell BK398.out 6).trans rfl, (blk_cell BK398.out 7).trans rfl, (blk_cell BK350.out 0).trans rfl, (blk_cell BK350.out 1).trans rfl, (blk_cell BK350.out 2).trans rfl, (blk_cell BK350.out 3).trans rfl, (blk_cell BK350.out 4).trans rfl, (blk_cell BK350.out 5).trans rfl, (blk_cell BK350.out 6).trans rfl, (blk_cell BK350.out 7).trans rfl⟩ (fun hHeld => ?_)
    clear hK K
    refine normS_ ?_
    refine pure_ (i := 4) (N := some 75) (v := ?_) (a' := ?_) #[true, true, true, true, true] rfl rfl (by kernel_rfl) (fun _ _ _ h => h) (Or.inl ⟨by rfl, ?_⟩) ?_ ?_
    rotate_left
    · intro w'
      go_simp
      with_reducible rfl
    rotate_left
    · simp only [Act.put, List.setIfInBounds_toArray, List.set_cons_zero, List.set_cons_succ, i64_w, i32_w]
      rfl
    refine done_ (by kernel_rfl) ?_
    try go_wp2_with (first | ((with_reducible refine gate_callee (f := 21) rfl ?_); refine goesL_ (some 78) rfl rfl Tryz.func21 (by kernel_rfl) rfl #[.slice A2 l2.length c2] rfl argsS_ ?_; (with_reducible refine (laws_toRecordS.calls kj30 _ _ l2 t433 _ ?side1 ?side2 A94.out).mono ?_); (case side1 => exact kC_ HR2.out HB.out); (case side2 => exact HC2.out); rintro e w240 ⟨v434, rfl, ho0, hb⟩; refine ⟨_, rfl, ?_⟩; have n0_ := a0_ (Kd.R_elder' (kR_ HO_13.out) (Kd.R_base ho0) hb); have n1_ := a0_ (Kd.R_elder' (kR_ HO_14.out) (Kd.R_base ho0) hb); have n2_ := a0_ (Kd.R_elder' (kR_ HO_386006.out) (Kd.R_base ho0) hb); have n3_ := a0_ (Kd.R_elder' (kR_ HO_386007.out) (Kd.R_base ho0) hb); have n4_ := a0_ (Kd.R_elder' (kR_ HO_399006.out) (Kd.R_base ho0) hb); have n5_ := a0_ (Kd.R_elder' (kR_ HO_399007.out) (Kd.R_base ho0) hb); have n6_ := a0_ (Kd.R_elder' (kR_ HO_419006.out) (Kd.R_base ho0) hb); have n7_ := a0_ (Kd.R_elder' (kR_ HO_419007.out) (Kd.R_base ho0) hb); have n8_ := a0_ (Kd.R_elder' (kR_ HO428.out) (Kd.R_base ho0) hb); have n9_ := a0_ (Kd.R_elder' (kR_ HO431.out) (Kd.R_base ho0) hb); have n10_ := a0_ (Kd.R_lower (Kd.R_new' (Kd.R_new' (Kd.R_new' (Kd.R_new' (Kd.R_new' (Kd.R_new' (Kd.R_new' (Kd.R_new' (Kd.R_new' (Kd.R_new' ho0 (Kd.R_lt (kR_ HO_13.out))) (Kd.R_lt (kR_ HO_14.out))) (Kd.R_lt (kR_ HO_386006.out))) (Kd.R_lt (kR_ HO_386007.out))) (Kd.R_lt (kR_ HO_399006.out))) (Kd.R_lt (kR_ HO_399007.out))) (Kd.R_lt (kR_ HO_419006.out))) (Kd.R_lt (kR_ HO_419007.out))) (Kd.R_lt (kR_ HO428.out))) (Kd.R_lt (kR_ HO431.out))) (below_size bq1_)); have n11_ := a0_ (bkB_ BK350 hb); have n12_ := a0_ (bkB_ BK385 hb); have n13_ := a0_ (bkB_ BK398 hb); have n14_ := a0_ (bkB_ BK418 hb); have n15_ := a0_ (below_step bq1_ hb); clear HO_13; clear HO_14; clear HO_386006; clear HO_386007; clear HO_399006; clear HO_399007; clear HO_419006; clear HO_419007; clear HO428; clear HO431; clear BK350; clear BK385; clear BK398; clear BK418; clear HB; have HO_13 := n0_; have HO_14 := n1_; have HO_386006 := n2_; have HO_386007 := n3_; have HO_399006 := n4_; have HO_399007 := n5_; have HO_419006 := n6_; have HO_419007 := n7_; have HO428 := n8_; have HO431 := n9_; have HO435 := n10_; have BK350 := n11_; have BK385 := n12_; have BK398 := n13_; have BK418 := n14_; have HB := n15_; clear n0_ n1_ n2_ n3_ n4_ n5_ n6_ n7_ n8_ n9_ n10_ n11_ n12_ n13_ n14_ n15_; (try clear hb); (try clear hb2); (try clear hk); (try clear hi); (try clear ho0); obtain ⟨Ao241, co241, eo241⟩ := Kd.R_slice HO435.out; subst eo241) | ((with_reducible refine gate_callee (f := 23) rfl ?_); refine goesL_ (some 79) rfl rfl Tryz.func23 (by kernel_rfl) rfl #[.slice Ao62 t399.length co62, .slice Ao241 t433.length co241] rfl argsS_ ?_; (with_reducible refine (laws_eqRecordS.calls kj30 _ _ t399 _ _ t433 true _ ?side1 ?side2 ?side3 ?side4 A95.out).mono ?_); (case side1 => exact kD_ (Kd.R_reads' HO_13.out).2.2); (case side2 => exact (Kd.R_reads' HO_13.out).2.1); (case side3 => exact kD_ (Kd.R_reads' HO435.out).2.2); (case side4 => exact (Kd.R_reads' HO435.out).2.1); rintro e w242 ⟨rfl, hb⟩; refine ⟨_, rfl, ?_⟩; replace HO_13 := a0_ (Kd.R_below (kR_ HO_13.out) hb); replace HO_14 := a0_ (Kd.R_below (kR_ HO_14.out) hb); replace HO_386006 := a0_ (Kd.R_below (kR_ HO_386006.out) hb); replace HO_386007 := a0_ (Kd.R_below (kR_ HO_386007.out) hb); replace HO_399006 := a0_ (Kd.R_below (kR_ HO_399006.out) hb); replace HO_399007 := a0_ (Kd.R_below (kR_ HO_399007.out) hb); replace HO_419006 := a0_ (Kd.R_below (kR_ HO_419006.out) hb); replace HO_419007 := a0_ (Kd.R_below (kR_ HO_419007.out) hb); replace HO428 := a0_ (Kd.R_below (kR_ HO428.out) hb); replace HO431 := a0_ (Kd.R_below (kR_ HO431.out) hb); replace HO435 := a0_ (Kd.R_below (kR_ HO435.out) hb); replace BK350 := a0_ (bkB_ BK350 hb); replace BK385 := a0_ (bkB_ BK385 hb); replace BK398 := a0_ (bkB_ BK398 hb); replace BK418 := a0_ (bkB_ BK418 hb); replace HB := a0_ (below_step bq1_ hb); (try clear hb); (try clear hb2); (try clear hk); (try clear hi)) | ((with_reducible refine gate_callee (f := 21) rfl ?_); refine goesL_ (some 83) rfl rfl Tryz.func21 (by kernel_rfl) rfl #[.slice A3 l3.length c3] rfl argsS_ ?_; (with_reducible refine (laws_toRecordS.calls kj30 _ _ l3 t437 _ ?side1 ?side2 A97.out).mono ?_); (case side1 => exact kC_ HR3.out HB.out); (case side2 => exact HC3.out); rintro e w243 ⟨v438, rfl, ho0, hb⟩; refine ⟨_, rfl, ?_⟩; have n0_ := a0_ (Kd.R_elder' (kR_ HO_13.out) (Kd.R_base ho0) hb); have n1_ := a0_ (Kd.R_elder' (kR_ HO_14.out) (Kd.R_base ho0) hb); have n2_ := a0_ (Kd.R_elder' (kR_ HO_386006.out) (Kd.R_base ho0) hb); have n3_ := a0_ (Kd.R_elder' (kR_ HO_386007.out) (Kd.R_base ho0) hb); have n4_ := a0_ (Kd.R_elder' (kR_ HO_399006.out) (Kd.R_base ho0) hb); have n5_ := a0_ (Kd.R_elder' (kR_ HO_399007.out) (Kd.R_base ho0) hb); have n6_ := a0_ (Kd.R_elder' (kR_ HO_419006.out) (Kd.R_base ho0) hb); have n7_ := a0_ (Kd.R_elder' (kR_ HO_419007.out) (Kd.R_base ho0) hb); have n8_ := a0_ (Kd.R_elder' (kR_ HO428.out) (Kd.R_base ho0) hb); have n9_ := a0_ (Kd.R_elder' (kR_ HO431.out) (Kd.R_base ho0) hb); have n10_ := a0_ (Kd.R_elder' (kR_ HO435.out) (Kd.R_base ho0) hb); have n11_ := a0_ (Kd.R_lower (Kd.R_new' (Kd.R_new' (Kd.R_new' (Kd.R_new' (Kd.R_new' (Kd.R_new' (Kd.R_new' (Kd.R_new' (Kd.R_new' (Kd.R_new' (Kd.R_new' ho0 (Kd.R_lt (kR_ HO_13.out))) (Kd.R_lt (kR_ HO_14.out))) (Kd.R_lt (kR_ HO_386006.out))) (Kd.R_lt (kR_ HO_386007.out))) (Kd.R_lt (kR_ HO_399006.out))) (Kd.R_lt (kR_ HO_399007.out))) (Kd.R_lt (kR_ HO_419006.out))) (Kd.R_lt (kR_ HO_419007.out))) (Kd.R_lt (kR_ HO428.out))) (Kd.R_lt (kR_ HO431.out))) (Kd.R_lt (kR_ HO435.out))) (below_size bq1_)); have n12_ := a0_ (bkB_ BK350 hb); have n13_ := a0_ (bkB_ BK385 hb); have n14_ := a0_ (bkB_ BK398 hb); have n15_ := a0_ (bkB_ BK418 hb); have n16_ := a0_ (below_step bq1_ hb); clear HO_13; clear HO_14; clear HO_386006; clear HO_386007; clear HO_399006; clear HO_399007; clear HO_419006; clear HO_419007; clear HO428; clear HO431; clear HO435; clear BK350; clear BK385; clear BK398; clear BK418; clear HB; have HO_13 := n0_; have HO_14 := n1_; have HO_386006 := n2_; have HO_386007 := n3_; have HO_399006 := n4_; have HO_399007 := n5_; have HO_419006 := n6_; have HO_419007 := n7_; have HO428 := n8_; have HO431 := n9_; have HO435 := n10_; have HO439 := n11_; have BK350 := n12_; have BK385 := n13_; have BK398 := n14_; have BK418 := n15_; have HB := n16_; clear n0_ n1_ n2_ n3_ n4_ n5_ n6_ n7_ n8_ n9_ n10_ n11_ n12_ n13_ n14_ n15_ n16_; (try clear hb); (try clear hb2); (try clear hk); (try clear hi); (try clear ho0); obtain ⟨Ao244, co244, eo244⟩ := Kd.R_slice HO439.out; subst eo244) | ((with_reducible refine gate_callee (f := 23) rfl ?_); refine goesL_ (some 84) rfl rfl Tryz.func23 (by kernel_rfl) rfl #[.slice Ao63 t402.length co63, .slice Ao244 t437.length co244] rfl argsS_ ?_; (with_reducible refine (laws_eqRecordS.calls kj30 _ _ t402 _ _ t437 false _ ?side1 ?side2 ?side3 ?side4 A98.out).mono ?_); (case side1 => exact kD_ (Kd.R_reads' HO_14.out).2.2); (case side2 => exact (Kd.R_reads' HO_14.out).2.1); (case side3 => exact kD_ (Kd.R_reads' HO439.out).2.2); (case side4 => exact (Kd.R_reads' HO439.out).2.1); rintro e w245 ⟨rfl, hb⟩; refine ⟨_, rfl, ?_⟩; replace HO_13 := a0_ (Kd.R_below (kR_ HO_13.out) hb); replace HO_14 := a0_ (Kd.R_below (kR_ HO_14.out) hb); replace HO_386006 := a0_ (Kd.R_below (kR_ HO_386006.out) hb); replace HO_386007 := a0_ (Kd.R_below (kR_ HO_386007.out) hb); replace HO_399006 := a0_ (Kd.R_below (kR_ HO_399006.out) hb); replace HO_399007 := a0_ (Kd.R_below (kR_ HO_399007.out) hb); replace HO_419006 := a0_ (Kd.R_below (kR_ HO_419006.out) hb); replace HO_419007 := a0_ (Kd.R_below (kR_ HO_419007.out) hb); replace HO428 := a0_ (Kd.R_below (kR_ HO428.out) hb); replace HO431 := a0_ (Kd.R_below (kR_ HO431.out) hb); replace HO435 := a0_ (Kd.R_below (kR_ HO435.out) hb); replace HO439 := a0_ (Kd.R_below (kR_ HO439.out) hb); replace BK350 := a0_ (bkB_ BK350 hb); replace BK385 := a0_ (bkB_ BK385 hb); replace BK398 := a0_ (bkB_ BK398 hb); replace BK418 := a0_ (bkB_ BK418 hb); replace HB := a0_ (below_step bq1_ hb); (try clear hb); (try clear hb2); (try clear hk); (try clear hi)))
    go_ret
    exact ⟨rr_, bq1_⟩
   subst c99
   rw [if_pos rfl] at H
   obtain ⟨⟨t441, t442, t443⟩, A1000, H⟩ := Option.bind_eq_some_iff.mp H
   have A100 := a0_ A1000
   clear A1000
   obtain ⟨⟨t444, t445⟩, A1010, H⟩ := Option.bind_eq_some_iff.mp H
   have A101 := a0_ A1010
   clear A1010
   obtain ⟨⟨t446, t447⟩, A1020, H⟩ := Option.bind_eq_some_iff.mp H
   have A102 := a0_ A1020
   clear A1020
   have HC103 := a0_ H
   clear H
   try go_wp2
   replace HO_13 := a0_ (Kd.R_drew HO_13.out)
   replace HO_14 := a0_ (Kd.R_drew HO_14.out)
   replace HO_386006 := a0_ (Kd.R_drew HO_386006.out)
   replace HO_386007 := a0_ (Kd.R_drew HO_386007.out)
   replace HO_399006 := a0_ (Kd.R_drew HO_399006.out)
   replace HO_399007 := a0_ (Kd.R_drew HO_399007.out)
   replace HO_419006 := a0_ (Kd.R_drew HO_419006.out)
   replace HO_419007 := a0_ (Kd.R_drew HO_419007.out)
   replace BK350 := a0_ (blk_drew BK350.out)
   replace BK385 := a0_ (blk_drew BK385.out)
   replace BK398 := a0_ (blk_drew BK398.out)
   replace BK418 := a0_ (blk_drew BK418.out)
   replace HB := a0_ (below_drew1 HB.out)
   refine start_ (n := 5) (S := fun w' => w'.cell? ⟨gb398, 0, none⟩ = some (.int .i64 t386) ∧ w'.cell? ⟨gb398, 1, none⟩ = some (.bool t387) ∧ w'.cell? ⟨gb398, 2, none⟩ = some (.bool t388) ∧ w'.cell? ⟨gb398, 3, none⟩ = some (.int .i64 t389) ∧ w'.cell? ⟨gb398, 4, none⟩ = some (.string t390) ∧ w'.cell? ⟨gb398, 5, none⟩ = some (.int .i64 t391) ∧ w'.cell? ⟨gb398, 6, none⟩ = some (.slice Ao57 t392.length co57) ∧ w'.cell? ⟨gb398, 7, none⟩ = some (.slice Ao58 t395.length co58) ∧ w'.cell? ⟨gb350, 0, none⟩ = some (.int .i64 a0_0) ∧ w'.cell? ⟨gb350, 1, none⟩ = some (.bool a0_1) ∧ w'.cell? ⟨gb350, 2, none⟩ = some (.bool a0_2) ∧ w'.cell? ⟨gb350, 3, none⟩ = some (.int .i64 a0_3) ∧ w'.cell? ⟨gb350, 4, none⟩ = some (.string a0_4) ∧ w'.cell? ⟨gb350, 5, none⟩ = some (.int .i64 a0_5) ∧ w'.cell? ⟨gb350, 6, none⟩ = some (.slice A0_6 l0_6.length c0_6) ∧ w'.cell? ⟨gb350, 7, none⟩ = some (.slice A0_7 l0_7.length c0_7)) (ds := []) #[false, false, false, false, false] (by kernel_rfl) rfl rfl ⟨(blk_cell BK398.out 0).trans rfl, (blk_cell BK398.out 1).trans rfl, (blk_cell BK398.out 2).trans rfl, (blk_cell BK398.out 3).trans rfl, (blk_cell BK398.out 4).trans rfl, (blk_cell BK398.out 5).trans rfl, (blk_cell BK398.out 6).trans rfl, (blk_cell BK398.out 7).trans rfl, (blk_cell BK350.out 0).trans rfl, (blk_cell BK350.out 1).trans rfl, (blk_cell BK350.out 2).trans rfl, (blk_cell BK350.out 3).trans rfl, (blk_cell BK350.out 4).trans rfl, (blk_cell BK350.out 5).trans rfl, (blk_cell BK350.out 6).trans rfl, (blk_cell BK350.out 7).trans rfl⟩ (fun hHeld => ?_)
   generalize wc.drew = w104 at HO_13 HO_14 HO_386006 HO_386007 HO_399006 HO_399007 HO_419006 HO_419007 BK350 BK385 BK398 BK418 HB hHeld ⊢
   refine take_ (i := 0) (N := some 71) (v := ?_) (a' := ?_) #[true, false, false, false, false] rfl rfl (by kernel_rfl) (fun _ _ _ h => h) (Or.inl ⟨by rfl, ?_⟩) hHeld ?_ ?_
   rotate_left
   · rintro w' ⟨s0, s1, s2, s3, s4, s5, s6, s7, s8, s9, s10, s11, s12, s13, s14, s15⟩
     go_simp
     with_reducible rfl
   rotate_left
   · simp only [Act.put, List.setIfInBounds_toArray, List.set_cons_zero, List.set_cons_succ, i64_w, i32_w]
     rfl
   refine take_ (i := 1) (N := some 72) (v := ?_) (a' := ?_) #[true, true, false, false, false] rfl rfl (by kernel_rfl) (fun _ _ _ h => h) (Or.inl ⟨by rfl, ?_⟩) hHeld ?_ ?_
   rotate_left
   · rintro w' ⟨s0, s1, s2, s3, s4, s5, s6, s7, s8, s9, s10, s11, s12, s13, s14, s15⟩
     go_simp
     with_reducible rfl
   rotate_left
   · simp only [Act.put, List.setIfInBounds_toArray, List.set_cons_zero, List.set_cons_succ, i64_w, i32_w]
     rfl
   refine one_ (i := 2) (N := some 73) #[true, true, true, false, false] rfl rfl (by kernel_rfl) (by decide) (fun K hK => ?_)
   refine goes_ Tryz.func20 (by kernel_rfl) rfl #[.agg #[.int .i64 a0_0, .bool a0_1, .bool a0_2, .int .i64 a0_3, .string a0_4, .int .i64 a0_5, .slice A0_6 l0_6.length c0_6, .slice A0_7 l0_7.length c0_7]] (by rfl) rfl rfl argsS_ ?_
   with_reducible refine (laws_toMessage.calls kj30 a0_0 a0_1 a0_2 a0_3 a0_4 a0_5 _ _ l0_6 _ _ l0_7 t420 t421 t422 t423 t424 t425 t426 t429 _ ?side1 ?side2 ?side3 ?side4 A91.out).mono ?_
   (case side1 => exact kC_ HR0_6.out HB.out)
   (case side2 => exact HC0_6.out)
   (case side3 => exact kC_ HR0_7.out HB.out)
   (case side4 => exact HC0_7.out)
   rintro e w105 ⟨v427, v430, rfl, ho0, ho1, hb⟩
   refine ⟨_, rfl, ?_⟩
   have n0_ := a0_ (Kd.R_mono (Kd.R_told (Kd.R_told (Kd.R_old (kR_ HO_13.out) hb) (Kd.R_base ho0)) (Kd.R_base ho1)) (fun _ h_ => h_.1))
   have n1_ := a0_ (Kd.R_mono (Kd.R_told (Kd.R_told (Kd.R_old (kR_ HO_14.out) hb) (Kd.R_base ho0)) (Kd.R_base ho1)) (fun _ h_ => h_.1))
   have n2_ := a0_ (Kd.R_mono (Kd.R_told (Kd.R_told (Kd.R_old (kR_ HO_386006.out) hb) (Kd.R_base ho0)) (Kd.R_base ho1)) (fun _ h_ => h_.1))
   have n3_ := a0_ (Kd.R_mono (Kd.R_told (Kd.R_told (Kd.R_old (kR_ HO_386007.out) hb) (Kd.R_base ho0)) (Kd.R_base ho1)) (fun _ h_ => h_.1))
   have n4_ := a0_ (Kd.R_mono (Kd.R_told (Kd.R_told (Kd.R_old (kR_ HO_399006.out) hb) (Kd.R_base ho0)) (Kd.R_base ho1)) (fun _ h_ => h_.1))
   have n5_ := a0_ (Kd.R_mono (Kd.R_told (Kd.R_told (Kd.R_old (kR_ HO_399007.out) hb) (Kd.R_base ho0)) (Kd.R_base ho1)) (fun _ h_ => h_.1))
   have n6_ := a0_ (Kd.R_mono (Kd.R_told (Kd.R_told (Kd.R_old (kR_ HO_419006.out) hb) (Kd.R_base ho0)) (Kd.R_base ho1)) (fun _ h_ => h_.1))
   have n7_ := a0_ (Kd.R_mono (Kd.R_told (Kd.R_told (Kd.R_old (kR_ HO_419007.out) hb) (Kd.R_base ho0)) (Kd.R_base ho1)) (fun _ h_ => h_.1))
   have n8_ := a0_ (Kd.R_lower (Kd.R_new' (Kd.R_new' (Kd.R_new' (Kd.R_new' (Kd.R_new' (Kd.R_new' (Kd.R_new' (Kd.R_new' ho0 (Kd.R_lt (kR_ HO_13.out))) (Kd.R_lt (kR_ HO_14.out))) (Kd.R_lt (kR_ HO_386006.out))) (Kd.R_lt (kR_ HO_386007.out))) (Kd.R_lt (kR_ HO_399006.out))) (Kd.R_lt (kR_ HO_399007.out))) (Kd.R_lt (kR_ HO_419006.out))) (Kd.R_lt (kR_ HO_419007.out))) (below_size bq1_))
   have n9_ := a0_ (Kd.R_lower (Kd.R_new' (Kd.R_new' (Kd.R_new' (Kd.R_new' (Kd.R_new' (Kd.R_new' (Kd.R_new' (Kd.R_new' ho1 (Kd.R_lt (kR_ HO_13.out))) (Kd.R_lt (kR_ HO_14.out))) (Kd.R_lt (kR_ HO_386006.out))) (Kd.R_lt (kR_ HO_386007.out))) (Kd.R_lt (kR_ HO_399006.out))) (Kd.R_lt (kR_ HO_399007.out))) (Kd.R_lt (kR_ HO_419006.out))) (Kd.R_lt (kR_ HO_419007.out))) (below_size bq1_))
   have n10_ := a0_ (bkB_ BK350 hb)
   have n11_ := a0_ (bkB_ BK385 hb)
   have n12_ := a0_ (bkB_ BK398 hb)
   have n13_ := a0_ (bkB_ BK418 hb)
   have n14_ := a0_ (below_step bq1_ hb)
   clear HO_13
   clear HO_14
   clear HO_386006
   clear HO_386007
   clear HO_399006
   clear HO_399007
   clear HO_419006
   clear HO_419007
   clear BK350
   clear BK385
   clear BK398
   clear BK418
   clear HB
   have HO_13 := n0_
   have HO_14 := n1_
   have HO_386006 := n2_
   have HO_386007 := n3_
   have HO_399006 := n4_
   have HO_399007 := n5_
   have HO_419006 := n6_
   have HO_419007 := n7_
   have HO428 := n8_
   have HO431 := n9_
   have BK350 := n10_
   have BK385 := n11_
   have BK398 := n12_
   have BK418 := n13_
   have HB := n14_
   clear n0_ n1_ n2_ n3_ n4_ n5_ n6_ n7_ n8_ n9_ n10_ n11_ n12_ n13_ n14_
   (try clear hb)
   (try clear hb2)
   (try clear hk)
   (try clear hi)
   (try clear ho0)
   (try clear ho1)
   obtain ⟨Ao106, co106, eo106⟩ := Kd.R_slice HO428.out
   (first | subst eo106 | (injection eo106 with f1_ f2_ f3_; have f4_ := f1_.symm; have f5_ := f3_.symm; clear f1_ f2_ f3_; subst f4_; subst f5_))
   obtain ⟨Ao107, co107, eo107⟩ := Kd.R_slice HO431.out
   (first | subst eo107 | (injection eo107 with f1_ f2_ f3_; have f4_ := f1_.symm; have f5_ := f3_.symm; clear f1_ f2_ f3_; subst f4_; subst f5_))
   refine hK.out _ _ ⟨(blk_cell BK398.out 0).trans rfl, (blk_cell BK398.out 1).trans rfl, (blk_cell BK398.out 2).trans rfl, (blk_cell BK398.out 3).trans rfl, (blk_cell BK398.out 4).trans rfl, (blk_cell BK398.out 5).trans rfl, (blk_cell BK398.out 6).trans rfl, (blk_cell BK398.out 7).trans rfl, (blk_cell BK350.out 0).trans rfl, (blk_cell BK350.out 1).trans rfl, (blk_cell BK350.out 2).trans rfl, (blk_cell BK350.out 3).trans rfl, (blk_cell BK350.out 4).trans rfl, (blk_cell BK350.out 5).trans rfl, (blk_cell BK350.out 6).trans rfl, (blk_cell BK350.out 7).trans rfl⟩ (fun hHeld => ?_)
   clear hK K
   refine normS_ ?_
   refine one_ (i := 3) (N := some 74) #[true, true, true, true, false] rfl rfl (by kernel_rfl) (by decide) (fun K hK => ?_)
   refine goes_ Tryz.func14 (by kernel_rfl) rfl #[.agg #[.int .i64 t386, .bool t387, .bool t388, .int .i64 t389, .string t390, .int .i64 t391, .slice Ao57 t392.length co57, .slice Ao58 t395.length co58], .agg #[.int .i64 t420, .bool t421, .bool t422, .int .i64 t423, .string t424, .int .i64 t425, .slice Ao106 t426.length co106, .slice Ao107 t429.length co107]] (by rfl) rfl rfl argsS_ ?_
   with_reducible refine (laws_eqMessage.calls kj30 t386 t387 t388 t389 t390 t391 _ _ t392 _ _ t395 t420 t421 t422 t423 t424 t425 _ _ t426 _ _ t429 true _ ?side1 ?side2 ?side3 ?side4 ?side5 ?side6 ?side7 ?side8 A92.out).mono ?_
   (case side1 => exact kD_ (Kd.R_reads' HO_399006.out).2.2)
   (case side2 => exact (Kd.R_reads' HO_399006.out).2.1)
   (case side3 => exact kD_ (Kd.R_reads' HO_399007.out).2.2)
   (case side4 => exact (Kd.R_reads' HO_399007.out).2.1)
   (case side5 => exact kD_ (Kd.R_reads' HO428.out).2.2)
   (case side6 => exact (Kd.R_reads' HO428.out).2.1)
   (case side7 => exact kD_ (Kd.R_reads' HO431.out).2.2)
   (case side8 => exact (Kd.R_reads' HO431.out).2.1)
   rintro e w108 ⟨rfl, hb⟩
   refine ⟨_, rfl, ?_⟩
   replace HO_13 := a0_ (Kd.R_below (kR_ HO_13.out) hb)
   replace HO_14 := a0_ (Kd.R_below (kR_ HO_14.out) hb)
   replace HO_386006 := a0_ (Kd.R_below (kR_ HO_386006.out) hb)
   replace HO_386007 := a0_ (Kd.R_below (kR_ HO_386007.out) hb)
   replace HO_399006 := a0_ (Kd.R_below (kR_ HO_399006.out) hb)
   replace HO_399007 := a0_ (Kd.R_below (kR_ HO_399007.out) hb)
   replace HO_419006 := a0_ (Kd.R_below (kR_ HO_419006.out) hb)
   replace HO_419007 := a0_ (Kd.R_below (kR_ HO_419007.out) hb)
   replace HO428 := a0_ (Kd.R_below (kR_ HO428.out) hb)
   replace HO431 := a0_ (Kd.R_below (kR_ HO431.out) hb)
   replace BK350 := a0_ (bkB_ BK350 hb)
   replace BK385 := a0_ (bkB_ BK385 hb)
   replace BK398 := a0_ (bkB_ BK398 hb)
   replace BK418 := a0_ (bkB_ BK418 hb)
   replace HB := a0_ (below_step bq1_ hb)
   (try clear hb)
   (try clear hb2)
   (try clear hk)
   (try clear hi)
   refine hK.out _ _ ⟨(blk_cell BK398.out 0).trans rfl, (blk_cell BK398.out 1).trans rfl, (blk_cell BK398.out 2).trans rfl, (blk_cell BK398.out 3).trans rfl, (blk_cell BK398.out 4).trans rfl, (blk_cell BK398.out 5).trans rfl, (blk_cell BK398.out 6).trans rfl, (blk_cell BK398.out 7).trans rfl, (blk_cell BK350.out 0).trans rfl, (blk_cell BK350.out 1).trans rfl, (blk_cell BK350.out 2).trans rfl, (blk_cell BK350.out 3).trans rfl, (blk_cell BK350.out 4).trans rfl, (blk_cell BK350.out 5).trans rfl, (blk_cell BK350.out 6).trans rfl, (blk_cell BK350.out 7).trans rfl⟩ (fun hHeld => ?_)
   clear hK K
   refine normS_ ?_
   refine pure_ (i := 4) (N := some 75) (v := ?_) (a' := ?_) #[true, true, true, true, true] rfl rfl (by kernel_rfl) (fun _ _ _ h => h) (Or.inl ⟨by rfl, ?_⟩) ?_ ?_
   rotate_left
   · intro w'
     go_simp
     with_reducible rfl
   rotate_left
   · simp only [Act.put, List.setIfInBounds_toArray, List.set_cons_zero, List.set_cons_succ, i64_w, i32_w]
     rfl
   refine done_ (by kernel_rfl) ?_
   go_upto_region 28 with (first | ((with_reducible refine gate_callee (f := 21) rfl ?_); refine goesL_ (some 78) rfl rfl Tryz.func21 (by kernel_rfl) rfl #[.slice A2 l2.length c2] rfl argsS_ ?_; (with_reducible refine (laws_toRecordS.calls kj30 _ _ l2 t433 _ ?side1 ?side2 A94.out).mono ?_); (case side1 => exact kC_ HR2.out HB.out); (case side2 => exact HC2.out); rintro e w109 ⟨v434, rfl, ho0, hb⟩; refine ⟨_, rfl, ?_⟩; have n0_ := a0_ (Kd.R_elder' (kR_ HO_13.out) (Kd.R_base ho0) hb); have n1_ := a0_ (Kd.R_elder' (kR_ HO_14.out) (Kd.R_base ho0) hb); have n2_ := a0_ (Kd.R_elder' (kR_ HO_386006.out) (Kd.R_base ho0) hb); have n3_ := a0_ (Kd.R_elder' (kR_ HO_386007.out) (Kd.R_base ho0) hb); have n4_ := a0_ (Kd.R_elder' (kR_ HO_399006.out) (Kd.R_base ho0) hb); have n5_ := a0_ (Kd.R_elder' (kR_ HO_399007.out) (Kd.R_base ho0) hb); have n6_ := a0_ (Kd.R_elder' (kR_ HO_419006.out) (Kd.R_base ho0) hb); have n7_ := a0_ (Kd.R_elder' (kR_ HO_419007.out) (Kd.R_base ho0) hb); have n8_ := a0_ (Kd.R_elder' (kR_ HO428.out) (Kd.R_base ho0) hb); have n9_ := a0_ (Kd.R_elder' (kR_ HO431.out) (Kd.R_base ho0) hb); have n10_ := a0_ (Kd.R_lower (Kd.R_new' (Kd.R_new' (Kd.R_new' (Kd.R_new' (Kd.R_new' (Kd.R_new' (Kd.R_new' (Kd.R_new' (Kd.R_new' (Kd.R_new' ho0 (Kd.R_lt (kR_ HO_13.out))) (Kd.R_lt (kR_ HO_14.out))) (Kd.R_lt (kR_ HO_386006.out))) (Kd.R_lt (kR_ HO_386007.out))) (Kd.R_lt (kR_ HO_399006.out))) (Kd.R_lt (kR_ HO_399007.out))) (Kd.R_lt (kR_ HO_419006.out))) (Kd.R_lt (kR_ HO_419007.out))) (Kd.R_lt (kR_ HO428.out))) (Kd.R_lt (kR_ HO431.out))) (below_size bq1_)); have n11_ := a0_ (bkB_ BK350 hb); have n12_ := a0_ (bkB_ BK385 hb); have n13_ := a0_ (bkB_ BK398 hb); have n14_ := a0_ (bkB_ BK418 hb); have n15_ := a0_ (below_step bq1_ hb); clear HO_13; clear HO_14; clear HO_386006; clear HO_386007; clear HO_399006; clear HO_399007; clear HO_419006; clear HO_419007; clear HO428; clear HO431; clear BK350; clear BK385; clear BK398; clear BK418; clear HB; have HO_13 := n0_; have HO_14 := n1_; have HO_386006 := n2_; have HO_386007 := n3_; have HO_399006 := n4_; have HO_399007 := n5_; have HO_419006 := n6_; have HO_419007 := n7_; have HO428 := n8_; have HO431 := n9_; have HO435 := n10_; have BK350 := n11_; have BK385 := n12_; have BK398 := n13_; have BK418 := n14_; have HB := n15_; clear n0_ n1_ n2_ n3_ n4_ n5_ n6_ n7_ n8_ n9_ n10_ n11_ n12_ n13_ n14_ n15_; (try clear hb); (try clear hb2); (try clear hk); (try clear hi); (try clear ho0); obtain ⟨Ao110, co110, eo110⟩ := Kd.R_slice HO435.out; subst eo110) | ((with_reducible refine gate_callee (f := 23) rfl ?_); refine goesL_ (some 79) rfl rfl Tryz.func23 (by kernel_rfl) rfl #[.slice Ao62 t399.length co62, .slice Ao110 t433.length co110] rfl argsS_ ?_; (with_reducible refine (laws_eqRecordS.calls kj30 _ _ t399 _ _ t433 true _ ?side1 ?side2 ?side3 ?side4 A95.out).mono ?_); (case side1 => exact kD_ (Kd.R_reads' HO_13.out).2.2); (case side2 => exact (Kd.R_reads' HO_13.out).2.1); (case side3 => exact kD_ (Kd.R_reads' HO435.out).2.2); (case side4 => exact (Kd.R_reads' HO435.out).2.1); rintro e w111 ⟨rfl, hb⟩; refine ⟨_, rfl, ?_⟩; replace HO_13 := a0_ (Kd.R_below (kR_ HO_13.out) hb); replace HO_14 := a0_ (Kd.R_below (kR_ HO_14.out) hb); replace HO_386006 := a0_ (Kd.R_below (kR_ HO_386006.out) hb); replace HO_386007 := a0_ (Kd.R_below (kR_ HO_386007.out) hb); replace HO_399006 := a0_ (Kd.R_below (kR_ HO_399006.out) hb); replace HO_399007 := a0_ (Kd.R_below (kR_ HO_399007.out) hb); replace HO_419006 := a0_ (Kd.R_below (kR_ HO_419006.out) hb); replace HO_419007 := a0_ (Kd.R_below (kR_ HO_419007.out) hb); replace HO428 := a0_ (Kd.R_below (kR_ HO428.out) hb); replace HO431 := a0_ (Kd.R_below (kR_ HO431.out) hb); replace HO435 := a0_ (Kd.R_below (kR_ HO435.out) hb); replace BK350 := a0_ (bkB_ BK350 hb); replace BK385 := a0_ (bkB_ BK385 hb); replace BK398 := a0_ (bkB_ BK398 hb); replace BK418 := a0_ (bkB_ BK418 hb); replace HB := a0_ (below_step bq1_ hb); (try clear hb); (try clear hb2); (try clear hk); (try clear hi)) | ((with_reducible refine gate_callee (f := 21) rfl ?_); refine goesL_ (some 83) rfl rfl Tryz.func21 (by kernel_rfl) rfl #[.slice A3 l3.length c3] rfl argsS_ ?_; (with_reducible refine (laws_toRecordS.calls kj30 _ _ l3 t437 _ ?side1 ?side2 A97.out).mono ?_); (case side1 => exact kC_ HR3.out HB.out); (case side2 => exact HC3.out); rintro e w112 ⟨v438, rfl, ho0, hb⟩; refine ⟨_, rfl, ?_⟩; have n0_ := a0_ (Kd.R_elder' (kR_ HO_13.out) (Kd.R_base ho0) hb); have n1_ := a0_ (Kd.R_elder' (kR_ HO_14.out) (Kd.R_base ho0) hb); have n2_ := a0_ (Kd.R_elder' (kR_ HO_386006.out) (Kd.R_base ho0) hb); have n3_ := a0_ (Kd.R_elder' (kR_ HO_386007.out) (Kd.R_base ho0) hb); have n4_ := a0_ (Kd.R_elder' (kR_ HO_399006.out) (Kd.R_base ho0) hb); have n5_ := a0_ (Kd.R_elder' (kR_ HO_399007.out) (Kd.R_base ho0) hb); have n6_ := a0_ (Kd.R_elder' (kR_ HO_419006.out) (Kd.R_base ho0) hb); have n7_ := a0_ (Kd.R_elder' (kR_ HO_419007.out) (Kd.R_base ho0) hb); have n8_ := a0_ (Kd.R_elder' (kR_ HO428.out) (Kd.R_base ho0) hb); have n9_ := a0_ (Kd.R_elder' (kR_ HO431.out) (Kd.R_base ho0) hb); have n10_ := a0_ (Kd.R_elder' (kR_ HO435.out) (Kd.R_base ho0) hb); have n11_ := a0_ (Kd.R_lower (Kd.R_new' (Kd.R_new' (Kd.R_new' (Kd.R_new' (Kd.R_new' (Kd.R_new' (Kd.R_new' (Kd.R_new' (Kd.R_new' (Kd.R_new' (Kd.R_new' ho0 (Kd.R_lt (kR_ HO_13.out))) (Kd.R_lt (kR_ HO_14.out))) (Kd.R_lt (kR_ HO_386006.out))) (Kd.R_lt (kR_ HO_386007.out))) (Kd.R_lt (kR_ HO_399006.out))) (Kd.R_lt (kR_ HO_399007.out))) (Kd.R_lt (kR_ HO_419006.out))) (Kd.R_lt (kR_ HO_419007.out))) (Kd.R_lt (kR_ HO428.out))) (Kd.R_lt (kR_ HO431.out))) (Kd.R_lt (kR_ HO435.out))) (below_size bq1_)); have n12_ := a0_ (bkB_ BK350 hb); have n13_ := a0_ (bkB_ BK385 hb); have n14_ := a0_ (bkB_ BK398 hb); have n15_ := a0_ (bkB_ BK418 hb); have n16_ := a0_ (below_step bq1_ hb); clear HO_13; clear HO_14; clear HO_386006; clear HO_386007; clear HO_399006; clear HO_399007; clear HO_419006; clear HO_419007; clear HO428; clear HO431; clear HO435; clear BK350; clear BK385; clear BK398; clear BK418; clear HB; have HO_13 := n0_; have HO_14 := n1_; have HO_386006 := n2_; have HO_386007 := n3_; have HO_399006 := n4_; have HO_399007 := n5_; have HO_419006 := n6_; have HO_419007 := n7_; have HO428 := n8_; have HO431 := n9_; have HO435 := n10_; have HO439 := n11_; have BK350 := n12_; have BK385 := n13_; have BK398 := n14_; have BK418 := n15_; have HB := n16_; clear n0_ n1_ n2_ n3_ n4_ n5_ n6_ n7_ n8_ n9_ n10_ n11_ n12_ n13_ n14_ n15_ n16_; (try clear hb); (try clear hb2); (try clear hk); (try clear hi); (try clear ho0); obtain ⟨Ao113, co113, eo113⟩ := Kd.R_slice HO439.out; subst eo113) | ((with_reducible refine gate_callee (f := 23) rfl ?_); refine goesL_ (some 84) rfl rfl Tryz.func23 (by kernel_rfl) rfl #[.slice Ao63 t402.length co63, .slice Ao113 t437.length co113] rfl argsS_ ?_; (with_reducible refine (laws_eqRecordS.calls kj30 _ _ t402 _ _ t437 true _ ?side1 ?side2 ?side3 ?side4 A98.out).mono ?_); (case side1 => exact kD_ (Kd.R_reads' HO_14.out).2.2); (case side2 => exact (Kd.R_reads' HO_14.out).2.1); (case side3 => exact kD_ (Kd.R_reads' HO439.out).2.2); (case side4 => exact (Kd.R_reads' HO439.out).2.1); rintro e w114 ⟨rfl, hb⟩; refine ⟨_, rfl, ?_⟩; replace HO_13 := a0_ (Kd.R_below (kR_ HO_13.out) hb); replace HO_14 := a0_ (Kd.R_below (kR_ HO_14.out) hb); replace HO_386006 := a0_ (Kd.R_below (kR_ HO_386006.out) hb); replace HO_386007 := a0_ (Kd.R_below (kR_ HO_386007.out) hb); replace HO_399006 := a0_ (Kd.R_below (kR_ HO_399006.out) hb); replace HO_399007 := a0_ (Kd.R_below (kR_ HO_399007.out) hb); replace HO_419006 := a0_ (Kd.R_below (kR_ HO_419006.out) hb); replace HO_419007 := a0_ (Kd.R_below (kR_ HO_419007.out) hb); replace HO428 := a0_ (Kd.R_below (kR_ HO428.out) hb); replace HO431 := a0_ (Kd.R_below (kR_ HO431.out) hb); replace HO435 := a0_ (Kd.R_below (kR_ HO435.out) hb); replace HO439 := a0_ (Kd.R_below (kR_ HO439.out) hb); replace BK350 := a0_ (bkB_ BK350 hb); replace BK385 := a0_ (bkB_ BK385 hb); replace BK398 := a0_ (bkB_ BK398 hb); replace BK418 := a0_ (bkB_ BK418 hb); replace HB := a0_ (below_step bq1_ hb); (try clear hb); (try clear hb2); (try clear hk); (try clear hi); have hnb115 := NB398_350.out; have hnc115 := NB350_398.out; have hnb116 := NB398_385.out; have hnc116 := NB385_398.out; have hnb117 := NB398_418.out; have hnc117 := NB418_398.out; obtain ⟨z118_0, z118_1, z118_2, z118_3, z118_4, z118_5, z118_6, z118_7, q118_0, q118_1, q118_2, q118_3, q118_4, q118_5, q118_6, q118_7⟩ := bk8_ BK398.out) | ((with_reducible refine gate_callee (f := 15) rfl ?_); refine goesL_ (some 88) rfl rfl Tryz.func15 (by kernel_rfl) rfl #[.agg #[.int .i64 t386, .bool t387, .bool t388, .int .i64 t389, .string t390, .int .i64 t391, .slice Ao57 t392.length co57, .slice Ao58 t395.length co58], .int .i64 1] rfl argsS_ ?_; (with_reducible refine (laws_markMessage.calls kj30 t386 t387 t388 t389 t390 t391 (fun k_ => some k_ = (.slice Ao57 t392.length co57 : Value).ownBlock) (.slice Ao57 t392.length co57) t392 (fun k_ => some k_ = (.slice Ao58 t395.length co58 : Value).ownBlock) (.slice Ao58 t395.length co58) t395 1 t441 t442 t443 w _ ?side1 ?side2 ?side3 ?side4 ?side5 A100.out).mono ?_); (case side1 => repeat (first | (with_reducible first | exact HB.out | apply below_alloc | apply pw_below_drewN | apply below_drew1 | refine below_set ?_ GE350.out | refine below_set ?_ GE385.out | refine below_set ?_ GE398.out | refine below_set ?_ GE418.out) | exact HB.out)); (case side2 => exact Kd.R_tight rfl HO_399006.out); (case side3 => exact fun k_ e_ => (HO_399006.out.1 k_ e_.symm).1.1.1.1.2.2.2.2.1); (case side4 => exact Kd.R_tight rfl HO_399007.out); (case side5 => exact fun k_ e_ => (HO_399007.out.1 k_ e_.symm).1.1.1.1.2.2.2.2.1); rintro e w119 ⟨rfl, hy0, hy1, hb, hkp⟩; refine ⟨_, rfl, ?_⟩; have n0_ := a0_ (Kd.R_mono (ok' := fun k_ => nw_ k_ Ao63 t402.length co63 ∧ nw_ k_ Ao49 t378.length co49 ∧ nw_ k_ Ao50 t381.length co50 ∧ nw_ k_ Ao57 t392.length co57 ∧ nw_ k_ Ao58 t395.length co58 ∧ nw_ k_ Ao70 t411.length co70 ∧ nw_ k_ Ao71 t414.length co71 ∧ nw_ k_ Ao106 t426.length co106 ∧ nw_ k_ Ao107 t429.length co107 ∧ nw_ k_ Ao110 t433.length co110 ∧ nw_ k_ Ao113 t437.length co113) (Kd.R_keptB (HO_13.out) hkp (fun k_ hk_ hs_ => Or.elim hs_ (fun e_ => (hk_.1.1.1.1.2.2.2.1) e_) (fun e_ => (hk_.1.1.1.1.2.2.2.2.1) e_))) (fun k_ hk_ => ⟨hk_.1.1.1.1.1.1, hk_.1.1.1.1.1.2.1, hk_.1.1.1.1.1.2.2.1, hk_.1.1.1.1.1.2.2.2.1, hk_.1.1.1.1.1.2.2.2.2.1, hk_.1.1.1.1.1.2.2.2.2.2.1, hk_.1.1.1.1.1.2.2.2.2.2.2, hk_.1.1.1.1.2, hk_.1.1.1.2, hk_.1.1.2, hk_.1.2⟩)); have n1_ := a0_ (Kd.R_mono (ok' := fun k_ => nw_ k_ Ao62 t399.length co62 ∧ nw_ k_ Ao49 t378.length co49 ∧ nw_ k_ Ao50 t381.length co50 ∧ nw_ k_ Ao57 t392.length co57 ∧ nw_ k_ Ao58 t395.length co58 ∧ nw_ k_ Ao70 t411.length co70 ∧ nw_ k_ Ao71 t414.length co71 ∧ nw_ k_ Ao106 t426.length co106 ∧ nw_ k_ Ao107 t429.length co107 ∧ nw_ k_ Ao110 t433.length co110 ∧ nw_ k_ Ao113 t437.length co113) (Kd.R_keptB (HO_14.out) hkp (fun k_ hk_ hs_ => Or.elim hs_ (fun e_ => (hk_.1.1.1.1.2.2.2.1) e_) (fun e_ => (hk_.1.1.1.1.2.2.2.2.1) e_))) (fun k_ hk_ => ⟨hk_.1.1.1.1.1.1, hk_.1.1.1.1.1.2.1, hk_.1.1.1.1.1.2.2.1, hk_.1.1.1.1.1.2.2.2.1, hk_.1.1.1.1.1.2.2.2.2.1, hk_.1.1.1.1.1.2.2.2.2.2.1, hk_.1.1.1.1.1.2.2.2.2.2.2, hk_.1.1.1.1.2, hk_.1.1.1.2, hk_.1.1.2, hk_.1.2⟩)); have n2_ := a0_ (Kd.R_mono (ok' := fun k_ => nw_ k_ Ao62 t399.length co62 ∧ nw_ k_ Ao63 t402.length co63 ∧ nw_ k_ Ao50 t381.length co50 ∧ nw_ k_ Ao57 t392.length co57 ∧ nw_ k_ Ao58 t395.length co58 ∧ nw_ k_ Ao70 t411.length co70 ∧ nw_ k_ Ao71 t414.length co71 ∧ nw_ k_ Ao106 t426.length co106 ∧ nw_ k_ Ao107 t429.length co107 ∧ nw_ k_ Ao110 t433.length co110 ∧ nw_ k_ Ao113 t437.length co113) (Kd.R_keptB (HO_386006.out) hkp (fun k_ hk_ hs_ => Or.elim hs_ (fun e_ => (hk_.1.1.1.1.2.2.2.1) e_) (fun e_ => (hk_.1.1.1.1.2.2.2.2.1) e_))) (fun k_ hk_ => ⟨hk_.1.1.1.1.1.1, hk_.1.1.1.1.1.2.1, hk_.1.1.1.1.1.2.2.1, hk_.1.1.1.1.1.2.2.2.1, hk_.1.1.1.1.1.2.2.2.2.1, hk_.1.1.1.1.1.2.2.2.2.2.1, hk_.1.1.1.1.1.2.2.2.2.2.2, hk_.1.1.1.1.2, hk_.1.1.1.2, hk_.1.1.2, hk_.1.2⟩)); have n3_ := a0_ (Kd.R_mono (ok' := fun k_ => nw_ k_ Ao62 t399.length co62 ∧ nw_ k_ Ao63 t402.length co63 ∧ nw_ k_ Ao49 t378.length co49 ∧ nw_ k_ Ao57 t392.length co57 ∧ nw_ k_ Ao58 t395.length co58 ∧ nw_ k_ Ao70 t411.length co70 ∧ nw_ k_ Ao71 t414.length co71 ∧ nw_ k_ Ao106 t426.length co106 ∧ nw_ k_ Ao107 t429.length co107 ∧ nw_ k_ Ao110 t433.length co110 ∧ nw_ k_ Ao113 t437.length co113) (Kd.R_keptB (HO_386007.out) hkp (fun k_ hk_ hs_ => Or.elim hs_ (fun e_ => (hk_.1.1.1.1.2.2.2.1) e_) (fun e_ => (hk_.1.1.1.1.2.2.2.2.1) e_))) (fun k_ hk_ => ⟨hk_.1.1.1.1.1.1, hk_.1.1.1.1.1.2.1, hk_.1.1.1.1.1.2.2.1, hk_.1.1.1.1.1.2.2.2.1, hk_.1.1.1.1.1.2.2.2.2.1, hk_.1.1.1.1.1.2.2.2.2.2.1, hk_.1.1.1.1.1.2.2.2.2.2.2, hk_.1.1.1.1.2, hk_.1.1.1.2, hk_.1.1.2, hk_.1.2⟩)); have n4_ := a0_ (Kd.R_reok rfl hy0 (fun k_ e_ => HO_399006.out.1 k_ e_)); have n5_ := a0_ (Kd.R_reok rfl hy1 (fun k_ e_ => HO_399007.out.1 k_ e_)); have n6_ := a0_ (Kd.R_mono (ok' := fun k_ => nw_ k_ Ao62 t399.length co62 ∧ nw_ k_ Ao63 t402.length co63 ∧ nw_ k_ Ao49 t378.length co49 ∧ nw_ k_ Ao50 t381.length co50 ∧ nw_ k_ Ao57 t392.length co57 ∧ nw_ k_ Ao58 t395.length co58 ∧ nw_ k_ Ao71 t414.length co71 ∧ nw_ k_ Ao106 t426.length co106 ∧ nw_ k_ Ao107 t429.length co107 ∧ nw_ k_ Ao110 t433.length co110 ∧ nw_ k_ Ao113 t437.length co113) (Kd.R_keptB (HO_419006.out) hkp (fun k_ hk_ hs_ => Or.elim hs_ (fun e_ => (hk_.1.1.1.1.2.2.2.2.1) e_) (fun e_ => (hk_.1.1.1.1.2.2.2.2.2.1) e_))) (fun k_ hk_ => ⟨hk_.1.1.1.1.1.1, hk_.1.1.1.1.1.2.1, hk_.1.1.1.1.1.2.2.1, hk_.1.1.1.1.1.2.2.2.1, hk_.1.1.1.1.1.2.2.2.2.1, hk_.1.1.1.1.1.2.2.2.2.2.1, hk_.1.1.1.1.1.2.2.2.2.2.2, hk_.1.1.1.1.2, hk_.1.1.1.2, hk_.1.1.2, hk_.1.2⟩)); have n7_ := a0_ (Kd.R_mono (ok' := fun k_ => nw_ k_ Ao62 t399.length co62 ∧ nw_ k_ Ao63 t402.length co63 ∧ nw_ k_ Ao49 t378.length co49 ∧ nw_ k_ Ao50 t381.length co50 ∧ nw_ k_ Ao57 t392.length co57 ∧ nw_ k_ Ao58 t395.length co58 ∧ nw_ k_ Ao70 t411.length co70 ∧ nw_ k_ Ao106 t426.length co106 ∧ nw_ k_ Ao107 t429.length co107 ∧ nw_ k_ Ao110 t433.length co110 ∧ nw_ k_ Ao113 t437.length co113) (Kd.R_keptB (HO_419007.out) hkp (fun k_ hk_ hs_ => Or.elim hs_ (fun e_ => (hk_.1.1.1.1.2.2.2.2.1) e_) (fun e_ => (hk_.1.1.1.1.2.2.2.2.2.1) e_))) (fun k_ hk_ => ⟨hk_.1.1.1.1.1.1, hk_.1.1.1.1.1.2.1, hk_.1.1.1.1.1.2.2.1, hk_.1.1.1.1.1.2.2.2.1, hk_.1.1.1.1.1.2.2.2.2.1, hk_.1.1.1.1.1.2.2.2.2.2.1, hk_.1.1.1.1.1.2.2.2.2.2.2, hk_.1.1.1.1.2, hk_.1.1.1.2, hk_.1.1.2, hk_.1.2⟩)); have n8_ := a0_ (blk_kept (kB_ BK350.out) hkp (fun hs_ => Or.elim hs_ (fun e_ => (fun e_ => (Kd.R_ne HO_399006.out BK350.out (by decide)) e_) e_) (fun e_ => (fun e_ => (Kd.R_ne HO_399007.out BK350.out (by decide)) e_) e_))); have n9_ := a0_ (blk_kept (kB_ BK385.out) hkp (fun hs_ => Or.elim hs_ (fun e_ => (fun e_ => (Kd.R_ne HO_399006.out BK385.out (by decide)) e_) e_) (fun e_ => (fun e_ => (Kd.R_ne HO_399007.out BK385.out (by decide)) e_) e_))); have n10_ := a0_ (blk_kept (kB_ BK398.out) hkp (fun hs_ => Or.elim hs_ (fun e_ => (fun e_ => (Kd.R_ne HO_399006.out BK398.out (by decide)) e_) e_) (fun e_ => (fun e_ => (Kd.R_ne HO_399007.out BK398.out (by decide)) e_) e_))); have n11_ := a0_ (blk_kept (kB_ BK418.out) hkp (fun hs_ => Or.elim hs_ (fun e_ => (fun e_ => (Kd.R_ne HO_399006.out BK418.out (by decide)) e_) e_) (fun e_ => (fun e_ => (Kd.R_ne HO_399007.out BK418.out (by decide)) e_) e_))); have n12_ := a0_ (Kd.R_mono (ok' := fun k_ => nw_ k_ Ao62 t399.length co62 ∧ nw_ k_ Ao63 t402.length co63 ∧ nw_ k_ Ao49 t378.length co49 ∧ nw_ k_ Ao50 t381.length co50 ∧ nw_ k_ Ao57 t392.length co57 ∧ nw_ k_ Ao58 t395.length co58 ∧ nw_ k_ Ao70 t411.length co70 ∧ nw_ k_ Ao71 t414.length co71 ∧ nw_ k_ Ao107 t429.length co107 ∧ nw_ k_ Ao110 t433.length co110 ∧ nw_ k_ Ao113 t437.length co113) (Kd.R_keptB (HO428.out) hkp (fun k_ hk_ hs_ => Or.elim hs_ (fun e_ => (hk_.1.1.1.1.1.2) e_) (fun e_ => (hk_.1.1.1.1.2) e_))) (fun k_ hk_ => ⟨hk_.1.1.1.1.1.1.1.1.1.1.2, hk_.1.1.1.1.1.1.1.1.1.2, hk_.1.1.1.1.1.1.1.1.2, hk_.1.1.1.1.1.1.1.2, hk_.1.1.1.1.1.1.2, hk_.1.1.1.1.1.2, hk_.1.1.1.1.2, hk_.1.1.1.2, hk_.1.1.1.1.1.1.1.1.1.1.1, hk_.1.1.2, hk_.1.2⟩)); have n13_ := a0_ (Kd.R_mono (ok' := fun k_ => nw_ k_ Ao62 t399.length co62 ∧ nw_ k_ Ao63 t402.length co63 ∧ nw_ k_ Ao49 t378.length co49 ∧ nw_ k_ Ao50 t381.length co50 ∧ nw_ k_ Ao57 t392.length co57 ∧ nw_ k_ Ao58 t395.length co58 ∧ nw_ k_ Ao70 t411.length co70 ∧ nw_ k_ Ao71 t414.length co71 ∧ nw_ k_ Ao106 t426.length co106 ∧ nw_ k_ Ao110 t433.length co110 ∧ nw_ k_ Ao113 t437.length co113) (Kd.R_keptB (HO431.out) hkp (fun k_ hk_ hs_ => Or.elim hs_ (fun e_ => (hk_.1.1.1.1.1.2) e_) (fun e_ => (hk_.1.1.1.1.2) e_))) (fun k_ hk_ => ⟨hk_.1.1.1.1.1.1.1.1.1.1.2, hk_.1.1.1.1.1.1.1.1.1.2, hk_.1.1.1.1.1.1.1.1.2, hk_.1.1.1.1.1.1.1.2, hk_.1.1.1.1.1.1.2, hk_.1.1.1.1.1.2, hk_.1.1.1.1.2, hk_.1.1.1.2, hk_.1.1.1.1.1.1.1.1.1.1.1, hk_.1.1.2, hk_.1.2⟩)); have n14_ := a0_ (Kd.R_mono (ok' := fun k_ => nw_ k_ Ao62 t399.length co62 ∧ nw_ k_ Ao63 t402.length co63 ∧ nw_ k_ Ao49 t378.length co49 ∧ nw_ k_ Ao50 t381.length co50 ∧ nw_ k_ Ao57 t392.length co57 ∧ nw_ k_ Ao58 t395.length co58 ∧ nw_ k_ Ao70 t411.length co70 ∧ nw_ k_ Ao71 t414.length co71 ∧ nw_ k_ Ao106 t426.length co106 ∧ nw_ k_ Ao107 t429.length co107 ∧ nw_ k_ Ao113 t437.length co113) (Kd.R_keptB (HO435.out) hkp (fun k_ hk_ hs_ => Or.elim hs_ (fun e_ => (hk_.1.1.1.1.1.1.2) e_) (fun e_ => (hk_.1.1.1.1.1.2) e_))) (fun k_ hk_ => ⟨hk_.1.1.1.1.1.1.1.1.1.1.1.2, hk_.1.1.1.1.1.1.1.1.1.1.2, hk_.1.1.1.1.1.1.1.1.1.2, hk_.1.1.1.1.1.1.1.1.2, hk_.1.1.1.1.1.1.1.2, hk_.1.1.1.1.1.1.2, hk_.1.1.1.1.1.2, hk_.1.1.1.1.2, hk_.1.1.1.2, hk_.1.1.2, hk_.1.2⟩)); have n15_ := a0_ (Kd.R_mono (ok' := fun k_ => nw_ k_ Ao62 t399.length co62 ∧ nw_ k_ Ao63 t402.length co63 ∧ nw_ k_ Ao49 t378.length co49 ∧ nw_ k_ Ao50 t381.length co50 ∧ nw_ k_ Ao57 t392.length co57 ∧ nw_ k_ Ao58 t395.length co58 ∧ nw_ k_ Ao70 t411.length co70 ∧ nw_ k_ Ao71 t414.length co71 ∧ nw_ k_ Ao106 t426.length co106 ∧ nw_ k_ Ao107 t429.length co107 ∧ nw_ k_ Ao110 t433.length co110) (Kd.R_keptB (HO439.out) hkp (fun k_ hk_ hs_ => Or.elim hs_ (fun e_ => (hk_.1.1.1.1.1.1.2) e_) (fun e_ => (hk_.1.1.1.1.1.2) e_))) (fun k_ hk_ => ⟨hk_.1.1.1.1.1.1.1.1.1.1.1.2, hk_.1.1.1.1.1.1.1.1.1.1.2, hk_.1.1.1.1.1.1.1.1.1.2, hk_.1.1.1.1.1.1.1.1.2, hk_.1.1.1.1.1.1.1.2, hk_.1.1.1.1.1.1.2, hk_.1.1.1.1.1.2, hk_.1.1.1.1.2, hk_.1.1.1.2, hk_.1.1.2, hk_.1.2⟩)); have n16_ := a0_ (hb); clear HO_13; clear HO_14; clear HO_386006; clear HO_386007; clear HO_399006; clear HO_399007; clear HO_419006; clear HO_419007; clear BK350; clear BK385; clear BK398; clear BK418; clear HO428; clear HO431; clear HO435; clear HO439; clear HB; have HO_13 := n0_; have HO_14 := n1_; have HO_386006 := n2_; have HO_386007 := n3_; have HO_399006 := n4_; have HO_399007 := n5_; have HO_419006 := n6_; have HO_419007 := n7_; have BK350 := n8_; have BK385 := n9_; have BK398 := n10_; have BK418 := n11_; have HO428 := n12_; have HO431 := n13_; have HO435 := n14_; have HO439 := n15_; have HB := n16_; clear n0_ n1_ n2_ n3_ n4_ n5_ n6_ n7_ n8_ n9_ n10_ n11_ n12_ n13_ n14_ n15_ n16_; (try clear hb); (try clear hkp); (try clear hy0); (try clear hy1)) | ((with_reducible refine gate_callee (f := 24) rfl ?_); refine goesL_ (some 91) rfl rfl Tryz.func24 (by kernel_rfl) rfl #[.slice Ao62 t399.length co62, .int .i64 t441] rfl argsS_ ?_; (with_reducible refine (laws_markRecordS.calls kj30 (fun k_ => some k_ = (.slice Ao62 t399.length co62 : Value).ownBlock) (.slice Ao62 t399.length co62) t399 t441 t444 t445 w _ ?side1 ?side2 A101.out).mono ?_); (case side1 => repeat (first | (with_reducible first | exact HB.out | apply below_alloc | apply pw_below_drewN | apply below_drew1 | refine below_set ?_ GE350.out | refine below_set ?_ GE385.out | refine below_set ?_ GE398.out | refine below_set ?_ GE418.out) | exact HB.out)); (case side2 => exact Kd.R_tight rfl HO_13.out); rintro e w120 ⟨rfl, hy0, hb, hkp⟩; refine ⟨_, rfl, ?_⟩; have n0_ := a0_ (Kd.R_reok rfl hy0 (fun k_ e_ => HO_13.out.1 k_ e_)); have n1_ := a0_ (Kd.R_mono (ok' := fun k_ => nw_ k_ Ao62 t399.length co62 ∧ nw_ k_ Ao49 t378.length co49 ∧ nw_ k_ Ao50 t381.length co50 ∧ nw_ k_ Ao57 t392.length co57 ∧ nw_ k_ Ao58 t395.length co58 ∧ nw_ k_ Ao70 t411.length co70 ∧ nw_ k_ Ao71 t414.length co71 ∧ nw_ k_ Ao106 t426.length co106 ∧ nw_ k_ Ao107 t429.length co107 ∧ nw_ k_ Ao110 t433.length co110 ∧ nw_ k_ Ao113 t437.length co113) (Kd.R_keptB (HO_14.out) hkp (fun k_ hk_ hs_ => (hk_.1) hs_)) (fun k_ hk_ => ⟨hk_.1.1, hk_.1.2.1, hk_.1.2.2.1, hk_.1.2.2.2.1, hk_.1.2.2.2.2.1, hk_.1.2.2.2.2.2.1, hk_.1.2.2.2.2.2.2.1, hk_.1.2.2.2.2.2.2.2.1, hk_.1.2.2.2.2.2.2.2.2.1, hk_.1.2.2.2.2.2.2.2.2.2.1, hk_.1.2.2.2.2.2.2.2.2.2.2⟩)); have n2_ := a0_ (Kd.R_mono (ok' := fun k_ => nw_ k_ Ao62 t399.length co62 ∧ nw_ k_ Ao63 t402.length co63 ∧ nw_ k_ Ao50 t381.length co50 ∧ nw_ k_ Ao57 t392.length co57 ∧ nw_ k_ Ao58 t395.length co58 ∧ nw_ k_ Ao70 t411.length co70 ∧ nw_ k_ Ao71 t414.length co71 ∧ nw_ k_ Ao106 t426.length co106 ∧ nw_ k_ Ao107 t429.length co107 ∧ nw_ k_ Ao110 t433.length co110 ∧ nw_ k_ Ao113 t437.length co113) (Kd.R_keptB (HO_386006.out) hkp (fun k_ hk_ hs_ => (hk_.1) hs_)) (fun k_ hk_ => ⟨hk_.1.1, hk_.1.2.1, hk_.1.2.2.1, hk_.1.2.2.2.1, hk_.1.2.2.2.2.1, hk_.1.2.2.2.2.2.1, hk_.1.2.2.2.2.2.2.1, hk_.1.2.2.2.2.2.2.2.1, hk_.1.2.2.2.2.2.2.2.2.1, hk_.1.2.2.2.2.2.2.2.2.2.1, hk_.1.2.2.2.2.2.2.2.2.2.2⟩)); have n3_ := a0_ (Kd.R_mono (ok' := fun k_ => nw_ k_ Ao62 t399.length co62 ∧ nw_ k_ Ao63 t402.length co63 ∧ nw_ k_ Ao49 t378.length co49 ∧ nw_ k_ Ao57 t392.length co57 ∧ nw_ k_ Ao58 t395.length co58 ∧ nw_ k_ Ao70 t411.length co70 ∧ nw_ k_ Ao71 t414.length co71 ∧ nw_ k_ Ao106 t426.length co106 ∧ nw_ k_ Ao107 t429.length co107 ∧ nw_ k_ Ao110 t433.length co110 ∧ nw_ k_ Ao113 t437.length co113) (Kd.R_keptB (HO_386007.out) hkp (fun k_ hk_ hs_ => (hk_.1) hs_)) (fun k_ hk_ => ⟨hk_.1.1, hk_.1.2.1, hk_.1.2.2.1, hk_.1.2.2.2.1, hk_.1.2.2.2.2.1, hk_.1.2.2.2.2.2.1, hk_.1.2.2.2.2.2.2.1, hk_.1.2.2.2.2.2.2.2.1, hk_.1.2.2.2.2.2.2.2.2.1, hk_.1.2.2.2.2.2.2.2.2.2.1, hk_.1.2.2.2.2.2.2.2.2.2.2⟩)); have n4_ := a0_ (Kd.R_mono (ok' := fun k_ => nw_ k_ Ao62 t399.length co62 ∧ nw_ k_ Ao63 t402.length co63 ∧ nw_ k_ Ao49 t378.length co49 ∧ nw_ k_ Ao50 t381.length co50 ∧ nw_ k_ Ao58 t395.length co58 ∧ nw_ k_ Ao70 t411.length co70 ∧ nw_ k_ Ao71 t414.length co71 ∧ nw_ k_ Ao106 t426.length co106 ∧ nw_ k_ Ao107 t429.length co107 ∧ nw_ k_ Ao110 t433.length co110 ∧ nw_ k_ Ao113 t437.length co113) (Kd.R_keptB (HO_399006.out) hkp (fun k_ hk_ hs_ => (hk_.1.1.1.1.1) hs_)) (fun k_ hk_ => ⟨hk_.1.1.1.1.1.1, hk_.1.1.1.1.1.2.1, hk_.1.1.1.1.1.2.2.1, hk_.1.1.1.1.1.2.2.2.1, hk_.1.1.1.1.1.2.2.2.2.1, hk_.1.1.1.1.1.2.2.2.2.2.1, hk_.1.1.1.1.1.2.2.2.2.2.2, hk_.1.1.1.1.2, hk_.1.1.1.2, hk_.1.1.2, hk_.1.2⟩)); have n5_ := a0_ (Kd.R_mono (ok' := fun k_ => nw_ k_ Ao62 t399.length co62 ∧ nw_ k_ Ao63 t402.length co63 ∧ nw_ k_ Ao49 t378.length co49 ∧ nw_ k_ Ao50 t381.length co50 ∧ nw_ k_ Ao57 t392.length co57 ∧ nw_ k_ Ao70 t411.length co70 ∧ nw_ k_ Ao71 t414.length co71 ∧ nw_ k_ Ao106 t426.length co106 ∧ nw_ k_ Ao107 t429.length co107 ∧ nw_ k_ Ao110 t433.length co110 ∧ nw_ k_ Ao113 t437.length co113) (Kd.R_keptB (HO_399007.out) hkp (fun k_ hk_ hs_ => (hk_.1.1.1.1.1) hs_)) (fun k_ hk_ => ⟨hk_.1.1.1.1.1.1, hk_.1.1.1.1.1.2.1, hk_.1.1.1.1.1.2.2.1, hk_.1.1.1.1.1.2.2.2.1, hk_.1.1.1.1.1.2.2.2.2.1, hk_.1.1.1.1.1.2.2.2.2.2.1, hk_.1.1.1.1.1.2.2.2.2.2.2, hk_.1.1.1.1.2, hk_.1.1.1.2, hk_.1.1.2, hk_.1.2⟩)); have n6_ := a0_ (Kd.R_mono (ok' := fun k_ => nw_ k_ Ao62 t399.length co62 ∧ nw_ k_ Ao63 t402.length co63 ∧ nw_ k_ Ao49 t378.length co49 ∧ nw_ k_ Ao50 t381.length co50 ∧ nw_ k_ Ao57 t392.length co57 ∧ nw_ k_ Ao58 t395.length co58 ∧ nw_ k_ Ao71 t414.length co71 ∧ nw_ k_ Ao106 t426.length co106 ∧ nw_ k_ Ao107 t429.length co107 ∧ nw_ k_ Ao110 t433.length co110 ∧ nw_ k_ Ao113 t437.length co113) (Kd.R_keptB (HO_419006.out) hkp (fun k_ hk_ hs_ => (hk_.1) hs_)) (fun k_ hk_ => ⟨hk_.1.1, hk_.1.2.1, hk_.1.2.2.1, hk_.1.2.2.2.1, hk_.1.2.2.2.2.1, hk_.1.2.2.2.2.2.1, hk_.1.2.2.2.2.2.2.1, hk_.1.2.2.2.2.2.2.2.1, hk_.1.2.2.2.2.2.2.2.2.1, hk_.1.2.2.2.2.2.2.2.2.2.1, hk_.1.2.2.2.2.2.2.2.2.2.2⟩)); have n7_ := a0_ (Kd.R_mono (ok' := fun k_ => nw_ k_ Ao62 t399.length co62 ∧ nw_ k_ Ao63 t402.length co63 ∧ nw_ k_ Ao49 t378.length co49 ∧ nw_ k_ Ao50 t381.length co50 ∧ nw_ k_ Ao57 t392.length co57 ∧ nw_ k_ Ao58 t395.length co58 ∧ nw_ k_ Ao70 t411.length co70 ∧ nw_ k_ Ao106 t426.length co106 ∧ nw_ k_ Ao107 t429.length co107 ∧ nw_ k_ Ao110 t433.length co110 ∧ nw_ k_ Ao113 t437.length co113) (Kd.R_keptB (HO_419007.out) hkp (fun k_ hk_ hs_ => (hk_.1) hs_)) (fun k_ hk_ => ⟨hk_.1.1, hk_.1.2.1, hk_.1.2.2.1, hk_.1.2.2.2.1, hk_.1.2.2.2.2.1, hk_.1.2.2.2.2.2.1, hk_.1.2.2.2.2.2.2.1, hk_.1.2.2.2.2.2.2.2.1, hk_.1.2.2.2.2.2.2.2.2.1, hk_.1.2.2.2.2.2.2.2.2.2.1, hk_.1.2.2.2.2.2.2.2.2.2.2⟩)); have n8_ := a0_ (blk_kept (kB_ BK350.out) hkp (fun hs_ => (fun e_ => (Kd.R_ne HO_13.out BK350.out (by decide)) e_) hs_)); have n9_ := a0_ (blk_kept (kB_ BK385.out) hkp (fun hs_ => (fun e_ => (Kd.R_ne HO_13.out BK385.out (by decide)) e_) hs_)); have n10_ := a0_ (blk_kept (kB_ BK398.out) hkp (fun hs_ => (fun e_ => (Kd.R_ne HO_13.out BK398.out (by decide)) e_) hs_)); have n11_ := a0_ (blk_kept (kB_ BK418.out) hkp (fun hs_ => (fun e_ => (Kd.R_ne HO_13.out BK418.out (by decide)) e_) hs_)); have n12_ := a0_ (Kd.R_mono (ok' := fun k_ => nw_ k_ Ao62 t399.length co62 ∧ nw_ k_ Ao63 t402.length co63 ∧ nw_ k_ Ao49 t378.length co49 ∧ nw_ k_ Ao50 t381.length co50 ∧ nw_ k_ Ao57 t392.length co57 ∧ nw_ k_ Ao58 t395.length co58 ∧ nw_ k_ Ao70 t411.length co70 ∧ nw_ k_ Ao71 t414.length co71 ∧ nw_ k_ Ao107 t429.length co107 ∧ nw_ k_ Ao110 t433.length co110 ∧ nw_ k_ Ao113 t437.length co113) (Kd.R_keptB (HO428.out) hkp (fun k_ hk_ hs_ => (hk_.1) hs_)) (fun k_ hk_ => ⟨hk_.1.1, hk_.1.2.1, hk_.1.2.2.1, hk_.1.2.2.2.1, hk_.1.2.2.2.2.1, hk_.1.2.2.2.2.2.1, hk_.1.2.2.2.2.2.2.1, hk_.1.2.2.2.2.2.2.2.1, hk_.1.2.2.2.2.2.2.2.2.1, hk_.1.2.2.2.2.2.2.2.2.2.1, hk_.1.2.2.2.2.2.2.2.2.2.2⟩)); have n13_ := a0_ (Kd.R_mono (ok' := fun k_ => nw_ k_ Ao62 t399.length co62 ∧ nw_ k_ Ao63 t402.length co63 ∧ nw_ k_ Ao49 t378.length co49 ∧ nw_ k_ Ao50 t381.length co50 ∧ nw_ k_ Ao57 t392.length co57 ∧ nw_ k_ Ao58 t395.length co58 ∧ nw_ k_ Ao70 t411.length co70 ∧ nw_ k_ Ao71 t414.length co71 ∧ nw_ k_ Ao106 t426.length co106 ∧ nw_ k_ Ao110 t433.length co110 ∧ nw_ k_ Ao113 t437.length co113) (Kd.R_keptB (HO431.out) hkp (fun k_ hk_ hs_ => (hk_.1) hs_)) (fun k_ hk_ => ⟨hk_.1.1, hk_.1.2.1, hk_.1.2.2.1, hk_.1.2.2.2.1, hk_.1.2.2.2.2.1, hk_.1.2.2.2.2.2.1, hk_.1.2.2.2.2.2.2.1, hk_.1.2.2.2.2.2.2.2.1, hk_.1.2.2.2.2.2.2.2.2.1, hk_.1.2.2.2.2.2.2.2.2.2.1, hk_.1.2.2.2.2.2.2.2.2.2.2⟩)); have n14_ := a0_ (Kd.R_mono (ok' := fun k_ => nw_ k_ Ao62 t399.length co62 ∧ nw_ k_ Ao63 t402.length co63 ∧ nw_ k_ Ao49 t378.length co49 ∧ nw_ k_ Ao50 t381.length co50 ∧ nw_ k_ Ao57 t392.length co57 ∧ nw_ k_ Ao58 t395.length co58 ∧ nw_ k_ Ao70 t411.length co70 ∧ nw_ k_ Ao71 t414.length co71 ∧ nw_ k_ Ao106 t426.length co106 ∧ nw_ k_ Ao107 t429.length co107 ∧ nw_ k_ Ao113 t437.length co113) (Kd.R_keptB (HO435.out) hkp (fun k_ hk_ hs_ => (hk_.1) hs_)) (fun k_ hk_ => ⟨hk_.1.1, hk_.1.2.1, hk_.1.2.2.1, hk_.1.2.2.2.1, hk_.1.2.2.2.2.1, hk_.1.2.2.2.2.2.1, hk_.1.2.2.2.2.2.2.1, hk_.1.2.2.2.2.2.2.2.1, hk_.1.2.2.2.2.2.2.2.2.1, hk_.1.2.2.2.2.2.2.2.2.2.1, hk_.1.2.2.2.2.2.2.2.2.2.2⟩)); have n15_ := a0_ (Kd.R_mono (ok' := fun k_ => nw_ k_ Ao62 t399.length co62 ∧ nw_ k_ Ao63 t402.length co63 ∧ nw_ k_ Ao49 t378.length co49 ∧ nw_ k_ Ao50 t381.length co50 ∧ nw_ k_ Ao57 t392.length co57 ∧ nw_ k_ Ao58 t395.length co58 ∧ nw_ k_ Ao70 t411.length co70 ∧ nw_ k_ Ao71 t414.length co71 ∧ nw_ k_ Ao106 t426.length co106 ∧ nw_ k_ Ao107 t429.length co107 ∧ nw_ k_ Ao110 t433.length co110) (Kd.R_keptB (HO439.out) hkp (fun k_ hk_ hs_ => (hk_.1) hs_)) (fun k_ hk_ => ⟨hk_.1.1, hk_.1.2.1, hk_.1.2.2.1, hk_.1.2.2.2.1, hk_.1.2.2.2.2.1, hk_.1.2.2.2.2.2.1, hk_.1.2.2.2.2.2.2.1, hk_.1.2.2.2.2.2.2.2.1, hk_.1.2.2.2.2.2.2.2.2.1, hk_.1.2.2.2.2.2.2.2.2.2.1, hk_.1.2.2.2.2.2.2.2.2.2.2⟩)); have n16_ := a0_ (hb); clear HO_13; clear HO_14; clear HO_386006; clear HO_386007; clear HO_399006; clear HO_399007; clear HO_419006; clear HO_419007; clear BK350; clear BK385; clear BK398; clear BK418; clear HO428; clear HO431; clear HO435; clear HO439; clear HB; have HO_13 := n0_; have HO_14 := n1_; have HO_386006 := n2_; have HO_386007 := n3_; have HO_399006 := n4_; have HO_399007 := n5_; have HO_419006 := n6_; have HO_419007 := n7_; have BK350 := n8_; have BK385 := n9_; have BK398 := n10_; have BK418 := n11_; have HO428 := n12_; have HO431 := n13_; have HO435 := n14_; have HO439 := n15_; have HB := n16_; clear n0_ n1_ n2_ n3_ n4_ n5_ n6_ n7_ n8_ n9_ n10_ n11_ n12_ n13_ n14_ n15_ n16_; (try clear hb); (try clear hkp); (try clear hy0)) | ((with_reducible refine gate_callee (f := 24) rfl ?_); refine goesL_ (some 94) rfl rfl Tryz.func24 (by kernel_rfl) rfl #[.slice Ao63 t402.length co63, .int .i64 t444] rfl argsS_ ?_; (with_reducible refine (laws_markRecordS.calls kj30 (fun k_ => some k_ = (.slice Ao63 t402.length co63 : Value).ownBlock) (.slice Ao63 t402.length co63) t402 t444 t446 t447 w _ ?side1 ?side2 A102.out).mono ?_); (case side1 => repeat (first | (with_reducible first | exact HB.out | apply below_alloc | apply pw_below_drewN | apply below_drew1 | refine below_set ?_ GE350.out | refine below_set ?_ GE385.out | refine below_set ?_ GE398.out | refine below_set ?_ GE418.out) | exact HB.out)); (case side2 => exact Kd.R_tight rfl HO_14.out); rintro e w121 ⟨rfl, hy0, hb, hkp⟩; refine ⟨_, rfl, ?_⟩; have n0_ := a0_ (Kd.R_mono (ok' := fun k_ => nw_ k_ Ao63 t402.length co63 ∧ nw_ k_ Ao49 t378.length co49 ∧ nw_ k_ Ao50 t381.length co50 ∧ nw_ k_ Ao57 t392.length co57 ∧ nw_ k_ Ao58 t395.length co58 ∧ nw_ k_ Ao70 t411.length co70 ∧ nw_ k_ Ao71 t414.length co71 ∧ nw_ k_ Ao106 t426.length co106 ∧ nw_ k_ Ao107 t429.length co107 ∧ nw_ k_ Ao110 t433.length co110 ∧ nw_ k_ Ao113 t437.length co113) (Kd.R_keptB (HO_13.out) hkp (fun k_ hk_ hs_ => (hk_.1) hs_)) (fun k_ hk_ => ⟨hk_.1.1, hk_.1.2.1, hk_.1.2.2.1, hk_.1.2.2.2.1, hk_.1.2.2.2.2.1, hk_.1.2.2.2.2.2.1, hk_.1.2.2.2.2.2.2.1, hk_.1.2.2.2.2.2.2.2.1, hk_.1.2.2.2.2.2.2.2.2.1, hk_.1.2.2.2.2.2.2.2.2.2.1, hk_.1.2.2.2.2.2.2.2.2.2.2⟩)); have n1_ := a0_ (Kd.R_reok rfl hy0 (fun k_ e_ => HO_14.out.1 k_ e_)); have n2_ := a0_ (Kd.R_mono (ok' := fun k_ => nw_ k_ Ao62 t399.length co62 ∧ nw_ k_ Ao63 t402.length co63 ∧ nw_ k_ Ao50 t381.length co50 ∧ nw_ k_ Ao57 t392.length co57 ∧ nw_ k_ Ao58 t395.length co58 ∧ nw_ k_ Ao70 t411.length co70 ∧ nw_ k_ Ao71 t414.length co71 ∧ nw_ k_ Ao106 t426.length co106 ∧ nw_ k_ Ao107 t429.length co107 ∧ nw_ k_ Ao110 t433.length co110 ∧ nw_ k_ Ao113 t437.length co113) (Kd.R_keptB (HO_386006.out) hkp (fun k_ hk_ hs_ => (hk_.2.1) hs_)) (fun k_ hk_ => ⟨hk_.1.1, hk_.1.2.1, hk_.1.2.2.1, hk_.1.2.2.2.1, hk_.1.2.2.2.2.1, hk_.1.2.2.2.2.2.1, hk_.1.2.2.2.2.2.2.1, hk_.1.2.2.2.2.2.2.2.1, hk_.1.2.2.2.2.2.2.2.2.1, hk_.1.2.2.2.2.2.2.2.2.2.1, hk_.1.2.2.2.2.2.2.2.2.2.2⟩)); have n3_ := a0_ (Kd.R_mono (ok' := fun k_ => nw_ k_ Ao62 t399.length co62 ∧ nw_ k_ Ao63 t402.length co63 ∧ nw_ k_ Ao49 t378.length co49 ∧ nw_ k_ Ao57 t392.length co57 ∧ nw_ k_ Ao58 t395.length co58 ∧ nw_ k_ Ao70 t411.length co70 ∧ nw_ k_ Ao71 t414.length co71 ∧ nw_ k_ Ao106 t426.length co106 ∧ nw_ k_ Ao107 t429.length co107 ∧ nw_ k_ Ao110 t433.length co110 ∧ nw_ k_ Ao113 t437.length co113) (Kd.R_keptB (HO_386007.out) hkp (fun k_ hk_ hs_ => (hk_.2.1) hs_)) (fun k_ hk_ => ⟨hk_.1.1, hk_.1.2.1, hk_.1.2.2.1, hk_.1.2.2.2.1, hk_.1.2.2.2.2.1, hk_.1.2.2.2.2.2.1, hk_.1.2.2.2.2.2.2.1, hk_.1.2.2.2.2.2.2.2.1, hk_.1.2.2.2.2.2.2.2.2.1, hk_.1.2.2.2.2.2.2.2.2.2.1, hk_.1.2.2.2.2.2.2.2.2.2.2⟩)); have n4_ := a0_ (Kd.R_mono (ok' := fun k_ => nw_ k_ Ao62 t399.length co62 ∧ nw_ k_ Ao63 t402.length co63 ∧ nw_ k_ Ao49 t378.length co49 ∧ nw_ k_ Ao50 t381.length co50 ∧ nw_ k_ Ao58 t395.length co58 ∧ nw_ k_ Ao70 t411.length co70 ∧ nw_ k_ Ao71 t414.length co71 ∧ nw_ k_ Ao106 t426.length co106 ∧ nw_ k_ Ao107 t429.length co107 ∧ nw_ k_ Ao110 t433.length co110 ∧ nw_ k_ Ao113 t437.length co113) (Kd.R_keptB (HO_399006.out) hkp (fun k_ hk_ hs_ => (hk_.2.1) hs_)) (fun k_ hk_ => ⟨hk_.1.1, hk_.1.2.1, hk_.1.2.2.1, hk_.1.2.2.2.1, hk_.1.2.2.2.2.1, hk_.1.2.2.2.2.2.1, hk_.1.2.2.2.2.2.2.1, hk_.1.2.2.2.2.2.2.2.1, hk_.1.2.2.2.2.2.2.2.2.1, hk_.1.2.2.2.2.2.2.2.2.2.1, hk_.1.2.2.2.2.2.2.2.2.2.2⟩)); have n5_ := a0_ (Kd.R_mono (ok' := fun k_ => nw_ k_ Ao62 t399.length co62 ∧ nw_ k_ Ao63 t402.length co63 ∧ nw_ k_ Ao49 t378.length co49 ∧ nw_ k_ Ao50 t381.length co50 ∧ nw_ k_ Ao57 t392.length co57 ∧ nw_ k_ Ao70 t411.length co70 ∧ nw_ k_ Ao71 t414.length co71 ∧ nw_ k_ Ao106 t426.length co106 ∧ nw_ k_ Ao107 t429.length co107 ∧ nw_ k_ Ao110 t433.length co110 ∧ nw_ k_ Ao113 t437.length co113) (Kd.R_keptB (HO_399007.out) hkp (fun k_ hk_ hs_ => (hk_.2.1) hs_)) (fun k_ hk_ => ⟨hk_.1.1, hk_.1.2.1, hk_.1.2.2.1, hk_.1.2.2.2.1, hk_.1.2.2.2.2.1, hk_.1.2.2.2.2.2.1, hk_.1.2.2.2.2.2.2.1, hk_.1.2.2.2.2.2.2.2.1, hk_.1.2.2.2.2.2.2.2.2.1, hk_.1.2.2.2.2.2.2.2.2.2.1, hk_.1.2.2.2.2.2.2.2.2.2.2⟩)); have n6_ := a0_ (Kd.R_mono (ok' := fun k_ => nw_ k_ Ao62 t399.length co62 ∧ nw_ k_ Ao63 t402.length co63 ∧ nw_ k_ Ao49 t378.length co49 ∧ nw_ k_ Ao50 t381.length co50 ∧ nw_ k_ Ao57 t392.length co57 ∧ nw_ k_ Ao58 t395.length co58 ∧ nw_ k_ Ao71 t414.length co71 ∧ nw_ k_ Ao106 t426.length co106 ∧ nw_ k_ Ao107 t429.length co107 ∧ nw_ k_ Ao110 t433.length co110 ∧ nw_ k_ Ao113 t437.length co113) (Kd.R_keptB (HO_419006.out) hkp (fun k_ hk_ hs_ => (hk_.2.1) hs_)) (fun k_ hk_ => ⟨hk_.1.1, hk_.1.2.1, hk_.1.2.2.1, hk_.1.2.2.2.1, hk_.1.2.2.2.2.1, hk_.1.2.2.2.2.2.1, hk_.1.2.2.2.2.2.2.1, hk_.1.2.2.2.2.2.2.2.1, hk_.1.2.2.2.2.2.2.2.2.1, hk_.1.2.2.2.2.2.2.2.2.2.1, hk_.1.2.2.2.2.2.2.2.2.2.2⟩)); have n7_ := a0_ (Kd.R_mono (ok' := fun k_ => nw_ k_ Ao62 t399.length co62 ∧ nw_ k_ Ao63 t402.length co63 ∧ nw_ k_ Ao49 t378.length co49 ∧ nw_ k_ Ao50 t381.length co50 ∧ nw_ k_ Ao57 t392.length co57 ∧ nw_ k_ Ao58 t395.length co58 ∧ nw_ k_ Ao70 t411.length co70 ∧ nw_ k_ Ao106 t426.length co106 ∧ nw_ k_ Ao107 t429.length co107 ∧ nw_ k_ Ao110 t433.length co110 ∧ nw_ k_ Ao113 t437.length co113) (Kd.R_keptB (HO_419007.out) hkp (fun k_ hk_ hs_ => (hk_.2.1) hs_)) (fun k_ hk_ => ⟨hk_.1.1, hk_.1.2.1, hk_.1.2.2.1, hk_.1.2.2.2.1, hk_.1.2.2.2.2.1, hk_.1.2.2.2.2.2.1, hk_.1.2.2.2.2.2.2.1, hk_.1.2.2.2.2.2.2.2.1, hk_.1.2.2.2.2.2.2.2.2.1, hk_.1.2.2.2.2.2.2.2.2.2.1, hk_.1.2.2.2.2.2.2.2.2.2.2⟩)); have n8_ := a0_ (blk_kept (kB_ BK350.out) hkp (fun hs_ => (fun e_ => (Kd.R_ne HO_14.out BK350.out (by decide)) e_) hs_)); have n9_ := a0_ (blk_kept (kB_ BK385.out) hkp (fun hs_ => (fun e_ => (Kd.R_ne HO_14.out BK385.out (by decide)) e_) hs_)); have n10_ := a0_ (blk_kept (kB_ BK398.out) hkp (fun hs_ => (fun e_ => (Kd.R_ne HO_14.out BK398.out (by decide)) e_) hs_)); have n11_ := a0_ (blk_kept (kB_ BK418.out) hkp (fun hs_ => (fun e_ => (Kd.R_ne HO_14.out BK418.out (by decide)) e_) hs_)); have n12_ := a0_ (Kd.R_mono (ok' := fun k_ => nw_ k_ Ao62 t399.length co62 ∧ nw_ k_ Ao63 t402.length co63 ∧ nw_ k_ Ao49 t378.length co49 ∧ nw_ k_ Ao50 t381.length co50 ∧ nw_ k_ Ao57 t392.length co57 ∧ nw_ k_ Ao58 t395.length co58 ∧ nw_ k_ Ao70 t411.length co70 ∧ nw_ k_ Ao71 t414.length co71 ∧ nw_ k_ Ao107 t429.length co107 ∧ nw_ k_ Ao110 t433.length co110 ∧ nw_ k_ Ao113 t437.length co113) (Kd.R_keptB (HO428.out) hkp (fun k_ hk_ hs_ => (hk_.2.1) hs_)) (fun k_ hk_ => ⟨hk_.1.1, hk_.1.2.1, hk_.1.2.2.1, hk_.1.2.2.2.1, hk_.1.2.2.2.2.1, hk_.1.2.2.2.2.2.1, hk_.1.2.2.2.2.2.2.1, hk_.1.2.2.2.2.2.2.2.1, hk_.1.2.2.2.2.2.2.2.2.1, hk_.1.2.2.2.2.2.2.2.2.2.1, hk_.1.2.2.2.2.2.2.2.2.2.2⟩)); have n13_ := a0_ (Kd.R_mono (ok' := fun k_ => nw_ k_ Ao62 t399.length co62 ∧ nw_ k_ Ao63 t402.length co63 ∧ nw_ k_ Ao49 t378.length co49 ∧ nw_ k_ Ao50 t381.length co50 ∧ nw_ k_ Ao57 t392.length co57 ∧ nw_ k_ Ao58 t395.length co58 ∧ nw_ k_ Ao70 t411.length co70 ∧ nw_ k_ Ao71 t414.length co71 ∧ nw_ k_ Ao106 t426.length co106 ∧ nw_ k_ Ao110 t433.length co110 ∧ nw_ k_ Ao113 t437.length co113) (Kd.R_keptB (HO431.out) hkp (fun k_ hk_ hs_ => (hk_.2.1) hs_)) (fun k_ hk_ => ⟨hk_.1.1, hk_.1.2.1, hk_.1.2.2.1, hk_.1.2.2.2.1, hk_.1.2.2.2.2.1, hk_.1.2.2.2.2.2.1, hk_.1.2.2.2.2.2.2.1, hk_.1.2.2.2.2.2.2.2.1, hk_.1.2.2.2.2.2.2.2.2.1, hk_.1.2.2.2.2.2.2.2.2.2.1, hk_.1.2.2.2.2.2.2.2.2.2.2⟩)); have n14_ := a0_ (Kd.R_mono (ok' := fun k_ => nw_ k_ Ao62 t399.length co62 ∧ nw_ k_ Ao63 t402.length co63 ∧ nw_ k_ Ao49 t378.length co49 ∧ nw_ k_ Ao50 t381.length co50 ∧ nw_ k_ Ao57 t392.length co57 ∧ nw_ k_ Ao58 t395.length co58 ∧ nw_ k_ Ao70 t411.length co70 ∧ nw_ k_ Ao71 t414.length co71 ∧ nw_ k_ Ao106 t426.length co106 ∧ nw_ k_ Ao107 t429.length co107 ∧ nw_ k_ Ao113 t437.length co113) (Kd.R_keptB (HO435.out) hkp (fun k_ hk_ hs_ => (hk_.2.1) hs_)) (fun k_ hk_ => ⟨hk_.1.1, hk_.1.2.1, hk_.1.2.2.1, hk_.1.2.2.2.1, hk_.1.2.2.2.2.1, hk_.1.2.2.2.2.2.1, hk_.1.2.2.2.2.2.2.1, hk_.1.2.2.2.2.2.2.2.1, hk_.1.2.2.2.2.2.2.2.2.1, hk_.1.2.2.2.2.2.2.2.2.2.1, hk_.1.2.2.2.2.2.2.2.2.2.2⟩)); have n15_ := a0_ (Kd.R_mono (ok' := fun k_ => nw_ k_ Ao62 t399.length co62 ∧ nw_ k_ Ao63 t402.length co63 ∧ nw_ k_ Ao49 t378.length co49 ∧ nw_ k_ Ao50 t381.length co50 ∧ nw_ k_ Ao57 t392.length co57 ∧ nw_ k_ Ao58 t395.length co58 ∧ nw_ k_ Ao70 t411.length co70 ∧ nw_ k_ Ao71 t414.length co71 ∧ nw_ k_ Ao106 t426.length co106 ∧ nw_ k_ Ao107 t429.length co107 ∧ nw_ k_ Ao110 t433.length co110) (Kd.R_keptB (HO439.out) hkp (fun k_ hk_ hs_ => (hk_.2.1) hs_)) (fun k_ hk_ => ⟨hk_.1.1, hk_.1.2.1, hk_.1.2.2.1, hk_.1.2.2.2.1, hk_.1.2.2.2.2.1, hk_.1.2.2.2.2.2.1, hk_.1.2.2.2.2.2.2.1, hk_.1.2.2.2.2.2.2.2.1, hk_.1.2.2.2.2.2.2.2.2.1, hk_.1.2.2.2.2.2.2.2.2.2.1, hk_.1.2.2.2.2.2.2.2.2.2.2⟩)); have n16_ := a0_ (hb); clear HO_13; clear HO_14; clear HO_386006; clear HO_386007; clear HO_399006; clear HO_399007; clear HO_419006; clear HO_419007; clear BK350; clear BK385; clear BK398; clear BK418; clear HO428; clear HO431; clear HO435; clear HO439; clear HB; have HO_13 := n0_; have HO_14 := n1_; have HO_386006 := n2_; have HO_386007 := n3_; have HO_399006 := n4_; have HO_399007 := n5_; have HO_419006 := n6_; have HO_419007 := n7_; have BK350 := n8_; have BK385 := n9_; have BK398 := n10_; have BK418 := n11_; have HO428 := n12_; have HO431 := n13_; have HO435 := n14_; have HO439 := n15_; have HB := n16_; clear n0_ n1_ n2_ n3_ n4_ n5_ n6_ n7_ n8_ n9_ n10_ n11_ n12_ n13_ n14_ n15_ n16_; (try clear hb); (try clear hkp); (try clear hy0)))
   (try simp only [Act.put, List.setIfInBounds_toArray, List.set_cons_zero, List.set_cons_succ])
   go_cut [107] (fun v107 wc => ∃ (kq : Nat) (x107_102 : Bool), v107 = .bool x107_102 ∧ Aside0 (laws_FnExactReplyTo.j1 kq a1 l2 l3 t384 x107_102 a0_0 a0_1 a0_2 a0_3 a0_4 a0_5 l0_6 l0_7 t372 t373 t374 t375 t376 t377 t378 t381 t405 t406 t407 t408 t409 t410 t411 t414 = some r) ∧ Aside0 (kq ≤ kj30) ∧ Aside0 (Kd.R k72 72 wc w.heap.size (fun k_ => some k_ ≠ ((.slice Ao50 t381.length co50) : Value).ownBlock ∧ some k_ ≠ ((.slice Ao57 t392.length co57) : Value).ownBlock ∧ some k_ ≠ ((.slice Ao58 t395.length co58) : Value).ownBlock ∧ some k_ ≠ ((.slice Ao70 t411.length co70) : Value).ownBlock ∧ some k_ ≠ ((.slice Ao71 t414.length co71) : Value).ownBlock) (.slice Ao49 t378.length co49) t378) ∧ Aside0 (Kd.R k72 72 wc w.heap.size (fun k_ => some k_ ≠ ((.slice Ao49 t378.length co49) : Value).ownBlock ∧ some k_ ≠ ((.slice Ao57 t392.length co57) : Value).ownBlock ∧ some k_ ≠ ((.slice Ao58 t395.length co58) : Value).ownBlock ∧ some k_ ≠ ((.slice Ao70 t411.length co70) : Value).ownBlock ∧ some k_ ≠ ((.slice Ao71 t414.length co71) : Value).ownBlock) (.slice Ao50 t381.length co50) t381) ∧ Aside0 (Kd.R k72 72 wc w.heap.size (fun k_ => some k_ ≠ ((.slice Ao49 t378.length co49) : Value).ownBlock ∧ some k_ ≠ ((.slice Ao50 t381.length co50) : Value).ownBlock ∧ some k_ ≠ ((.slice Ao58 t395.length co58) : Value).ownBlock ∧ some k_ ≠ ((.slice Ao70 t411.length co70) : Value).ownBlock ∧ some k_ ≠ ((.slice Ao71 t414.length co71) : Value).ownBlock) (.slice Ao57 t392.length co57) t442) ∧ Aside0 (Kd.R k72 72 wc w.heap.size (fun k_ => some k_ ≠ ((.slice Ao49 t378.length co49) : Value).ownBlock ∧ some k_ ≠ ((.slice Ao50 t381.length co50) : Value).ownBlock ∧ some k_ ≠ ((.slice Ao57 t392.length co57) : Value).ownBlock ∧ some k_ ≠ ((.slice Ao70 t411.length co70) : Value).ownBlock ∧ some k_ ≠ ((.slice Ao71 t414.length co71) : Value).ownBlock) (.slice Ao58 t395.length co58) t443) ∧ Aside0 (Kd.R k72 72 wc w.heap.size (fun k_ => some k_ ≠ ((.slice Ao49 t378.length co49) : Value).ownBlock ∧ some k_ ≠ ((.slice Ao50 t381.length co50) : Value).ownBlock ∧ some k_ ≠ ((.slice Ao57 t392.length co57) : Value).ownBlock ∧ some k_ ≠ ((.slice Ao58 t395.length co58) : Value).ownBlock ∧ some k_ ≠ ((.slice Ao71 t414.length co71) : Value).ownBlock) (.slice Ao70 t411.length co70) t411) ∧ Aside0 (Kd.R k72 72 wc w.heap.size (fun k_ => some k_ ≠ ((.slice Ao49 t378.length co49) : Value).ownBlock ∧ some k_ ≠ ((.slice Ao50 t381.length co50) : Value).ownBlock ∧ some k_ ≠ ((.slice Ao57 t392.length co57) : Value).ownBlock ∧ some k_ ≠ ((.slice Ao58 t395.length co58) : Value).ownBlock ∧ some k_ ≠ ((.slice Ao70 t411.length co70) : Value).ownBlock) (.slice Ao71 t414.length co71) t414) ∧ Aside0 (wc.heap[gb350]? = some (.cells #[.int .i64 a0_0, .bool a0_1, .bool a0_2, .int .i64 a0_3, .string a0_4, .int .i64 a0_5, (.slice A0_6 l0_6.length c0_6), (.slice A0_7 l0_7.length c0_7)] 32 (0, 0))) ∧ Aside0 (wc.heap[gb385]? = some (.cells #[.int .i64 t372, .bool t373, .bool t374, .int .i64 t375, .string t376, .int .i64 t377, (.slice Ao49 t378.length co49), (.slice Ao50 t381.length co50)] 24 (0, 0))) ∧ Aside0 (wc.heap[gb398]? = some (.cells #[.int .i64 t386, .bool t387, .bool t388, .int .i64 t389, .string t390, .int .i64 t391, (.slice Ao57 t392.length co57), (.slice Ao58 t395.length co58)] 24 (0, 0))) ∧ Aside0 (wc.heap[gb418]? = some (.cells #[.int .i64 t405, .bool t406, .bool t407, .int .i64 t408, .string t409, .int .i64 t410, (.slice Ao70 t411.length co70), (.slice Ao71 t414.length co71)] 24 (0, 0))) ∧ Aside0 (Below w.heap.size w wc))
   case first =>
    have H := HC103.out
    clear HC103
    by_cases c122 : t446 < 0
    case pos =>
     rw [if_pos c122] at H
     have c122b0 := decide_eq_true c122
     clear c122
     (first | rw [c122b0] | (simp only [i64_w, i32_w]; rw [c122b0]) | skip)
     have H' := a0_ H
     clear H
     go_wp2
     go_meet
     case rel => exact ⟨_, (true), rs_, H', ⟨by have := HJ30.out; first | omega | exact Nat.le_refl _⟩, ⟨by (with_reducible repeat (first | apply Kd.R_alloc | apply Kd.R_drewN | apply Kd.R_drew)); exact Kd.R_mono HO_386006.out (fun _ hk => ⟨hk.2.2.1, ⟨hk.2.2.2.1, ⟨hk.2.2.2.2.1, ⟨hk.2.2.2.2.2.1, hk.2.2.2.2.2.2.1⟩⟩⟩⟩)⟩, ⟨by (with_reducible repeat (first | apply Kd.R_alloc | apply Kd.R_drewN | apply Kd.R_drew)); exact Kd.R_mono HO_386007.out (fun _ hk => ⟨hk.2.2.1, ⟨hk.2.2.2.1, ⟨hk.2.2.2.2.1, ⟨hk.2.2.2.2.2.1, hk.2.2.2.2.2.2.1⟩⟩⟩⟩)⟩, ⟨by (with_reducible repeat (first | apply Kd.R_alloc | apply Kd.R_drewN | apply Kd.R_drew)); exact Kd.R_mono HO_399006.out (fun _ hk => ⟨hk.2.2.1, ⟨hk.2.2.2.1, ⟨hk.2.2.2.2.1, ⟨hk.2.2.2.2.2.1, hk.2.2.2.2.2.2.1⟩⟩⟩⟩)⟩, ⟨by (with_reducible repeat (first | apply Kd.R_alloc | apply Kd.R_drewN | apply Kd.R_drew)); exact Kd.R_mono HO_399007.out (fun _ hk => ⟨hk.2.2.1, ⟨hk.2.2.2.1, ⟨hk.2.2.2.2.1, ⟨hk.2.2.2.2.2.1, hk.2.2.2.2.2.2.1⟩⟩⟩⟩)⟩, ⟨by (with_reducible repeat (first | apply Kd.R_alloc | apply Kd.R_drewN | apply Kd.R_drew)); exact Kd.R_mono HO_419006.out (fun _ hk => ⟨hk.2.2.1, ⟨hk.2.2.2.1, ⟨hk.2.2.2.2.1, ⟨hk.2.2.2.2.2.1, hk.2.2.2.2.2.2.1⟩⟩⟩⟩)⟩, ⟨by (with_reducible repeat (first | apply Kd.R_alloc | apply Kd.R_drewN | apply Kd.R_drew)); exact Kd.R_mono HO_419007.out (fun _ hk => ⟨hk.2.2.1, ⟨hk.2.2.2.1, ⟨hk.2.2.2.2.1, ⟨hk.2.2.2.2.2.1, hk.2.2.2.2.2.2.1⟩⟩⟩⟩)⟩, ⟨by (with_reducible repeat (first | refine blk_drewN ?_ _ | refine blk_drew ?_ | refine blk_alloc ?_ _)); exact BK350.out⟩, ⟨by (with_reducible repeat (first | refine blk_drewN ?_ _ | refine blk_drew ?_ | refine blk_alloc ?_ _)); exact BK385.out⟩, ⟨by (with_reducible repeat (first | refine blk_drewN ?_ _ | refine blk_drew ?_ | refine blk_alloc ?_ _)); exact BK398.out⟩, ⟨by (with_reducible repeat (first | refine blk_drewN ?_ _ | refine blk_drew ?_ | refine blk_alloc ?_ _)); exact BK418.out⟩, ⟨bq1_⟩⟩
    rw [if_neg c122] at H
    have c122b0 := decide_eq_false c122
    clear c122
    (first | rw [c122b0] | (simp only [i64_w, i32_w]; rw [c122b0]) | skip)
    obtain ⟨t448, A1230, H⟩ := Option.bind_eq_some_iff.mp H
    have A123 := a0_ A1230
    clear A1230
    by_cases c124 : t448 = true
    case pos =>
     subst c124
     rw [if_pos rfl] at H
     have H' := a0_ H
     clear H
     have hnb125 := NB418_350.out
     have hnc125 := NB350_418.out
     have hnb126 := NB418_385.out
     have hnc126 := NB385_418.out
     have hnb127 := NB418_398.out
     have hnc127 := NB398_418.out
     have z128_0 : w121.cell? ⟨gb418, 0, none⟩ = some (.int .i64 t405) := (blk_cell BK418.out 0).trans rfl
     have z128_1 : w121.cell? ⟨gb418, 1, none⟩ = some (.bool t406) := (blk_cell BK418.out 1).trans rfl
     have z128_2 : w121.cell? ⟨gb418, 2, none⟩ = some (.bool t407) := (blk_cell BK418.out 2).trans rfl
     have z128_3 : w121.cell? ⟨gb418, 3, none⟩ = some (.int .i64 t408) := (blk_cell BK418.out 3).trans rfl
     have z128_4 : w121.cell? ⟨gb418, 4, none⟩ = some (.string t409) := (blk_cell BK418.out 4).trans rfl
     have z128_5 : w121.cell? ⟨gb418, 5, none⟩ = some (.int .i64 t410) := (blk_cell BK418.out 5).trans rfl
     have z128_6 : w121.cell? ⟨gb418, 6, none⟩ = some (.slice Ao70 t411.length co70) := (blk_cell BK418.out 6).trans rfl
     have z128_7 : w121.cell? ⟨gb418, 7, none⟩ = some (.slice Ao71 t414.length co71) := (blk_cell BK418.out 7).trans rfl
     have q128_0 := blk_frozen BK418.out 0
     have q128_1 := blk_frozen BK418.out 1
     have q128_2 := blk_frozen BK418.out 2
     have q128_3 := blk_frozen BK418.out 3
     have q128_4 := blk_frozen BK418.out 4
     have q128_5 := blk_frozen BK418.out 5
     have q128_6 := blk_frozen BK418.out 6
     have q128_7 := blk_frozen BK418.out 7
     have hnb129 := NB385_350.out
     have hnc129 := NB350_385.out
     have hnb130 := NB385_398.out
     have hnc130 := NB398_385.out
     have z131_0 : w121.cell? ⟨gb385, 0, none⟩ = some (.int .i64 t372) := (blk_cell BK385.out 0).trans rfl
     have z131_1 : w121.cell? ⟨gb385, 1, none⟩ = some (.bool t373) := (blk_cell BK385.out 1).trans rfl
     have z131_2 : w121.cell? ⟨gb385, 2, none⟩ = some (.bool t374) := (blk_cell BK385.out 2).trans rfl
     have z131_3 : w121.cell? ⟨gb385, 3, none⟩ = some (.int .i64 t375) := (blk_cell BK385.out 3).trans rfl
     have z131_4 : w121.cell? ⟨gb385, 4, none⟩ = some (.string t376) := (blk_cell BK385.out 4).trans rfl
     have z131_5 : w121.cell? ⟨gb385, 5, none⟩ = some (.int .i64 t377) := (blk_cell BK385.out 5).trans rfl
     have z131_6 : w121.cell? ⟨gb385, 6, none⟩ = some (.slice Ao49 t378.length co49) := (blk_cell BK385.out 6).trans rfl
     have z131_7 : w121.cell? ⟨gb385, 7, none⟩ = some (.slice Ao50 t381.length co50) := (blk_cell BK385.out 7).trans rfl
     have q131_0 := blk_frozen BK385.out 0
     have q131_1 := blk_frozen BK385.out 1
     have q131_2 := blk_frozen BK385.out 2
     have q131_3 := blk_frozen BK385.out 3
     have q131_4 := blk_frozen BK385.out 4
     have q131_5 := blk_frozen BK385.out 5
     have q131_6 := blk_frozen BK385.out 6
     have q131_7 := blk_frozen BK385.out 7
     go_wp2_with (first | (go_at_call 14; (with_reducible refine (laws_eqMessage.calls kj30 t405 t406 t407 t408 t409 t410 _ _ t411 _ _ t414 t372 t373 t374 t375 t376 t377 _ _ t378 _ _ t381 true _ ?side1 ?side2 ?side3 ?side4 ?side5 ?side6 ?side7 ?side8 A123.out).mono ?_); (case side1 => exact kD_ (Kd.R_reads' HO_419006.out).2.2); (case side2 => exact (Kd.R_reads' HO_419006.out).2.1); (case side3 => exact kD_ (Kd.R_reads' HO_419007.out).2.2); (case side4 => exact (Kd.R_reads' HO_419007.out).2.1); (case side5 => exact kD_ (Kd.R_reads' HO_386006.out).2.2); (case side6 => exact (Kd.R_reads' HO_386006.out).2.1); (case side7 => exact kD_ (Kd.R_reads' HO_386007.out).2.2); (case side8 => exact (Kd.R_reads' HO_386007.out).2.1); rintro e w132 ⟨rfl, hb⟩; replace HO_13 := a0_ (Kd.R_below (kR_ HO_13.out) hb); replace HO_14 := a0_ (Kd.R_below (kR_ HO_14.out) hb); replace HO_386006 := a0_ (Kd.R_below (kR_ HO_386006.out) hb); replace HO_386007 := a0_ (Kd.R_below (kR_ HO_386007.out) hb); replace HO_399006 := a0_ (Kd.R_below (kR_ HO_399006.out) hb); replace HO_399007 := a0_ (Kd.R_below (kR_ HO_399007.out) hb); replace HO_419006 := a0_ (Kd.R_below (kR_ HO_419006.out) hb); replace HO_419007 := a0_ (Kd.R_below (kR_ HO_419007.out) hb); replace HO428 := a0_ (Kd.R_below (kR_ HO428.out) hb); replace HO431 := a0_ (Kd.R_below (kR_ HO431.out) hb); replace HO435 := a0_ (Kd.R_below (kR_ HO435.out) hb); replace HO439 := a0_ (Kd.R_below (kR_ HO439.out) hb); replace BK350 := a0_ (bkB_ BK350 hb); replace BK385 := a0_ (bkB_ BK385 hb); replace BK398 := a0_ (bkB_ BK398 hb); replace BK418 := a0_ (bkB_ BK418 hb); replace HB := a0_ (below_step bq1_ hb); (try clear hb); (try clear hb2); (try clear hk); (try clear hi)))
     go_meet
     case rel => exact ⟨_, ((t417 != t384)), rs_, H', ⟨by have := HJ30.out; first | omega | exact Nat.le_refl _⟩, ⟨by (with_reducible repeat (first | apply Kd.R_alloc | apply Kd.R_drewN | apply Kd.R_drew)); exact Kd.R_mono HO_386006.out (fun _ hk => ⟨hk.2.2.1, ⟨hk.2.2.2.1, ⟨hk.2.2.2.2.1, ⟨hk.2.2.2.2.2.1, hk.2.2.2.2.2.2.1⟩⟩⟩⟩)⟩, ⟨by (with_reducible repeat (first | apply Kd.R_alloc | apply Kd.R_drewN | apply Kd.R_drew)); exact Kd.R_mono HO_386007.out (fun _ hk => ⟨hk.2.2.1, ⟨hk.2.2.2.1, ⟨hk.2.2.2.2.1, ⟨hk.2.2.2.2.2.1, hk.2.2.2.2.2.2.1⟩⟩⟩⟩)⟩, ⟨by (with_reducible repeat (first | apply Kd.R_alloc | apply Kd.R_drewN | apply Kd.R_drew)); exact Kd.R_mono HO_399006.out (fun _ hk => ⟨hk.2.2.1, ⟨hk.2.2.2.1, ⟨hk.2.2.2.2.1, ⟨hk.2.2.2.2.2.1, hk.2.2.2.2.2.2.1⟩⟩⟩⟩)⟩, ⟨by (with_reducible repeat (first | apply Kd.R_alloc | apply Kd.R_drewN | apply Kd.R_drew)); exact Kd.R_mono HO_399007.out (fun _ hk => ⟨hk.2.2.1, ⟨hk.2.2.2.1, ⟨hk.2.2.2.2.1, ⟨hk.2.2.2.2.2.1, hk.2.2.2.2.2.2.1⟩⟩⟩⟩)⟩, ⟨by (with_reducible repeat (first | apply Kd.R_alloc | apply Kd.R_drewN | apply Kd.R_drew)); exact Kd.R_mono HO_419006.out (fun _ hk => ⟨hk.2.2.1, ⟨hk.2.2.2.1, ⟨hk.2.2.2.2.1, ⟨hk.2.2.2.2.2.1, hk.2.2.2.2.2.2.1⟩⟩⟩⟩)⟩, ⟨by (with_reducible repeat (first | apply Kd.R_alloc | apply Kd.R_drewN | apply Kd.R_drew)); exact Kd.R_mono HO_419007.out (fun _ hk => ⟨hk.2.2.1, ⟨hk.2.2.2.1, ⟨hk.2.2.2.2.1, ⟨hk.2.2.2.2.2.1, hk.2.2.2.2.2.2.1⟩⟩⟩⟩)⟩, ⟨by (with_reducible repeat (first | refine blk_drewN ?_ _ | refine blk_drew ?_ | refine blk_alloc ?_ _)); exact BK350.out⟩, ⟨by (with_reducible repeat (first | refine blk_drewN ?_ _ | refine blk_drew ?_ | refine blk_alloc ?_ _)); exact BK385.out⟩, ⟨by (with_reducible repeat (first | refine blk_drewN ?_ _ | refine blk_drew ?_ | refine blk_alloc ?_ _)); exact BK398.out⟩, ⟨by (with_reducible repeat (first | refine blk_drewN ?_ _ | refine blk_drew ?_ | refine blk_alloc ?_ _)); exact BK418.out⟩, ⟨bq1_⟩⟩
    replace c124 := Bool.eq_false_iff.mpr c124
    subst c124
    rw [if_neg (show ¬ (false = true) by decide)] at H
    have H' := a0_ H
    clear H
    have hnb133 := NB418_350.out
    have hnc133 := NB350_418.out
    have hnb134 := NB418_385.out
    have hnc134 := NB385_418.out
    have hnb135 := NB418_398.out
    have hnc135 := NB398_418.out
    have z136_0 : w121.cell? ⟨gb418, 0, none⟩ = some (.int .i64 t405) := (blk_cell BK418.out 0).trans rfl
    have z136_1 : w121.cell? ⟨gb418, 1, none⟩ = some (.bool t406) := (blk_cell BK418.out 1).trans rfl
    have z136_2 : w121.cell? ⟨gb418, 2, none⟩ = some (.bool t407) := (blk_cell BK418.out 2).trans rfl
    have z136_3 : w121.cell? ⟨gb418, 3, none⟩ = some (.int .i64 t408) := (blk_cell BK418.out 3).trans rfl
    have z136_4 : w121.cell? ⟨gb418, 4, none⟩ = some (.string t409) := (blk_cell BK418.out 4).trans rfl
    have z136_5 : w121.cell? ⟨gb418, 5, none⟩ = some (.int .i64 t410) := (blk_cell BK418.out 5).trans rfl
    have z136_6 : w121.cell? ⟨gb418, 6, none⟩ = some (.slice Ao70 t411.length co70) := (blk_cell BK418.out 6).trans rfl
    have z136_7 : w121.cell? ⟨gb418, 7, none⟩ = some (.slice Ao71 t414.length co71) := (blk_cell BK418.out 7).trans rfl
    have q136_0 := blk_frozen BK418.out 0
    have q136_1 := blk_frozen BK418.out 1
    have q136_2 := blk_frozen BK418.out 2
    have q136_3 := blk_frozen BK418.out 3
    have q136_4 := blk_frozen BK418.out 4
    have q136_5 := blk_frozen BK418.out 5
    have q136_6 := blk_frozen BK418.out 6
    have q136_7 := blk_frozen BK418.out 7
    have hnb137 := NB385_350.out
    have hnc137 := NB350_385.out
    have hnb138 := NB385_398.out
    have hnc138 := NB398_385.out
    have z139_0 : w121.cell? ⟨gb385, 0, none⟩ = some (.int .i64 t372) := (blk_cell BK385.out 0).trans rfl
    have z139_1 : w121.cell? ⟨gb385, 1, none⟩ = some (.bool t373) := (blk_cell BK385.out 1).trans rfl
    have z139_2 : w121.cell? ⟨gb385, 2, none⟩ = some (.bool t374) := (blk_cell BK385.out 2).trans rfl
    have z139_3 : w121.cell? ⟨gb385, 3, none⟩ = some (.int .i64 t375) := (blk_cell BK385.out 3).trans rfl
    have z139_4 : w121.cell? ⟨gb385, 4, none⟩ = some (.string t376) := (blk_cell BK385.out 4).trans rfl
    have z139_5 : w121.cell? ⟨gb385, 5, none⟩ = some (.int .i64 t377) := (blk_cell BK385.out 5).trans rfl
    have z139_6 : w121.cell? ⟨gb385, 6, none⟩ = some (.slice Ao49 t378.length co49) := (blk_cell BK385.out 6).trans rfl
    have z139_7 : w121.cell? ⟨gb385, 7, none⟩ = some (.slice Ao50 t381.length co50) := (blk_cell BK385.out 7).trans rfl
    have q139_0 := blk_frozen BK385.out 0
    have q139_1 := blk_frozen BK385.out 1
    have q139_2 := blk_frozen BK385.out 2
    have q139_3 := blk_frozen BK385.out 3
    have q139_4 := blk_frozen BK385.out 4
    have q139_5 := blk_frozen BK385.out 5
    have q139_6 := blk_frozen BK385.out 6
    have q139_7 := blk_frozen BK385.out 7
    go_wp2_with (first | (go_at_call 14; (with_reducible refine (laws_eqMessage.calls kj30 t405 t406 t407 t408 t409 t410 _ _ t411 _ _ t414 t372 t373 t374 t375 t376 t377 _ _ t378 _ _ t381 false _ ?side1 ?side2 ?side3 ?side4 ?side5 ?side6 ?side7 ?side8 A123.out).mono ?_); (case side1 => exact kD_ (Kd.R_reads' HO_419006.out).2.2); (case side2 => exact (Kd.R_reads' HO_419006.out).2.1); (case side3 => exact kD_ (Kd.R_reads' HO_419007.out).2.2); (case side4 => exact (Kd.R_reads' HO_419007.out).2.1); (case side5 => exact kD_ (Kd.R_reads' HO_386006.out).2.2); (case side6 => exact (Kd.R_reads' HO_386006.out).2.1); (case side7 => exact kD_ (Kd.R_reads' HO_386007.out).2.2); (case side8 => exact (Kd.R_reads' HO_386007.out).2.1); rintro e w140 ⟨rfl, hb⟩; replace HO_13 := a0_ (Kd.R_below (kR_ HO_13.out) hb); replace HO_14 := a0_ (Kd.R_below (kR_ HO_14.out) hb); replace HO_386006 := a0_ (Kd.R_below (kR_ HO_386006.out) hb); replace HO_386007 := a0_ (Kd.R_below (kR_ HO_386007.out) hb); replace HO_399006 := a0_ (Kd.R_below (kR_ HO_399006.out) hb); replace HO_399007 := a0_ (Kd.R_below (kR_ HO_399007.out) hb); replace HO_419006 := a0_ (Kd.R_below (kR_ HO_419006.out) hb); replace HO_419007 := a0_ (Kd.R_below (kR_ HO_419007.out) hb); replace HO428 := a0_ (Kd.R_below (kR_ HO428.out) hb); replace HO431 := a0_ (Kd.R_below (kR_ HO431.out) hb); replace HO435 := a0_ (Kd.R_below (kR_ HO435.out) hb); replace HO439 := a0_ (Kd.R_below (kR_ HO439.out) hb); replace BK350 := a0_ (bkB_ BK350 hb); replace BK385 := a0_ (bkB_ BK385 hb); replace BK398 := a0_ (bkB_ BK398 hb); replace BK418 := a0_ (bkB_ BK418 hb); replace HB := a0_ (below_step bq1_ hb); (try clear hb); (try clear hb2); (try clear hk); (try clear hi)))
    go_meet
    case rel => exact ⟨_, (true), rs_, H', ⟨by have := HJ30.out; first | omega | exact Nat.le_refl _⟩, ⟨by (with_reducible repeat (first | apply Kd.R_alloc | apply Kd.R_drewN | apply Kd.R_drew)); exact Kd.R_mono HO_386006.out (fun _ hk => ⟨hk.2.2.1, ⟨hk.2.2.2.1, ⟨hk.2.2.2.2.1, ⟨hk.2.2.2.2.2.1, hk.2.2.2.2.2.2.1⟩⟩⟩⟩)⟩, ⟨by (with_reducible repeat (first | apply Kd.R_alloc | apply Kd.R_drewN | apply Kd.R_drew)); exact Kd.R_mono HO_386007.out (fun _ hk => ⟨hk.2.2.1, ⟨hk.2.2.2.1, ⟨hk.2.2.2.2.1, ⟨hk.2.2.2.2.2.1, hk.2.2.2.2.2.2.1⟩⟩⟩⟩)⟩, ⟨by (with_reducible repeat (first | apply Kd.R_alloc | apply Kd.R_drewN | apply Kd.R_drew)); exact Kd.R_mono HO_399006.out (fun _ hk => ⟨hk.2.2.1, ⟨hk.2.2.2.1, ⟨hk.2.2.2.2.1, ⟨hk.2.2.2.2.2.1, hk.2.2.2.2.2.2.1⟩⟩⟩⟩)⟩, ⟨by (with_reducible repeat (first | apply Kd.R_alloc | apply Kd.R_drewN | apply Kd.R_drew)); exact Kd.R_mono HO_399007.out (fun _ hk => ⟨hk.2.2.1, ⟨hk.2.2.2.1, ⟨hk.2.2.2.2.1, ⟨hk.2.2.2.2.2.1, hk.2.2.2.2.2.2.1⟩⟩⟩⟩)⟩, ⟨by (with_reducible repeat (first | apply Kd.R_alloc | apply Kd.R_drewN | apply Kd.R_drew)); exact Kd.R_mono HO_419006.out (fun _ hk => ⟨hk.2.2.1, ⟨hk.2.2.2.1, ⟨hk.2.2.2.2.1, ⟨hk.2.2.2.2.2.1, hk.2.2.2.2.2.2.1⟩⟩⟩⟩)⟩, ⟨by (with_reducible repeat (first | apply Kd.R_alloc | apply Kd.R_drewN | apply Kd.R_drew)); exact Kd.R_mono HO_419007.out (fun _ hk => ⟨hk.2.2.1, ⟨hk.2.2.2.1, ⟨hk.2.2.2.2.1, ⟨hk.2.2.2.2.2.1, hk.2.2.2.2.2.2.1⟩⟩⟩⟩)⟩, ⟨by (with_reducible repeat (first | refine blk_drewN ?_ _ | refine blk_drew ?_ | refine blk_alloc ?_ _)); exact BK350.out⟩, ⟨by (with_reducible repeat (first | refine blk_drewN ?_ _ | refine blk_drew ?_ | refine blk_alloc ?_ _)); exact BK385.out⟩, ⟨by (with_reducible repeat (first | refine blk_drewN ?_ _ | refine blk_drew ?_ | refine blk_alloc ?_ _)); exact BK398.out⟩, ⟨by (with_reducible repeat (first | refine blk_drewN ?_ _ | refine blk_drew ?_ | refine blk_alloc ?_ _)); exact BK418.out⟩, ⟨bq1_⟩⟩
   case rest =>
    clear HC103
    try clear c1
    try clear c2
    try clear p2
    try clear c3
    try clear c9
    try clear c11
    try clear c12
    try clear c13
    try clear c14
    try clear c15
    try clear c20
    try clear c21
    try clear c23
    try clear c24
    try clear c90
    try clear c93
    try clear c96
    try clear c99
    try clear c115
    try clear c116
    try clear c117
    try clear c122
    try clear c122b0
    try clear c124
    try clear c125
    try clear c126
    try clear c127
    try clear c129
    try clear c130
    try clear c133
    try clear c134
    try clear c135
    try clear c137
    try clear c138
    try clear z118_0 z118_1 z118_2 z118_3 z118_4 z118_5 z118_6 z118_7
    try clear z128_0 z128_1 z128_2 z128_3 z128_4 z128_5 z128_6 z128_7
    try clear z131_0 z131_1 z131_2 z131_3 z131_4 z131_5 z131_6 z131_7
    try clear z136_0 z136_1 z136_2 z136_3 z136_4 z136_5 z136_6 z136_7
    try clear z139_0 z139_1 z139_2 z139_3 z139_4 z139_5 z139_6 z139_7
    try clear z56_5 z56_6 z56_7
    try clear z61_0 z61_1 z61_2 z61_3 z61_4 z61_5 z61_6 z61_7
    try clear z69_0 z69_1 z69_2 z69_3 z69_4 z69_5 z69_6 z69_7
    try clear z77_0 z77_1 z77_2 z77_3 z77_4 z77_5 z77_6 z77_7
    try clear z80_0 z80_1 z80_2 z80_3 z80_4 z80_5 z80_6 z80_7
    try clear z85_0 z85_1 z85_2 z85_3 z85_4 z85_5 z85_6 z85_7
    try clear z88_0 z88_1 z88_2 z88_3 z88_4 z88_5 z88_6 z88_7
    try clear z8_0 z8_1 z8_2 z8_3 z8_4 z8_5 z8_6 z8_7
    try clear q118_0 q118_1 q118_2 q118_3 q118_4 q118_5 q118_6 q118_7
    try clear q128_0 q128_1 q128_2 q128_3 q128_4 q128_5 q128_6 q128_7
    try clear q131_0 q131_1 q131_2 q131_3 q131_4 q131_5 q131_6 q131_7
    try clear q136_0 q136_1 q136_2 q136_3 q136_4 q136_5 q136_6 q136_7
    try clear q139_0 q139_1 q139_2 q139_3 q139_4 q139_5 q139_6 q139_7
    try clear q13_0 q13_1 q13_2 q13_3 q13_4 q13_5 q13_6 q13_7
    try clear q19_0 q19_1 q19_2 q19_3 q19_4 q19_5 q19_6 q19_7
    try clear q33_0 q33_1 q33_2 q33_3 q33_4 q33_5 q33_6 q33_7
    try clear q37_0 q37_1 q37_2 q37_3 q37_4 q37_5 q37_6 q37_7
    try clear q48_0 q48_1 q48_2 q48_3 q48_4 q48_5 q48_6 q48_7
    try clear q51_0 q51_1 q51_2 q51_3 q51_4 q51_5 q51_6 q51_7
    try clear q56_0 q56_1 q56_2 q56_3 q56_4 q56_5 q56_6 q56_7
    try clear q61_0 q61_1 q61_2 q61_3 q61_4 q61_5 q61_6 q61_7
    try clear q69_0 q69_1 q69_2 q69_3 q69_4 q69_5 q69_6 q69_7
    try clear q77_0 q77_1 q77_2 q77_3 q77_4 q77_5 q77_6 q77_7
    try clear q80_0 q80_1 q80_2 q80_3 q80_4 q80_5 q80_6 q80_7
    try clear q85_0 q85_1 q85_2 q85_3 q85_4 q85_5 q85_6 q85_7
    try clear q88_0 q88_1 q88_2 q88_3 q88_4 q88_5 q88_6 q88_7
    try clear q8_0 q8_1 q8_2 q8_3 q8_4 q8_5 q8_6 q8_7
    obtain ⟨kq, x107_102, rfl, HA, HJ102, HO_386006, HO_386007, HO_399006, HO_399007, HO_419006, HO_419007, BK350, BK385, BK398, BK418, HB⟩ := hcut
    have hl399006_102 := (Kd.R_reads' HO_399006.out).1
    rw [hl399006_102] at HO_399006
    (try simp only [hl399006_102])
    (try simp only [hl399006_102] at BK350)
    (try simp only [hl399006_102] at BK385)
    (try simp only [hl399006_102] at BK398)
    (try simp only [hl399006_102] at BK418)
    (try simp only [hl399006_102] at HO_386006)
    (try simp only [hl399006_102] at HO_386007)
    (try simp only [hl399006_102] at HO_399007)
    (try simp only [hl399006_102] at HO_419006)
    (try simp only [hl399006_102] at HO_419007)
    have hl399007_102 := (Kd.R_reads' HO_399007.out).1
    rw [hl399007_102] at HO_399007
    (try simp only [hl399007_102])
    (try simp only [hl399007_102] at BK350)
    (try simp only [hl399007_102] at BK385)
    (try simp only [hl399007_102] at BK398)
    (try simp only [hl399007_102] at BK418)
    (try simp only [hl399007_102] at HO_386006)
    (try simp only [hl399007_102] at HO_386007)
    (try simp only [hl399007_102] at HO_399006)
    (try simp only [hl399007_102] at HO_419006)
    (try simp only [hl399007_102] at HO_419007)
    cases kq with
    | zero => exact absurd HA.out (by simp [laws_FnExactReplyTo.j1])
    | succ kj102 =>
     have H := HA.out
     clear HA
     simp only [laws_FnExactReplyTo.j1] at H
     by_cases c141 : x107_102 = true
     case pos =>
      subst c141
      rw [if_pos rfl] at H
      obtain rfl := Option.some.inj H
      go_wp2
      go_ret
      exact ⟨rr_, bq1_⟩
     replace c141 := Bool.eq_false_iff.mpr c141
     subst c141
     rw [if_neg (show ¬ (false = true) by decide)] at H
     obtain ⟨⟨t449, t450, t451⟩, A1420, H⟩ := Option.bind_eq_some_iff.mp H
     have A142 := a0_ A1420
     clear A1420
     obtain ⟨t452, A1430, H⟩ := Option.bind_eq_some_iff.mp H
     have A143 := a0_ A1430
     clear A1430
     by_cases c144 : t452 < 0
     case pos =>
      rw [if_pos c144] at H
      have c144b0 := decide_eq_true c144
      clear c144
      obtain rfl := Option.some.inj H
      have hnb145 := NB418_350.out
      have hnc145 := NB350_418.out
      have hnb146 := NB418_385.out
      have hnc146 := NB385_418.out
      have hnb147 := NB418_398.out
      have hnc147 := NB398_418.out
      have z148_0 : wc.cell? ⟨gb418, 0, none⟩ = some (.int .i64 t405) := (blk_cell BK418.out 0).trans rfl
      have z148_1 : wc.cell? ⟨gb418, 1, none⟩ = some (.bool t406) := (blk_cell BK418.out 1).trans rfl
      have z148_2 : wc.cell? ⟨gb418, 2, none⟩ = some (.bool t407) := (blk_cell BK418.out 2).trans rfl
      have z148_3 : wc.cell? ⟨gb418, 3, none⟩ = some (.int .i64 t408) := (blk_cell BK418.out 3).trans rfl
      have z148_4 : wc.cell? ⟨gb418, 4, none⟩ = some (.string t409) := (blk_cell BK418.out 4).trans rfl
      have z148_5 : wc.cell? ⟨gb418, 5, none⟩ = some (.int .i64 t410) := (blk_cell BK418.out 5).trans rfl
      have z148_6 : wc.cell? ⟨gb418, 6, none⟩ = some (.slice Ao70 t411.length co70) := (blk_cell BK418.out 6).trans rfl
      have z148_7 : wc.cell? ⟨gb418, 7, none⟩ = some (.slice Ao71 t414.length co71) := (blk_cell BK418.out 7).trans rfl
      have q148_0 := blk_frozen BK418.out 0
      have q148_1 := blk_frozen BK418.out 1
      have q148_2 := blk_frozen BK418.out 2
      have q148_3 := blk_frozen BK418.out 3
      have q148_4 := blk_frozen BK418.out 4
      have q148_5 := blk_frozen BK418.out 5
      have q148_6 := blk_frozen BK418.out 6
      have q148_7 := blk_frozen BK418.out 7
      go_wp2_with (first | ((with_reducible refine gate_callee (f := 15) rfl ?_); refine goesL_ (some 110) rfl rfl Tryz.func15 (by kernel_rfl) rfl #[.agg #[.int .i64 t405, .bool t406, .bool t407, .int .i64 t408, .string t409, .int .i64 t410, .slice Ao70 t411.length co70, .slice Ao71 t414.length co71], .int .i64 1] rfl argsS_ ?_; (with_reducible refine (laws_markMessage.calls kj102 t405 t406 t407 t408 t409 t410 (fun k_ => some k_ = (.slice Ao70 t411.length co70 : Value).ownBlock) (.slice Ao70 t411.length co70) t411 (fun k_ => some k_ = (.slice Ao71 t414.length co71 : Value).ownBlock) (.slice Ao71 t414.length co71) t414 1 t449 t450 t451 w _ ?side1 ?side2 ?side3 ?side4 ?side5 A142.out).mono ?_); (case side1 => repeat (first | (with_reducible first | exact HB.out | apply below_alloc | apply pw_below_drewN | apply below_drew1 | refine below_set ?_ GE350.out | refine below_set ?_ GE385.out | refine below_set ?_ GE398.out | refine below_set ?_ GE418.out) | exact HB.out)); (case side2 => exact Kd.R_tight rfl HO_419006.out); (case side3 => exact fun k_ e_ => (HO_419006.out.1 k_ e_.symm).2.2.2.2); (case side4 => exact Kd.R_tight rfl HO_419007.out); (case side5 => exact fun k_ e_ => (HO_419007.out.1 k_ e_.symm).2.2.2.2); rintro e w149 ⟨rfl, hy0, hy1, hb, hkp⟩; refine ⟨_, rfl, ?_⟩; have n0_ := a0_ (Kd.R_mono (ok' := fun k_ => nw_ k_ Ao50 t381.length co50 ∧ nw_ k_ Ao57 t442.length co57 ∧ nw_ k_ Ao58 t443.length co58 ∧ nw_ k_ Ao70 t411.length co70 ∧ nw_ k_ Ao71 t414.length co71) (Kd.R_keptB (HO_386006.out) hkp (fun k_ hk_ hs_ => Or.elim hs_ (fun e_ => (hk_.2.2.2.1) e_) (fun e_ => (hk_.2.2.2.2) e_))) (fun k_ hk_ => ⟨hk_.1.1, hk_.1.2.1, hk_.1.2.2.1, hk_.1.2.2.2.1, hk_.1.2.2.2.2⟩)); have n1_ := a0_ (Kd.R_mono (ok' := fun k_ => nw_ k_ Ao49 t378.length co49 ∧ nw_ k_ Ao57 t442.length co57 ∧ nw_ k_ Ao58 t443.length co58 ∧ nw_ k_ Ao70 t411.length co70 ∧ nw_ k_ Ao71 t414.length co71) (Kd.R_keptB (HO_386007.out) hkp (fun k_ hk_ hs_ => Or.elim hs_ (fun e_ => (hk_.2.2.2.1) e_) (fun e_ => (hk_.2.2.2.2) e_))) (fun k_ hk_ => ⟨hk_.1.1, hk_.1.2.1, hk_.1.2.2.1, hk_.1.2.2.2.1, hk_.1.2.2.2.2⟩)); have n2_ := a0_ (Kd.R_mono (ok' := fun k_ => nw_ k_ Ao49 t378.length co49 ∧ nw_ k_ Ao50 t381.length co50 ∧ nw_ k_ Ao58 t443.length co58 ∧ nw_ k_ Ao70 t411.length co70 ∧ nw_ k_ Ao71 t414.length co71) (Kd.R_keptB (HO_399006.out) hkp (fun k_ hk_ hs_ => Or.elim hs_ (fun e_ => (hk_.2.2.2.1) e_) (fun e_ => (hk_.2.2.2.2) e_))) (fun k_ hk_ => ⟨hk_.1.1, hk_.1.2.1, hk_.1.2.2.1, hk_.1.2.2.2.1, hk_.1.2.2.2.2⟩)); have n3_ := a0_ (Kd.R_mono (ok' := fun k_ => nw_ k_ Ao49 t378.length co49 ∧ nw_ k_ Ao50 t381.length co50 ∧ nw_ k_ Ao57 t442.length co57 ∧ nw_ k_ Ao70 t411.length co70 ∧ nw_ k_ Ao71 t414.length co71) (Kd.R_keptB (HO_399007.out) hkp (fun k_ hk_ hs_ => Or.elim hs_ (fun e_ => (hk_.2.2.2.1) e_) (fun e_ => (hk_.2.2.2.2) e_))) (fun k_ hk_ => ⟨hk_.1.1, hk_.1.2.1, hk_.1.2.2.1, hk_.1.2.2.2.1, hk_.1.2.2.2.2⟩)); have n4_ := a0_ (Kd.R_reok rfl hy0 (fun k_ e_ => HO_419006.out.1 k_ e_)); have n5_ := a0_ (Kd.R_reok rfl hy1 (fun k_ e_ => HO_419007.out.1 k_ e_)); have n6_ := a0_ (blk_kept (kB_ BK350.out) hkp (fun hs_ => Or.elim hs_ (fun e_ => (fun e_ => (Kd.R_ne HO_419006.out BK350.out (by decide)) e_) e_) (fun e_ => (fun e_ => (Kd.R_ne HO_419007.out BK350.out (by decide)) e_) e_))); have n7_ := a0_ (blk_kept (kB_ BK385.out) hkp (fun hs_ => Or.elim hs_ (fun e_ => (fun e_ => (Kd.R_ne HO_419006.out BK385.out (by decide)) e_) e_) (fun e_ => (fun e_ => (Kd.R_ne HO_419007.out BK385.out (by decide)) e_) e_))); have n8_ := a0_ (blk_kept (kB_ BK398.out) hkp (fun hs_ => Or.elim hs_ (fun e_ => (fun e_ => (Kd.R_ne HO_419006.out BK398.out (by decide)) e_) e_) (fun e_ => (fun e_ => (Kd.R_ne HO_419007.out BK398.out (by decide)) e_) e_))); have n9_ := a0_ (blk_kept (kB_ BK418.out) hkp (fun hs_ => Or.elim hs_ (fun e_ => (fun e_ => (Kd.R_ne HO_419006.out BK418.out (by decide)) e_) e_) (fun e_ => (fun e_ => (Kd.R_ne HO_419007.out BK418.out (by decide)) e_) e_))); have n10_ := a0_ (hb); clear HO_386006; clear HO_386007; clear HO_399006; clear HO_399007; clear HO_419006; clear HO_419007; clear BK350; clear BK385; clear BK398; clear BK418; clear HB; have HO_386006 := n0_; have HO_386007 := n1_; have HO_399006 := n2_; have HO_399007 := n3_; have HO_419006 := n4_; have HO_419007 := n5_; have BK350 := n6_; have BK385 := n7_; have BK398 := n8_; have BK418 := n9_; have HB := n10_; clear n0_ n1_ n2_ n3_ n4_ n5_ n6_ n7_ n8_ n9_ n10_; (try clear hb); (try clear hkp); (try clear hy0); (try clear hy1); obtain ⟨z150_0, z150_1, z150_2, z150_3, z150_4, z150_5, z150_6, z150_7, q150_0, q150_1, q150_2, q150_3, q150_4, q150_5, q150_6, q150_7⟩ := bk8_ BK418.out) | ((with_reducible refine gate_callee (f := 16) rfl ?_); refine goesL_ (some 113) rfl rfl Tryz.func16 (by kernel_rfl) rfl #[.agg #[.int .i64 t405, .bool t406, .bool t407, .int .i64 t408, .string t409, .int .i64 t410, .slice Ao70 t450.length co70, .slice Ao71 t451.length co71], .int .i64 1] rfl (by (try simp only [List.map_toArray, List.map_cons, List.map_nil]); first | done | (rw [show t450.length = t411.length from (Kd.R_reads' HO_419006.out).1.symm, show t451.length = t414.length from (Kd.R_reads' HO_419007.out).1.symm] <;> rfl) | rfl | (simp only [List.length_drop, List.length_take]; rfl)) ?_; (with_reducible refine (laws_heldMessage.calls kj102 t405 t406 t407 t408 t409 t410 _ _ t450 _ _ t451 1 t452 _ ?side1 ?side2 ?side3 ?side4 A143.out).mono ?_); (case side1 => exact kD_ (Kd.R_reads' HO_419006.out).2.2); (case side2 => rw [show t450.length = t411.length from (Kd.R_reads' HO_419006.out).1.symm]; exact (Kd.R_reads' HO_419006.out).2.1); (case side3 => exact kD_ (Kd.R_reads' HO_419007.out).2.2); (case side4 => rw [show t451.length = t414.length from (Kd.R_reads' HO_419007.out).1.symm]; exact (Kd.R_reads' HO_419007.out).2.1); rintro e w151 ⟨rfl, hb⟩; refine ⟨_, rfl, ?_⟩; replace HO_386006 := a0_ (Kd.R_below (kR_ HO_386006.out) hb); replace HO_386007 := a0_ (Kd.R_below (kR_ HO_386007.out) hb); replace HO_399006 := a0_ (Kd.R_below (kR_ HO_399006.out) hb); replace HO_399007 := a0_ (Kd.R_below (kR_ HO_399007.out) hb); replace HO_419006 := a0_ (Kd.R_below (kR_ HO_419006.out) hb); replace HO_419007 := a0_ (Kd.R_below (kR_ HO_419007.out) hb); replace BK350 := a0_ (bkB_ BK350 hb); replace BK385 := a0_ (bkB_ BK385 hb); replace BK398 := a0_ (bkB_ BK398 hb); replace BK418 := a0_ (bkB_ BK418 hb); replace HB := a0_ (below_step bq1_ hb); (try clear hb); (try clear hb2); (try clear hk); (try clear hi)))
      go_ret
      exact ⟨rr_, bq1_⟩
     rw [if_neg c144] at H
     have c144b0 := decide_eq_false c144
     clear c144
     by_cases c152 : t452 = t449
     case neg =>
      rw [if_neg c152] at H
      have c152b0 := beq_eq_false_iff_ne.mpr c152
      have c152b1 := bne_iff_ne.mpr c152
      obtain rfl := Option.some.inj H
      have hnb228 := NB418_350.out
      have hnc228 := NB350_418.out
      have hnb229 := NB418_385.out
      have hnc229 := NB385_418.out
      have hnb230 := NB418_398.out
      have hnc230 := NB398_418.out
      have z231_0 : wc.cell? ⟨gb418, 0, none⟩ = some (.int .i64 t405) := (blk_cell BK418.out 0).trans rfl
      have z231_1 : wc.cell? ⟨gb418, 1, none⟩ = some (.bool t406) := (blk_cell BK418.out 1).trans rfl
      have z231_2 : wc.cell? ⟨gb418, 2, none⟩ = some (.bool t407) := (blk_cell BK418.out 2).trans rfl
      have z231_3 : wc.cell? ⟨gb418, 3, none⟩ = some (.int .i64 t408) := (blk_cell BK418.out 3).trans rfl
      have z231_4 : wc.cell? ⟨gb418, 4, none⟩ = some (.string t409) := (blk_cell BK418.out 4).trans rfl
      have z231_5 : wc.cell? ⟨gb418, 5, none⟩ = some (.int .i64 t410) := (blk_cell BK418.out 5).trans rfl
      have z231_6 : wc.cell? ⟨gb418, 6, none⟩ = some (.slice Ao70 t411.length co70) := (blk_cell BK418.out 6).trans rfl
      have z231_7 : wc.cell? ⟨gb418, 7, none⟩ = some (.slice Ao71 t414.length co71) := (blk_cell BK418.out 7).trans rfl
      have q231_0 := blk_frozen BK418.out 0
      have q231_1 := blk_frozen BK418.out 1
      have q231_2 := blk_frozen BK418.out 2
      have q231_3 := blk_frozen BK418.out 3
      have q231_4 := blk_frozen BK418.out 4
      have q231_5 := blk_frozen BK418.out 5
      have q231_6 := blk_frozen BK418.out 6
      have q231_7 := blk_frozen BK418.out 7
      go_wp2_with (first | ((with_reducible refine gate_callee (f := 15) rfl ?_); refine goesL_ (some 110) rfl rfl Tryz.func15 (by kernel_rfl) rfl #[.agg #[.int .i64 t405, .bool t406, .bool t407, .int .i64 t408, .string t409, .int .i64 t410, .slice Ao70 t411.length co70, .slice Ao71 t414.length co71], .int .i64 1] rfl argsS_ ?_; (with_reducible refine (laws_markMessage.calls kj102 t405 t406 t407 t408 t409 t410 (fun k_ => some k_ = (.slice Ao70 t411.length co70 : Value).ownBlock) (.slice Ao70 t411.length co70) t411 (fun k_ => some k_ = (.slice Ao71 t414.length co71 : Value).ownBlock) (.slice Ao71 t414.length co71) t414 1 t449 t450 t451 w _ ?side1 ?side2 ?side3 ?side4 ?side5 A142.out).mono ?_); (case side1 => repeat (first | (with_reducible first | exact HB.out | apply below_alloc | apply pw_below_drewN | apply below_drew1 | refine below_set ?_ GE350.out | refine below_set ?_ GE385.out | refine below_set ?_ GE398.out | refine below_set ?_ GE418.out) | exact HB.out)); (case side2 => exact Kd.R_tight rfl HO_419006.out); (case side3 => exact fun k_ e_ => (HO_419006.out.1 k_ e_.symm).2.2.2.2); (case side4 => exact Kd.R_tight rfl HO_419007.out); (case side5 => exact fun k_ e_ => (HO_419007.out.1 k_ e_.symm).2.2.2.2); rintro e w232 ⟨rfl, hy0, hy1, hb, hkp⟩; refine ⟨_, rfl, ?_⟩; have n0_ := a0_ (Kd.R_mono (ok' := fun k_ => nw_ k_ Ao50 t381.length co50 ∧ nw_ k_ Ao57 t442.length co57 ∧ nw_ k_ Ao58 t443.length co58 ∧ nw_ k_ Ao70 t411.length co70 ∧ nw_ k_ Ao71 t414.length co71) (Kd.R_keptB (HO_386006.out) hkp (fun k_ hk_ hs_ => Or.elim hs_ (fun e_ => (hk_.2.2.2.1) e_) (fun e_ => (hk_.2.2.2.2) e_))) (fun k_ hk_ => ⟨hk_.1.1, hk_.1.2.1, hk_.1.2.2.1, hk_.1.2.2.2.1, hk_.1.2.2.2.2⟩)); have n1_ := a0_ (Kd.R_mono (ok' := fun k_ => nw_ k_ Ao49 t378.length co49 ∧ nw_ k_ Ao57 t442.length co57 ∧ nw_ k_ Ao58 t443.length co58 ∧ nw_ k_ Ao70 t411.length co70 ∧ nw_ k_ Ao71 t414.length co71) (Kd.R_keptB (HO_386007.out) hkp (fun k_ hk_ hs_ => Or.elim hs_ (fun e_ => (hk_.2.2.2.1) e_) (fun e_ => (hk_.2.2.2.2) e_))) (fun k_ hk_ => ⟨hk_.1.1, hk_.1.2.1, hk_.1.2.2.1, hk_.1.2.2.2.1, hk_.1.2.2.2.2⟩)); have n2_ := a0_ (Kd.R_mono (ok' := fun k_ => nw_ k_ Ao49 t378.length co49 ∧ nw_ k_ Ao50 t381.length co50 ∧ nw_ k_ Ao58 t443.length co58 ∧ nw_ k_ Ao70 t411.length co70 ∧ nw_ k_ Ao71 t414.length co71) (Kd.R_keptB (HO_399006.out) hkp (fun k_ hk_ hs_ => Or.elim hs_ (fun e_ => (hk_.2.2.2.1) e_) (fun e_ => (hk_.2.2.2.2) e_))) (fun k_ hk_ => ⟨hk_.1.1, hk_.1.2.1, hk_.1.2.2.1, hk_.1.2.2.2.1, hk_.1.2.2.2.2⟩)); have n3_ := a0_ (Kd.R_mono (ok' := fun k_ => nw_ k_ Ao49 t378.length co49 ∧ nw_ k_ Ao50 t381.length co50 ∧ nw_ k_ Ao57 t442.length co57 ∧ nw_ k_ Ao70 t411.length co70 ∧ nw_ k_ Ao71 t414.length co71) (Kd.R_keptB (HO_399007.out) hkp (fun k_ hk_ hs_ => Or.elim hs_ (fun e_ => (hk_.2.2.2.1) e_) (fun e_ => (hk_.2.2.2.2) e_))) (fun k_ hk_ => ⟨hk_.1.1, hk_.1.2.1, hk_.1.2.2.1, hk_.1.2.2.2.1, hk_.1.2.2.2.2⟩)); have n4_ := a0_ (Kd.R_reok rfl hy0 (fun k_ e_ => HO_419006.out.1 k_ e_)); have n5_ := a0_ (Kd.R_reok rfl hy1 (fun k_ e_ => HO_419007.out.1 k_ e_)); have n6_ := a0_ (blk_kept (kB_ BK350.out) hkp (fun hs_ => Or.elim hs_ (fun e_ => (fun e_ => (Kd.R_ne HO_419006.out BK350.out (by decide)) e_) e_) (fun e_ => (fun e_ => (Kd.R_ne HO_419007.out BK350.out (by decide)) e_) e_))); have n7_ := a0_ (blk_kept (kB_ BK385.out) hkp (fun hs_ => Or.elim hs_ (fun e_ => (fun e_ => (Kd.R_ne HO_419006.out BK385.out (by decide)) e_) e_) (fun e_ => (fun e_ => (Kd.R_ne HO_419007.out BK385.out (by decide)) e_) e_))); have n8_ := a0_ (blk_kept (kB_ BK398.out) hkp (fun hs_ => Or.elim hs_ (fun e_ => (fun e_ => (Kd.R_ne HO_419006.out BK398.out (by decide)) e_) e_) (fun e_ => (fun e_ => (Kd.R_ne HO_419007.out BK398.out (by decide)) e_) e_))); have n9_ := a0_ (blk_kept (kB_ BK418.out) hkp (fun hs_ => Or.elim hs_ (fun e_ => (fun e_ => (Kd.R_ne HO_419006.out BK418.out (by decide)) e_) e_) (fun e_ => (fun e_ => (Kd.R_ne HO_419007.out BK418.out (by decide)) e_) e_))); have n10_ := a0_ (hb); clear HO_386006; clear HO_386007; clear HO_399006; clear HO_399007; clear HO_419006; clear HO_419007; clear BK350; clear BK385; clear BK398; clear BK418; clear HB; have HO_386006 := n0_; have HO_386007 := n1_; have HO_399006 := n2_; have HO_399007 := n3_; have HO_419006 := n4_; have HO_419007 := n5_; have BK350 := n6_; have BK385 := n7_; have BK398 := n8_; have BK418 := n9_; have HB := n10_; clear n0_ n1_ n2_ n3_ n4_ n5_ n6_ n7_ n8_ n9_ n10_; (try clear hb); (try clear hkp); (try clear hy0); (try clear hy1); obtain ⟨z233_0, z233_1, z233_2, z233_3, z233_4, z233_5, z233_6, z233_7, q233_0, q233_1, q233_2, q233_3, q233_4, q233_5, q233_6, q233_7⟩ := bk8_ BK418.out) | ((with_reducible refine gate_callee (f := 16) rfl ?_); refine goesL_ (some 113) rfl rfl Tryz.func16 (by kernel_rfl) rfl #[.agg #[.int .i64 t405, .bool t406, .bool t407, .int .i64 t408, .string t409, .int .i64 t410, .slice Ao70 t450.length co70, .slice Ao71 t451.length co71], .int .i64 1] rfl (by (try simp only [List.map_toArray, List.map_cons, List.map_nil]); first | done | (rw [show t450.length = t411.length from (Kd.R_reads' HO_419006.out).1.symm, show t451.length = t414.length from (Kd.R_reads' HO_419007.out).1.symm] <;> rfl) | rfl | (simp only [List.length_drop, List.length_take]; rfl)) ?_; (with_reducible refine (laws_heldMessage.calls kj102 t405 t406 t407 t408 t409 t410 _ _ t450 _ _ t451 1 t452 _ ?side1 ?side2 ?side3 ?side4 A143.out).mono ?_); (case side1 => exact kD_ (Kd.R_reads' HO_419006.out).2.2); (case side2 => rw [show t450.length = t411.length from (Kd.R_reads' HO_419006.out).1.symm]; exact (Kd.R_reads' HO_419006.out).2.1); (case side3 => exact kD_ (Kd.R_reads' HO_419007.out).2.2); (case side4 => rw [show t451.length = t414.length from (Kd.R_reads' HO_419007.out).1.symm]; exact (Kd.R_reads' HO_419007.out).2.1); rintro e w234 ⟨rfl, hb⟩; refine ⟨_, rfl, ?_⟩; replace HO_386006 := a0_ (Kd.R_below (kR_ HO_386006.out) hb); replace HO_386007 := a0_ (Kd.R_below (kR_ HO_386007.out) hb); replace HO_399006 := a0_ (Kd.R_below (kR_ HO_399006.out) hb); replace HO_399007 := a0_ (Kd.R_below (kR_ HO_399007.out) hb); replace HO_419006 := a0_ (Kd.R_below (kR_ HO_419006.out) hb); replace HO_419007 := a0_ (Kd.R_below (kR_ HO_419007.out) hb); replace BK350 := a0_ (bkB_ BK350 hb); replace BK385 := a0_ (bkB_ BK385 hb); replace BK398 := a0_ (bkB_ BK398 hb); replace BK418 := a0_ (bkB_ BK418 hb); replace HB := a0_ (below_step bq1_ hb); (try clear hb); (try clear hb2); (try clear hk); (try clear hi)))
      go_ret
      exact ⟨rr_, bq1_⟩
     rw [if_pos c152] at H
     have c152b0 := beq_iff_eq.mpr c152
     have c152b1 := bne_eq_false_iff_eq.mpr c152
     clear c152
     obtain ⟨⟨t453, t454, t455, t456, t457, t458, t459, t462⟩, A1530, H⟩ := Option.bind_eq_some_iff.mp H
     have A153 := a0_ A1530
     clear A1530
     obtain ⟨t465, A1540, H⟩ := Option.bind_eq_some_iff.mp H
     have A154 := a0_ A1540
     clear A1540
     obtain ⟨t468, A1550, H⟩ := Option.bind_eq_some_iff.mp H
     have A155 := a0_ A1550
     clear A1550
     obtain ⟨⟨t471, t472, t473, t474, t475, t476, t477, t480, t483⟩, A1560, H⟩ := Option.bind_eq_some_iff.mp H
     have A156 := a0_ A1560
     clear A1560
     have HC157 := a0_ H
     clear H
     have hnb158 := NB418_350.out
     have hnc158 := NB350_418.out
     have hnb159 := NB418_385.out
     have hnc159 := NB385_418.out
     have hnb160 := NB418_398.out
     have hnc160 := NB398_418.out
     have z161_0 : wc.cell? ⟨gb418, 0, none⟩ = some (.int .i64 t405) := (blk_cell BK418.out 0).trans rfl
     have z161_1 : wc.cell? ⟨gb418, 1, none⟩ = some (.bool t406) := (blk_cell BK418.out 1).trans rfl
     have z161_2 : wc.cell? ⟨gb418, 2, none⟩ = some (.bool t407) := (blk_cell BK418.out 2).trans rfl
     have z161_3 : wc.cell? ⟨gb418, 3, none⟩ = some (.int .i64 t408) := (blk_cell BK418.out 3).trans rfl
     have z161_4 : wc.cell? ⟨gb418, 4, none⟩ = some (.string t409) := (blk_cell BK418.out 4).trans rfl
     have z161_5 : wc.cell? ⟨gb418, 5, none⟩ = some (.int .i64 t410) := (blk_cell BK418.out 5).trans rfl
     have z161_6 : wc.cell? ⟨gb418, 6, none⟩ = some (.slice Ao70 t411.length co70) := (blk_cell BK418.out 6).trans rfl
     have z161_7 : wc.cell? ⟨gb418, 7, none⟩ = some (.slice Ao71 t414.length co71) := (blk_cell BK418.out 7).trans rfl
     have q161_0 := blk_frozen BK418.out 0
     have q161_1 := blk_frozen BK418.out 1
     have q161_2 := blk_frozen BK418.out 2
     have q161_3 := blk_frozen BK418.out 3
     have q161_4 := blk_frozen BK418.out 4
     have q161_5 := blk_frozen BK418.out 5
     have q161_6 := blk_frozen BK418.out 6
     have q161_7 := blk_frozen BK418.out 7
     go_upto_region 39 with (first | ((with_reducible refine gate_callee (f := 15) rfl ?_); refine goesL_ (some 110) rfl rfl Tryz.func15 (by kernel_rfl) rfl #[.agg #[.int .i64 t405, .bool t406, .bool t407, .int .i64 t408, .string t409, .int .i64 t410, .slice Ao70 t411.length co70, .slice Ao71 t414.length co71], .int .i64 1] rfl argsS_ ?_; (with_reducible refine (laws_markMessage.calls kj102 t405 t406 t407 t408 t409 t410 (fun k_ => some k_ = (.slice Ao70 t411.length co70 : Value).ownBlock) (.slice Ao70 t411.length co70) t411 (fun k_ => some k_ = (.slice Ao71 t414.length co71 : Value).ownBlock) (.slice Ao71 t414.length co71) t414 1 t449 t450 t451 w _ ?side1 ?side2 ?side3 ?side4 ?side5 A142.out).mono ?_); (case side1 => repeat (first | (with_reducible first | exact HB.out | apply below_alloc | apply pw_below_drewN | apply below_drew1 | refine below_set ?_ GE350.out | refine below_set ?_ GE385.out | refine below_set ?_ GE398.out | refine below_set ?_ GE418.out) | exact HB.out)); (case side2 => exact Kd.R_tight rfl HO_419006.out); (case side3 => exact fun k_ e_ => (HO_419006.out.1 k_ e_.symm).2.2.2.2); (case side4 => exact Kd.R_tight rfl HO_419007.out); (case side5 => exact fun k_ e_ => (HO_419007.out.1 k_ e_.symm).2.2.2.2); rintro e w162 ⟨rfl, hy0, hy1, hb, hkp⟩; refine ⟨_, rfl, ?_⟩; have n0_ := a0_ (Kd.R_mono (ok' := fun k_ => nw_ k_ Ao50 t381.length co50 ∧ nw_ k_ Ao57 t442.length co57 ∧ nw_ k_ Ao58 t443.length co58 ∧ nw_ k_ Ao70 t411.length co70 ∧ nw_ k_ Ao71 t414.length co71) (Kd.R_keptB (HO_386006.out) hkp (fun k_ hk_ hs_ => Or.elim hs_ (fun e_ => (hk_.2.2.2.1) e_) (fun e_ => (hk_.2.2.2.2) e_))) (fun k_ hk_ => ⟨hk_.1.1, hk_.1.2.1, hk_.1.2.2.1, hk_.1.2.2.2.1, hk_.1.2.2.2.2⟩)); have n1_ := a0_ (Kd.R_mono (ok' := fun k_ => nw_ k_ Ao49 t378.length co49 ∧ nw_ k_ Ao57 t442.length co57 ∧ nw_ k_ Ao58 t443.length co58 ∧ nw_ k_ Ao70 t411.length co70 ∧ nw_ k_ Ao71 t414.length co71) (Kd.R_keptB (HO_386007.out) hkp (fun k_ hk_ hs_ => Or.elim hs_ (fun e_ => (hk_.2.2.2.1) e_) (fun e_ => (hk_.2.2.2.2) e_))) (fun k_ hk_ => ⟨hk_.1.1, hk_.1.2.1, hk_.1.2.2.1, hk_.1.2.2.2.1, hk_.1.2.2.2.2⟩)); have n2_ := a0_ (Kd.R_mono (ok' := fun k_ => nw_ k_ Ao49 t378.length co49 ∧ nw_ k_ Ao50 t381.length co50 ∧ nw_ k_ Ao58 t443.length co58 ∧ nw_ k_ Ao70 t411.length co70 ∧ nw_ k_ Ao71 t414.length co71) (Kd.R_keptB (HO_399006.out) hkp (fun k_ hk_ hs_ => Or.elim hs_ (fun e_ => (hk_.2.2.2.1) e_) (fun e_ => (hk_.2.2.2.2) e_))) (fun k_ hk_ => ⟨hk_.1.1, hk_.1.2.1, hk_.1.2.2.1, hk_.1.2.2.2.1, hk_.1.2.2.2.2⟩)); have n3_ := a0_ (Kd.R_mono (ok' := fun k_ => nw_ k_ Ao49 t378.length co49 ∧ nw_ k_ Ao50 t381.length co50 ∧ nw_ k_ Ao57 t442.length co57 ∧ nw_ k_ Ao70 t411.length co70 ∧ nw_ k_ Ao71 t414.length co71) (Kd.R_keptB (HO_399007.out) hkp (fun k_ hk_ hs_ => Or.elim hs_ (fun e_ => (hk_.2.2.2.1) e_) (fun e_ => (hk_.2.2.2.2) e_))) (fun k_ hk_ => ⟨hk_.1.1, hk_.1.2.1, hk_.1.2.2.1, hk_.1.2.2.2.1, hk_.1.2.2.2.2⟩)); have n4_ := a0_ (Kd.R_reok rfl hy0 (fun k_ e_ => HO_419006.out.1 k_ e_)); have n5_ := a0_ (Kd.R_reok rfl hy1 (fun k_ e_ => HO_419007.out.1 k_ e_)); have n6_ := a0_ (blk_kept (kB_ BK350.out) hkp (fun hs_ => Or.elim hs_ (fun e_ => (fun e_ => (Kd.R_ne HO_419006.out BK350.out (by decide)) e_) e_) (fun e_ => (fun e_ => (Kd.R_ne HO_419007.out BK350.out (by decide)) e_) e_))); have n7_ := a0_ (blk_kept (kB_ BK385.out) hkp (fun hs_ => Or.elim hs_ (fun e_ => (fun e_ => (Kd.R_ne HO_419006.out BK385.out (by decide)) e_) e_) (fun e_ => (fun e_ => (Kd.R_ne HO_419007.out BK385.out (by decide)) e_) e_))); have n8_ := a0_ (blk_kept (kB_ BK398.out) hkp (fun hs_ => Or.elim hs_ (fun e_ => (fun e_ => (Kd.R_ne HO_419006.out BK398.out (by decide)) e_) e_) (fun e_ => (fun e_ => (Kd.R_ne HO_419007.out BK398.out (by decide)) e_) e_))); have n9_ := a0_ (blk_kept (kB_ BK418.out) hkp (fun hs_ => Or.elim hs_ (fun e_ => (fun e_ => (Kd.R_ne HO_419006.out BK418.out (by decide)) e_) e_) (fun e_ => (fun e_ => (Kd.R_ne HO_419007.out BK418.out (by decide)) e_) e_))); have n10_ := a0_ (hb); clear HO_386006; clear HO_386007; clear HO_399006; clear HO_399007; clear HO_419006; clear HO_419007; clear BK350; clear BK385; clear BK398; clear BK418; clear HB; have HO_386006 := n0_; have HO_386007 := n1_; have HO_399006 := n2_; have HO_399007 := n3_; have HO_419006 := n4_; have HO_419007 := n5_; have BK350 := n6_; have BK385 := n7_; have BK398 := n8_; have BK418 := n9_; have HB := n10_; clear n0_ n1_ n2_ n3_ n4_ n5_ n6_ n7_ n8_ n9_ n10_; (try clear hb); (try clear hkp); (try clear hy0); (try clear hy1); obtain ⟨z163_0, z163_1, z163_2, z163_3, z163_4, z163_5, z163_6, z163_7, q163_0, q163_1, q163_2, q163_3, q163_4, q163_5, q163_6, q163_7⟩ := bk8_ BK418.out) | ((with_reducible refine gate_callee (f := 16) rfl ?_); refine goesL_ (some 113) rfl rfl Tryz.func16 (by kernel_rfl) rfl #[.agg #[.int .i64 t405, .bool t406, .bool t407, .int .i64 t408, .string t409, .int .i64 t410, .slice Ao70 t450.length co70, .slice Ao71 t451.length co71], .int .i64 1] rfl (by (try simp only [List.map_toArray, List.map_cons, List.map_nil]); first | done | (rw [show t450.length = t411.length from (Kd.R_reads' HO_419006.out).1.symm, show t451.length = t414.length from (Kd.R_reads' HO_419007.out).1.symm] <;> rfl) | rfl | (simp only [List.length_drop, List.length_take]; rfl)) ?_; (with_reducible refine (laws_heldMessage.calls kj102 t405 t406 t407 t408 t409 t410 _ _ t450 _ _ t451 1 t452 _ ?side1 ?side2 ?side3 ?side4 A143.out).mono ?_); (case side1 => exact kD_ (Kd.R_reads' HO_419006.out).2.2); (case side2 => rw [show t450.length = t411.length from (Kd.R_reads' HO_419006.out).1.symm]; exact (Kd.R_reads' HO_419006.out).2.1); (case side3 => exact kD_ (Kd.R_reads' HO_419007.out).2.2); (case side4 => rw [show t451.length = t414.length from (Kd.R_reads' HO_419007.out).1.symm]; exact (Kd.R_reads' HO_419007.out).2.1); rintro e w164 ⟨rfl, hb⟩; refine ⟨_, rfl, ?_⟩; replace HO_386006 := a0_ (Kd.R_below (kR_ HO_386006.out) hb); replace HO_386007 := a0_ (Kd.R_below (kR_ HO_386007.out) hb); replace HO_399006 := a0_ (Kd.R_below (kR_ HO_399006.out) hb); replace HO_399007 := a0_ (Kd.R_below (kR_ HO_399007.out) hb); replace HO_419006 := a0_ (Kd.R_below (kR_ HO_419006.out) hb); replace HO_419007 := a0_ (Kd.R_below (kR_ HO_419007.out) hb); replace BK350 := a0_ (bkB_ BK350 hb); replace BK385 := a0_ (bkB_ BK385 hb); replace BK398 := a0_ (bkB_ BK398 hb); replace BK418 := a0_ (bkB_ BK418 hb); replace HB := a0_ (below_step bq1_ hb); (try clear hb); (try clear hb2); (try clear hk); (try clear hi); have hnb165 := NB350_385.out; have hnc165 := NB385_350.out; have hnb166 := NB350_398.out; have hnc166 := NB398_350.out; obtain ⟨z167_0, z167_1, z167_2, z167_3, z167_4, z167_5, z167_6, z167_7, q167_0, q167_1, q167_2, q167_3, q167_4, q167_5, q167_6, q167_7⟩ := bk8_ BK350.out) | ((with_reducible refine gate_callee (f := 20) rfl ?_); refine goesL_ (some 121) rfl rfl Tryz.func20 (by kernel_rfl) rfl #[.agg #[.int .i64 a0_0, .bool a0_1, .bool a0_2, .int .i64 a0_3, .string a0_4, .int .i64 a0_5, .slice A0_6 l0_6.length c0_6, .slice A0_7 l0_7.length c0_7]] rfl argsS_ ?_; (with_reducible refine (laws_toMessage.calls kj102 a0_0 a0_1 a0_2 a0_3 a0_4 a0_5 _ _ l0_6 _ _ l0_7 t453 t454 t455 t456 t457 t458 t459 t462 _ ?side1 ?side2 ?side3 ?side4 A153.out).mono ?_); (case side1 => exact kC_ HR0_6.out HB.out); (case side2 => exact HC0_6.out); (case side3 => exact kC_ HR0_7.out HB.out); (case side4 => exact HC0_7.out); rintro e w168 ⟨v460, v463, rfl, ho0, ho1, hb⟩; refine ⟨_, rfl, ?_⟩; have n0_ := a0_ (Kd.R_mono (Kd.R_told (Kd.R_told (Kd.R_old (kR_ HO_386006.out) hb) (Kd.R_base ho0)) (Kd.R_base ho1)) (fun _ h_ => h_.1)); have n1_ := a0_ (Kd.R_mono (Kd.R_told (Kd.R_told (Kd.R_old (kR_ HO_386007.out) hb) (Kd.R_base ho0)) (Kd.R_base ho1)) (fun _ h_ => h_.1)); have n2_ := a0_ (Kd.R_mono (Kd.R_told (Kd.R_told (Kd.R_old (kR_ HO_399006.out) hb) (Kd.R_base ho0)) (Kd.R_base ho1)) (fun _ h_ => h_.1)); have n3_ := a0_ (Kd.R_mono (Kd.R_told (Kd.R_told (Kd.R_old (kR_ HO_399007.out) hb) (Kd.R_base ho0)) (Kd.R_base ho1)) (fun _ h_ => h_.1)); have n4_ := a0_ (Kd.R_mono (Kd.R_told (Kd.R_told (Kd.R_old (kR_ HO_419006.out) hb) (Kd.R_base ho0)) (Kd.R_base ho1)) (fun _ h_ => h_.1)); have n5_ := a0_ (Kd.R_mono (Kd.R_told (Kd.R_told (Kd.R_old (kR_ HO_419007.out) hb) (Kd.R_base ho0)) (Kd.R_base ho1)) (fun _ h_ => h_.1)); have n6_ := a0_ (Kd.R_lower (Kd.R_new' (Kd.R_new' (Kd.R_new' (Kd.R_new' (Kd.R_new' (Kd.R_new' ho0 (Kd.R_lt (kR_ HO_386006.out))) (Kd.R_lt (kR_ HO_386007.out))) (Kd.R_lt (kR_ HO_399006.out))) (Kd.R_lt (kR_ HO_399007.out))) (Kd.R_lt (kR_ HO_419006.out))) (Kd.R_lt (kR_ HO_419007.out))) (below_size bq1_)); have n7_ := a0_ (Kd.R_lower (Kd.R_new' (Kd.R_new' (Kd.R_new' (Kd.R_new' (Kd.R_new' (Kd.R_new' ho1 (Kd.R_lt (kR_ HO_386006.out))) (Kd.R_lt (kR_ HO_386007.out))) (Kd.R_lt (kR_ HO_399006.out))) (Kd.R_lt (kR_ HO_399007.out))) (Kd.R_lt (kR_ HO_419006.out))) (Kd.R_lt (kR_ HO_419007.out))) (below_size bq1_)); have n8_ := a0_ (bkB_ BK350 hb); have n9_ := a0_ (bkB_ BK385 hb); have n10_ := a0_ (bkB_ BK398 hb); have n11_ := a0_ (bkB_ BK418 hb); have n12_ := a0_ (below_step bq1_ hb); clear HO_386006; clear HO_386007; clear HO_399006; clear HO_399007; clear HO_419006; clear HO_419007; clear BK350; clear BK385; clear BK398; clear BK418; clear HB; have HO_386006 := n0_; have HO_386007 := n1_; have HO_399006 := n2_; have HO_399007 := n3_; have HO_419006 := n4_; have HO_419007 := n5_; have HO461 := n6_; have HO464 := n7_; have BK350 := n8_; have BK385 := n9_; have BK398 := n10_; have BK418 := n11_; have HB := n12_; clear n0_ n1_ n2_ n3_ n4_ n5_ n6_ n7_ n8_ n9_ n10_ n11_ n12_; (try clear hb); (try clear hb2); (try clear hk); (try clear hi); (try clear ho0); (try clear ho1)) | ((with_reducible refine gate_callee (f := 21) rfl ?_); refine goesL_ (some 124) rfl rfl Tryz.func21 (by kernel_rfl) rfl #[.slice A2 l2.length c2] rfl argsS_ ?_; (with_reducible refine (laws_toRecordS.calls kj102 _ _ l2 t465 _ ?side1 ?side2 A154.out).mono ?_); (case side1 => exact kC_ HR2.out HB.out); (case side2 => exact HC2.out); rintro e w169 ⟨v466, rfl, ho0, hb⟩; refine ⟨_, rfl, ?_⟩; have n0_ := a0_ (Kd.R_elder' (kR_ HO_386006.out) (Kd.R_base ho0) hb); have n1_ := a0_ (Kd.R_elder' (kR_ HO_386007.out) (Kd.R_base ho0) hb); have n2_ := a0_ (Kd.R_elder' (kR_ HO_399006.out) (Kd.R_base ho0) hb); have n3_ := a0_ (Kd.R_elder' (kR_ HO_399007.out) (Kd.R_base ho0) hb); have n4_ := a0_ (Kd.R_elder' (kR_ HO_419006.out) (Kd.R_base ho0) hb); have n5_ := a0_ (Kd.R_elder' (kR_ HO_419007.out) (Kd.R_base ho0) hb); have n6_ := a0_ (Kd.R_elder' (kR_ HO461.out) (Kd.R_base ho0) hb); have n7_ := a0_ (Kd.R_elder' (kR_ HO464.out) (Kd.R_base ho0) hb); have n8_ := a0_ (Kd.R_lower (Kd.R_new' (Kd.R_new' (Kd.R_new' (Kd.R_new' (Kd.R_new' (Kd.R_new' (Kd.R_new' (Kd.R_new' ho0 (Kd.R_lt (kR_ HO_386006.out))) (Kd.R_lt (kR_ HO_386007.out))) (Kd.R_lt (kR_ HO_399006.out))) (Kd.R_lt (kR_ HO_399007.out))) (Kd.R_lt (kR_ HO_419006.out))) (Kd.R_lt (kR_ HO_419007.out))) (Kd.R_lt (kR_ HO461.out))) (Kd.R_lt (kR_ HO464.out))) (below_size bq1_)); have n9_ := a0_ (bkB_ BK350 hb); have n10_ := a0_ (bkB_ BK385 hb); have n11_ := a0_ (bkB_ BK398 hb); have n12_ := a0_ (bkB_ BK418 hb); have n13_ := a0_ (below_step bq1_ hb); clear HO_386006; clear HO_386007; clear HO_399006; clear HO_399007; clear HO_419006; clear HO_419007; clear HO461; clear HO464; clear BK350; clear BK385; clear BK398; clear BK418; clear HB; have HO_386006 := n0_; have HO_386007 := n1_; have HO_399006 := n2_; have HO_399007 := n3_; have HO_419006 := n4_; have HO_419007 := n5_; have HO461 := n6_; have HO464 := n7_; have HO467 := n8_; have BK350 := n9_; have BK385 := n10_; have BK398 := n11_; have BK418 := n12_; have HB := n13_; clear n0_ n1_ n2_ n3_ n4_ n5_ n6_ n7_ n8_ n9_ n10_ n11_ n12_ n13_; (try clear hb); (try clear hb2); (try clear hk); (try clear hi); (try clear ho0)) | ((with_reducible refine gate_callee (f := 21) rfl ?_); refine goesL_ (some 126) rfl rfl Tryz.func21 (by kernel_rfl) rfl #[.slice A3 l3.length c3] rfl argsS_ ?_; (with_reducible refine (laws_toRecordS.calls kj102 _ _ l3 t468 _ ?side1 ?side2 A155.out).mono ?_); (case side1 => exact kC_ HR3.out HB.out); (case side2 => exact HC3.out); rintro e w170 ⟨v469, rfl, ho0, hb⟩; refine ⟨_, rfl, ?_⟩; have n0_ := a0_ (Kd.R_elder' (kR_ HO_386006.out) (Kd.R_base ho0) hb); have n1_ := a0_ (Kd.R_elder' (kR_ HO_386007.out) (Kd.R_base ho0) hb); have n2_ := a0_ (Kd.R_elder' (kR_ HO_399006.out) (Kd.R_base ho0) hb); have n3_ := a0_ (Kd.R_elder' (kR_ HO_399007.out) (Kd.R_base ho0) hb); have n4_ := a0_ (Kd.R_elder' (kR_ HO_419006.out) (Kd.R_base ho0) hb); have n5_ := a0_ (Kd.R_elder' (kR_ HO_419007.out) (Kd.R_base ho0) hb); have n6_ := a0_ (Kd.R_elder' (kR_ HO461.out) (Kd.R_base ho0) hb); have n7_ := a0_ (Kd.R_elder' (kR_ HO464.out) (Kd.R_base ho0) hb); have n8_ := a0_ (Kd.R_elder' (kR_ HO467.out) (Kd.R_base ho0) hb); have n9_ := a0_ (Kd.R_lower (Kd.R_new' (Kd.R_new' (Kd.R_new' (Kd.R_new' (Kd.R_new' (Kd.R_new' (Kd.R_new' (Kd.R_new' (Kd.R_new' ho0 (Kd.R_lt (kR_ HO_386006.out))) (Kd.R_lt (kR_ HO_386007.out))) (Kd.R_lt (kR_ HO_399006.out))) (Kd.R_lt (kR_ HO_399007.out))) (Kd.R_lt (kR_ HO_419006.out))) (Kd.R_lt (kR_ HO_419007.out))) (Kd.R_lt (kR_ HO461.out))) (Kd.R_lt (kR_ HO464.out))) (Kd.R_lt (kR_ HO467.out))) (below_size bq1_)); have n10_ := a0_ (bkB_ BK350 hb); have n11_ := a0_ (bkB_ BK385 hb); have n12_ := a0_ (bkB_ BK398 hb); have n13_ := a0_ (bkB_ BK418 hb); have n14_ := a0_ (below_step bq1_ hb); clear HO_386006; clear HO_386007; clear HO_399006; clear HO_399007; clear HO_419006; clear HO_419007; clear HO461; clear HO464; clear HO467; clear BK350; clear BK385; clear BK398; clear BK418; clear HB; have HO_386006 := n0_; have HO_386007 := n1_; have HO_399006 := n2_; have HO_399007 := n3_; have HO_419006 := n4_; have HO_419007 := n5_; have HO461 := n6_; have HO464 := n7_; have HO467 := n8_; have HO470 := n9_; have BK350 := n10_; have BK385 := n11_; have BK398 := n12_; have BK418 := n13_; have HB := n14_; clear n0_ n1_ n2_ n3_ n4_ n5_ n6_ n7_ n8_ n9_ n10_ n11_ n12_ n13_ n14_; (try clear hb); (try clear hb2); (try clear hk); (try clear hi); (try clear ho0); obtain ⟨Ao171, co171, eo171⟩ := Kd.R_slice HO461.out; subst eo171; obtain ⟨Ao172, co172, eo172⟩ := Kd.R_slice HO464.out; subst eo172; obtain ⟨Ao173, co173, eo173⟩ := Kd.R_slice HO467.out; subst eo173; obtain ⟨Ao174, co174, eo174⟩ := Kd.R_slice HO470.out; subst eo174) | ((with_reducible refine gate_callee (f := 22) rfl ?_); refine goesL_ (some 127) rfl rfl Tryz.func22 (by kernel_rfl) rfl #[.agg #[.int .i64 t453, .bool t454, .bool t455, .int .i64 t456, .string t457, .int .i64 t458, .slice Ao171 t459.length co171, .slice Ao172 t462.length co172], .int .i64 a1, .slice Ao173 t465.length co173, .slice Ao174 t468.length co174] rfl argsS_ ?_; (with_reducible refine (impl_ReplyTo.calls kj102 t453 t454 t455 t456 t457 t458 _ _ t459 _ _ t462 a1 _ _ t465 _ _ t468 t471 t472 t473 t474 t475 t476 t477 t480 t483 _ ?side1 ?side2 ?side3 ?side4 ?side5 ?side6 ?side7 ?side8 A156.out).mono ?_); (case side1 => exact kD_ (Kd.R_reads' HO461.out).2.2); (case side2 => exact (Kd.R_reads' HO461.out).2.1); (case side3 => exact kD_ (Kd.R_reads' HO464.out).2.2); (case side4 => exact (Kd.R_reads' HO464.out).2.1); (case side5 => exact kD_ (Kd.R_reads' HO467.out).2.2); (case side6 => exact (Kd.R_reads' HO467.out).2.1); (case side7 => exact kD_ (Kd.R_reads' HO470.out).2.2); (case side8 => exact (Kd.R_reads' HO470.out).2.1); rintro e w175 ⟨v478, v481, rfl, ho0, ho1, hb⟩; refine ⟨_, rfl, ?_⟩; have n0_ := a0_ (Kd.R_mono (Kd.R_told (Kd.R_told (Kd.R_old (kR_ HO_386006.out) hb) (Kd.R_base ho0)) (Kd.R_base ho1)) (fun _ h_ => h_.1)); have n1_ := a0_ (Kd.R_mono (Kd.R_told (Kd.R_told (Kd.R_old (kR_ HO_386007.out) hb) (Kd.R_base ho0)) (Kd.R_base ho1)) (fun _ h_ => h_.1)); have n2_ := a0_ (Kd.R_mono (Kd.R_told (Kd.R_told (Kd.R_old (kR_ HO_399006.out) hb) (Kd.R_base ho0)) (Kd.R_base ho1)) (fun _ h_ => h_.1)); have n3_ := a0_ (Kd.R_mono (Kd.R_told (Kd.R_told (Kd.R_old (kR_ HO_399007.out) hb) (Kd.R_base ho0)) (Kd.R_base ho1)) (fun _ h_ => h_.1)); have n4_ := a0_ (Kd.R_mono (Kd.R_told (Kd.R_told (Kd.R_old (kR_ HO_419006.out) hb) (Kd.R_base ho0)) (Kd.R_base ho1)) (fun _ h_ => h_.1)); have n5_ := a0_ (Kd.R_mono (Kd.R_told (Kd.R_told (Kd.R_old (kR_ HO_419007.out) hb) (Kd.R_base ho0)) (Kd.R_base ho1)) (fun _ h_ => h_.1)); have n6_ := a0_ (Kd.R_mono (Kd.R_told (Kd.R_told (Kd.R_old (kR_ HO461.out) hb) (Kd.R_base ho0)) (Kd.R_base ho1)) (fun _ h_ => h_.1)); have n7_ := a0_ (Kd.R_mono (Kd.R_told (Kd.R_told (Kd.R_old (kR_ HO464.out) hb) (Kd.R_base ho0)) (Kd.R_base ho1)) (fun _ h_ => h_.1)); have n8_ := a0_ (Kd.R_mono (Kd.R_told (Kd.R_told (Kd.R_old (kR_ HO467.out) hb) (Kd.R_base ho0)) (Kd.R_base ho1)) (fun _ h_ => h_.1)); have n9_ := a0_ (Kd.R_mono (Kd.R_told (Kd.R_told (Kd.R_old (kR_ HO470.out) hb) (Kd.R_base ho0)) (Kd.R_base ho1)) (fun _ h_ => h_.1)); have n10_ := a0_ (Kd.R_lower (Kd.R_new' (Kd.R_new' (Kd.R_new' (Kd.R_new' (Kd.R_new' (Kd.R_new' (Kd.R_new' (Kd.R_new' (Kd.R_new' (Kd.R_new' ho0 (Kd.R_lt (kR_ HO_386006.out))) (Kd.R_lt (kR_ HO_386007.out))) (Kd.R_lt (kR_ HO_399006.out))) (Kd.R_lt (kR_ HO_399007.out))) (Kd.R_lt (kR_ HO_419006.out))) (Kd.R_lt (kR_ HO_419007.out))) (Kd.R_lt (kR_ HO461.out))) (Kd.R_lt (kR_ HO464.out))) (Kd.R_lt (kR_ HO467.out))) (Kd.R_lt (kR_ HO470.out))) (below_size bq1_)); have n11_ := a0_ (Kd.R_lower (Kd.R_new' (Kd.R_new' (Kd.R_new' (Kd.R_new' (Kd.R_new' (Kd.R_new' (Kd.R_new' (Kd.R_new' (Kd.R_new' (Kd.R_new' ho1 (Kd.R_lt (kR_ HO_386006.out))) (Kd.R_lt (kR_ HO_386007.out))) (Kd.R_lt (kR_ HO_399006.out))) (Kd.R_lt (kR_ HO_399007.out))) (Kd.R_lt (kR_ HO_419006.out))) (Kd.R_lt (kR_ HO_419007.out))) (Kd.R_lt (kR_ HO461.out))) (Kd.R_lt (kR_ HO464.out))) (Kd.R_lt (kR_ HO467.out))) (Kd.R_lt (kR_ HO470.out))) (below_size bq1_)); have n12_ := a0_ (bkB_ BK350 hb); have n13_ := a0_ (bkB_ BK385 hb); have n14_ := a0_ (bkB_ BK398 hb); have n15_ := a0_ (bkB_ BK418 hb); have n16_ := a0_ (below_step bq1_ hb); clear HO_386006; clear HO_386007; clear HO_399006; clear HO_399007; clear HO_419006; clear HO_419007; clear HO461; clear HO464; clear HO467; clear HO470; clear BK350; clear BK385; clear BK398; clear BK418; clear HB; have HO_386006 := n0_; have HO_386007 := n1_; have HO_399006 := n2_; have HO_399007 := n3_; have HO_419006 := n4_; have HO_419007 := n5_; have HO461 := n6_; have HO464 := n7_; have HO467 := n8_; have HO470 := n9_; have HO479 := n10_; have HO482 := n11_; have BK350 := n12_; have BK385 := n13_; have BK398 := n14_; have BK418 := n15_; have HB := n16_; clear n0_ n1_ n2_ n3_ n4_ n5_ n6_ n7_ n8_ n9_ n10_ n11_ n12_ n13_ n14_ n15_ n16_; (try clear hb); (try clear hb2); (try clear hk); (try clear hi); (try clear ho0); (try clear ho1)) | ((with_reducible refine gate_dst (N := 20) rfl ?_); refine boxS_ 20 #[.int .i64 0, .bool false, .bool false, .int .i64 0, .string (⟨#[]⟩ : ByteArray), .int .i64 0, .slice none 0 0, .slice none 0 0] 24 (fun gb484 hg w176 hbox hb => ?_); have n0_ := a0_ (Kd.R_below (kR_ HO_386006.out) hb); have n1_ := a0_ (Kd.R_below (kR_ HO_386007.out) hb); have n2_ := a0_ (Kd.R_below (kR_ HO_399006.out) hb); have n3_ := a0_ (Kd.R_below (kR_ HO_399007.out) hb); have n4_ := a0_ (Kd.R_below (kR_ HO_419006.out) hb); have n5_ := a0_ (Kd.R_below (kR_ HO_419007.out) hb); have n6_ := a0_ (Kd.R_below (kR_ HO461.out) hb); have n7_ := a0_ (Kd.R_below (kR_ HO464.out) hb); have n8_ := a0_ (Kd.R_below (kR_ HO467.out) hb); have n9_ := a0_ (Kd.R_below (kR_ HO470.out) hb); have n10_ := a0_ (Kd.R_below (kR_ HO479.out) hb); have n11_ := a0_ (Kd.R_below (kR_ HO482.out) hb); have n12_ := a0_ (bkB_ BK350 hb); have n13_ := a0_ (bkB_ BK385 hb); have n14_ := a0_ (bkB_ BK398 hb); have n15_ := a0_ (bkB_ BK418 hb); have n16_ := a0_ (below_step bq1_ hb); have n17_ := a0_ (hbox); have n18_ := a0_ (gw_ hg (below_size bq1_) : w.heap.size ≤ gb484); have n19_ := n18_; have n20_ := a0_ ((by rw [hg]; exact Nat.ne_of_lt (blk_lt (g := gb350) (o := .cells #[.int .i64 a0_0, .bool a0_1, .bool a0_2, .int .i64 a0_3, .string a0_4, .int .i64 a0_5, .slice A0_6 l0_6.length c0_6, .slice A0_7 l0_7.length c0_7] 32 (0, 0)) (kB_ BK350.out)) : gb350 ≠ gb484)); have n21_ := a0_ ((by rw [hg]; exact Nat.ne_of_gt (blk_lt (g := gb350) (o := .cells #[.int .i64 a0_0, .bool a0_1, .bool a0_2, .int .i64 a0_3, .string a0_4, .int .i64 a0_5, .slice A0_6 l0_6.length c0_6, .slice A0_7 l0_7.length c0_7] 32 (0, 0)) (kB_ BK350.out)) : gb484 ≠ gb350)); have n22_ := a0_ ((by rw [hg]; exact Nat.ne_of_lt (blk_lt (g := gb385) (o := .cells #[.int .i64 t372, .bool t373, .bool t374, .int .i64 t375, .string t376, .int .i64 t377, .slice Ao49 t378.length co49, .slice Ao50 t381.length co50] 24 (0, 0)) (kB_ BK385.out)) : gb385 ≠ gb484)); have n23_ := a0_ ((by rw [hg]; exact Nat.ne_of_gt (blk_lt (g := gb385) (o := .cells #[.int .i64 t372, .bool t373, .bool t374, .int .i64 t375, .string t376, .int .i64 t377, .slice Ao49 t378.length co49, .slice Ao50 t381.length co50] 24 (0, 0)) (kB_ BK385.out)) : gb484 ≠ gb385)); have n24_ := a0_ ((by rw [hg]; exact Nat.ne_of_lt (blk_lt (g := gb398) (o := .cells #[.int .i64 t386, .bool t387, .bool t388, .int .i64 t389, .string t390, .int .i64 t391, .slice Ao57 t442.length co57, .slice Ao58 t443.length co58] 24 (0, 0)) (kB_ BK398.out)) : gb398 ≠ gb484)); have n25_ := a0_ ((by rw [hg]; exact Nat.ne_of_gt (blk_lt (g := gb398) (o := .cells #[.int .i64 t386, .bool t387, .bool t388, .int .i64 t389, .string t390, .int .i64 t391, .slice Ao57 t442.length co57, .slice Ao58 t443.length co58] 24 (0, 0)) (kB_ BK398.out)) : gb484 ≠ gb398)); have n26_ := a0_ ((by rw [hg]; exact Nat.ne_of_lt (blk_lt (g := gb418) (o := .cells #[.int .i64 t405, .bool t406, .bool t407, .int .i64 t408, .string t409, .int .i64 t410, .slice Ao70 t411.length co70, .slice Ao71 t414.length co71] 24 (0, 0)) (kB_ BK418.out)) : gb418 ≠ gb484)); have n27_ := a0_ ((by rw [hg]; exact Nat.ne_of_gt (blk_lt (g := gb418) (o := .cells #[.int .i64 t405, .bool t406, .bool t407, .int .i64 t408, .string t409, .int .i64 t410, .slice Ao70 t411.length co70, .slice Ao71 t414.length co71] 24 (0, 0)) (kB_ BK418.out)) : gb484 ≠ gb418)); clear HO_386006; clear HO_386007; clear HO_399006; clear HO_399007; clear HO_419006; clear HO_419007; clear HO461; clear HO464; clear HO467; clear HO470; clear HO479; clear HO482; clear BK350; clear BK385; clear BK398; clear BK418; clear HB; have HO_386006 := n0_; have HO_386007 := n1_; have HO_399006 := n2_; have HO_399007 := n3_; have HO_419006 := n4_; have HO_419007 := n5_; have HO461 := n6_; have HO464 := n7_; have HO467 := n8_; have HO470 := n9_; have HO479 := n10_; have HO482 := n11_; have BK350 := n12_; have BK385 := n13_; have BK398 := n14_; have BK418 := n15_; have HB := n16_; have BK484 := n17_; have GW484 := n18_; have GE484 := n19_; have NB350_484 := n20_; have NB484_350 := n21_; have NB385_484 := n22_; have NB484_385 := n23_; have NB398_484 := n24_; have NB484_398 := n25_; have NB418_484 := n26_; have NB484_418 := n27_; clear n0_ n1_ n2_ n3_ n4_ n5_ n6_ n7_ n8_ n9_ n10_ n11_ n12_ n13_ n14_ n15_ n16_ n17_ n18_ n19_ n20_ n21_ n22_ n23_ n24_ n25_ n26_ n27_; clear hb hbox hg; have hnb177 := NB484_350.out; have hnc177 := NB350_484.out; have hnb178 := NB484_385.out; have hnc178 := NB385_484.out; have hnb179 := NB484_398.out; have hnc179 := NB398_484.out; have hnb180 := NB484_418.out; have hnc180 := NB418_484.out; obtain ⟨z181_0, z181_1, z181_2, z181_3, z181_4, z181_5, z181_6, z181_7, q181_0, q181_1, q181_2, q181_3, q181_4, q181_5, q181_6, q181_7⟩ := bk8_ BK484.out; obtain ⟨Ao182, co182, eo182⟩ := Kd.R_slice HO479.out; subst eo182; obtain ⟨Ao183, co183, eo183⟩ := Kd.R_slice HO482.out; subst eo183))
     (try simp only [Act.put, List.setIfInBounds_toArray, List.set_cons_zero, List.set_cons_succ])
     go_cut [138] (fun v138 wc => ∃ (kq : Nat) (x138_156 : Bool), v138 = .bool x138_156 ∧ Aside0 (laws_FnExactReplyTo.j2 kq t449 x138_156 t405 t406 t407 t408 t409 t410 t450 t451 = some r) ∧ Aside0 (kq ≤ kj102) ∧ Aside0 (Kd.R k72 72 wc w.heap.size (fun k_ => some k_ ≠ ((.slice Ao50 t381.length co50) : Value).ownBlock ∧ some k_ ≠ ((.slice Ao57 t442.length co57) : Value).ownBlock ∧ some k_ ≠ ((.slice Ao58 t443.length co58) : Value).ownBlock ∧ some k_ ≠ ((.slice Ao70 t411.length co70) : Value).ownBlock ∧ some k_ ≠ ((.slice Ao71 t414.length co71) : Value).ownBlock ∧ some k_ ≠ ((.slice Ao182 t477.length co182) : Value).ownBlock ∧ some k_ ≠ ((.slice Ao183 t480.length co183) : Value).ownBlock) (.slice Ao49 t378.length co49) t378) ∧ Aside0 (Kd.R k72 72 wc w.heap.size (fun k_ => some k_ ≠ ((.slice Ao49 t378.length co49) : Value).ownBlock ∧ some k_ ≠ ((.slice Ao57 t442.length co57) : Value).ownBlock ∧ some k_ ≠ ((.slice Ao58 t443.length co58) : Value).ownBlock ∧ some k_ ≠ ((.slice Ao70 t411.length co70) : Value).ownBlock ∧ some k_ ≠ ((.slice Ao71 t414.length co71) : Value).ownBlock ∧ some k_ ≠ ((.slice Ao182 t477.length co182) : Value).ownBlock ∧ some k_ ≠ ((.slice Ao183 t480.length co183) : Value).ownBlock) (.slice Ao50 t381.length co50) t381) ∧ Aside0 (Kd.R k72 72 wc w.heap.size (fun k_ => some k_ ≠ ((.slice Ao49 t378.length co49) : Value).ownBlock ∧ some k_ ≠ ((.slice Ao50 t381.length co50) : Value).ownBlock ∧ some k_ ≠ ((.slice Ao58 t443.length co58) : Value).ownBlock ∧ some k_ ≠ ((.slice Ao70 t411.length co70) : Value).ownBlock ∧ some k_ ≠ ((.slice Ao71 t414.length co71) : Value).ownBlock ∧ some k_ ≠ ((.slice Ao182 t477.length co182) : Value).ownBlock ∧ some k_ ≠ ((.slice Ao183 t480.length co183) : Value).ownBlock) (.slice Ao57 t442.length co57) t442) ∧ Aside0 (Kd.R k72 72 wc w.heap.size (fun k_ => some k_ ≠ ((.slice Ao49 t378.length co49) : Value).ownBlock ∧ some k_ ≠ ((.slice Ao50 t381.length co50) : Value).ownBlock ∧ some k_ ≠ ((.slice Ao57 t442.length co57) : Value).ownBlock ∧ some k_ ≠ ((.slice Ao70 t411.length co70) : Value).ownBlock ∧ some k_ ≠ ((.slice Ao71 t414.length co71) : Value).ownBlock ∧ some k_ ≠ ((.slice Ao182 t477.length co182) : Value).ownBlock ∧ some k_ ≠ ((.slice Ao183 t480.length co183) : Value).ownBlock) (.slice Ao58 t443.length co58) t443) ∧ Aside0 (Kd.R k72 72 wc w.heap.size (fun k_ => some k_ ≠ ((.slice Ao49 t378.length co49) : Value).ownBlock ∧ some k_ ≠ ((.slice Ao50 t381.length co50) : Value).ownBlock ∧ some k_ ≠ ((.slice Ao57 t442.length co57) : Value).ownBlock ∧ some k_ ≠ ((.slice Ao58 t443.length co58) : Value).ownBlock ∧ some k_ ≠ ((.slice Ao71 t414.length co71) : Value).ownBlock ∧ some k_ ≠ ((.slice Ao182 t477.length co182) : Value).ownBlock ∧ some k_ ≠ ((.slice Ao183 t480.length co183) : Value).ownBlock) (.slice Ao70 t411.length co70) t450) ∧ Aside0 (Kd.R k72 72 wc w.heap.size (fun k_ => some k_ ≠ ((.slice Ao49 t378.length co49) : Value).ownBlock ∧ some k_ ≠ ((.slice Ao50 t381.length co50) : Value).ownBlock ∧ some k_ ≠ ((.slice Ao57 t442.length co57) : Value).ownBlock ∧ some k_ ≠ ((.slice Ao58 t443.length co58) : Value).ownBlock ∧ some k_ ≠ ((.slice Ao70 t411.length co70) : Value).ownBlock ∧ some k_ ≠ ((.slice Ao182 t477.length co182) : Value).ownBlock ∧ some k_ ≠ ((.slice Ao183 t480.length co183) : Value).ownBlock) (.slice Ao71 t414.length co71) t451) ∧ Aside0 (Kd.R k72 72 wc w.heap.size (fun k_ => some k_ ≠ ((.slice Ao49 t378.length co49) : Value).ownBlock ∧ some k_ ≠ ((.slice Ao50 t381.length co50) : Value).ownBlock ∧ some k_ ≠ ((.slice Ao57 t442.length co57) : Value).ownBlock ∧ some k_ ≠ ((.slice Ao58 t443.length co58) : Value).ownBlock ∧ some k_ ≠ ((.slice Ao70 t411.length co70) : Value).ownBlock ∧ some k_ ≠ ((.slice Ao71 t414.length co71) : Value).ownBlock ∧ some k_ ≠ ((.slice Ao183 t480.length co183) : Value).ownBlock) (.slice Ao182 t477.length co182) t477) ∧ Aside0 (Kd.R k72 72 wc w.heap.size (fun k_ => some k_ ≠ ((.slice Ao49 t378.length co49) : Value).ownBlock ∧ some k_ ≠ ((.slice Ao50 t381.length co50) : Value).ownBlock ∧ some k_ ≠ ((.slice Ao57 t442.length co57) : Value).ownBlock ∧ some k_ ≠ ((.slice Ao58 t443.length co58) : Value).ownBlock ∧ some k_ ≠ ((.slice Ao70 t411.length co70) : Value).ownBlock ∧ some k_ ≠ ((.slice Ao71 t414.length co71) : Value).ownBlock ∧ some k_ ≠ ((.slice Ao182 t477.length co182) : Value).ownBlock) (.slice Ao183 t480.length co183) t480) ∧ Aside0 (wc.heap[gb350]? = some (.cells #[.int .i64 a0_0, .bool a0_1, .bool a0_2, .int .i64 a0_3, .string a0_4, .int .i64 a0_5, (.slice A0_6 l0_6.length c0_6), (.slice A0_7 l0_7.length c0_7)] 32 (0, 0))) ∧ Aside0 (wc.heap[gb385]? = some (.cells #[.int .i64 t372, .bool t373, .bool t374, .int .i64 t375, .string t376, .int .i64 t377, (.slice Ao49 t378.length co49), (.slice Ao50 t381.length co50)] 24 (0, 0))) ∧ Aside0 (wc.heap[gb398]? = some (.cells #[.int .i64 t386, .bool t387, .bool t388, .int .i64 t389, .string t390, .int .i64 t391, (.slice Ao57 t442.length co57), (.slice Ao58 t443.length co58)] 24 (0, 0))) ∧ Aside0 (wc.heap[gb418]? = some (.cells #[.int .i64 t405, .bool t406, .bool t407, .int .i64 t408, .string t409, .int .i64 t410, (.slice Ao70 t411.length co70), (.slice Ao71 t414.length co71)] 24 (0, 0))) ∧ Aside0 (wc.heap[gb484]? = some (.cells #[.int .i64 t471, .bool t472, .bool t473, .int .i64 t474, .string t475, .int .i64 t476, (.slice Ao182 t477.length co182), (.slice Ao183 t480.length co183)] 24 (0, 0))) ∧ Aside0 (Below w.heap.size w wc))
     case first =>
      have H := HC157.out
      clear HC157
      obtain ⟨t485, A1840, H⟩ := Option.bind_eq_some_iff.mp H
      have A184 := a0_ A1840
      clear A1840
      by_cases c185 : t485 = true
      case pos =>
       subst c185
       rw [if_pos rfl] at H
       have H' := a0_ H
       clear H
       have hnb186 := NB484_350.out
       have hnc186 := NB350_484.out
       have hnb187 := NB484_385.out
       have hnc187 := NB385_484.out
       have hnb188 := NB484_398.out
       have hnc188 := NB398_484.out
       have hnb189 := NB484_418.out
       have hnc189 := NB418_484.out
       have z190_0 : w176.cell? ⟨gb484, 0, none⟩ = some (.int .i64 0) := (blk_cell BK484.out 0).trans rfl
       have z190_1 : w176.cell? ⟨gb484, 1, none⟩ = some (.bool false) := (blk_cell BK484.out 1).trans rfl
       have z190_2 : w176.cell? ⟨gb484, 2, none⟩ = some (.bool false) := (blk_cell BK484.out 2).trans rfl
       have z190_3 : w176.cell? ⟨gb484, 3, none⟩ = some (.int .i64 0) := (blk_cell BK484.out 3).trans rfl
       have z190_4 : w176.cell? ⟨gb484, 4, none⟩ = some (.string (⟨#[]⟩ : ByteArray)) := (blk_cell BK484.out 4).trans rfl
       have z190_5 : w176.cell? ⟨gb484, 5, none⟩ = some (.int .i64 0) := (blk_cell BK484.out 5).trans rfl
       have z190_6 : w176.cell? ⟨gb484, 6, none⟩ = some (.slice none 0 0) := (blk_cell BK484.out 6).trans rfl
       have z190_7 : w176.cell? ⟨gb484, 7, none⟩ = some (.slice none 0 0) := (blk_cell BK484.out 7).trans rfl
       have q190_0 := blk_frozen BK484.out 0
       have q190_1 := blk_frozen BK484.out 1
       have q190_2 := blk_frozen BK484.out 2
       have q190_3 := blk_frozen BK484.out 3
       have q190_4 := blk_frozen BK484.out 4
       have q190_5 := blk_frozen BK484.out 5
       have q190_6 := blk_frozen BK484.out 6
       have q190_7 := blk_frozen BK484.out 7
       have hnb191 := NB385_350.out
       have hnc191 := NB350_385.out
       have hnb192 := NB385_398.out
       have hnc192 := NB398_385.out
       have hnb193 := NB385_418.out
       have hnc193 := NB418_385.out
       have z194_0 : w176.cell? ⟨gb385, 0, none⟩ = some (.int .i64 t372) := (blk_cell BK385.out 0).trans rfl
       have z194_1 : w176.cell? ⟨gb385, 1, none⟩ = some (.bool t373) := (blk_cell BK385.out 1).trans rfl
       have z194_2 : w176.cell? ⟨gb385, 2, none⟩ = some (.bool t374) := (blk_cell BK385.out 2).trans rfl
       have z194_3 : w176.cell? ⟨gb385, 3, none⟩ = some (.int .i64 t375) := (blk_cell BK385.out 3).trans rfl
       have z194_4 : w176.cell? ⟨gb385, 4, none⟩ = some (.string t376) := (blk_cell BK385.out 4).trans rfl
       have z194_5 : w176.cell? ⟨gb385, 5, none⟩ = some (.int .i64 t377) := (blk_cell BK385.out 5).trans rfl
       have z194_6 : w176.cell? ⟨gb385, 6, none⟩ = some (.slice Ao49 t378.length co49) := (blk_cell BK385.out 6).trans rfl
       have z194_7 : w176.cell? ⟨gb385, 7, none⟩ = some (.slice Ao50 t381.length co50) := (blk_cell BK385.out 7).trans rfl
       have q194_0 := blk_frozen BK385.out 0
       have q194_1 := blk_frozen BK385.out 1
       have q194_2 := blk_frozen BK385.out 2
       have q194_3 := blk_frozen BK385.out 3
       have q194_4 := blk_frozen BK385.out 4
       have q194_5 := blk_frozen BK385.out 5
       have q194_6 := blk_frozen BK385.out 6
       have q194_7 := blk_frozen BK385.out 7
       go_wp2_with (first | ((with_reducible refine gate_callee (f := 14) rfl ?_); refine goesL_ (some 132) rfl rfl Tryz.func14 (by kernel_rfl) rfl #[.agg #[.int .i64 t471, .bool t472, .bool t473, .int .i64 t474, .string t475, .int .i64 t476, .slice Ao182 t477.length co182, .slice Ao183 t480.length co183], .agg #[.int .i64 t372, .bool t373, .bool t374, .int .i64 t375, .string t376, .int .i64 t377, .slice Ao49 t378.length co49, .slice Ao50 t381.length co50]] rfl argsS_ ?_; (with_reducible refine (laws_eqMessage.calls kj102 t471 t472 t473 t474 t475 t476 _ _ t477 _ _ t480 t372 t373 t374 t375 t376 t377 _ _ t378 _ _ t381 true _ ?side1 ?side2 ?side3 ?side4 ?side5 ?side6 ?side7 ?side8 A184.out).mono ?_); (case side1 => refine (Kd.R_reads' (e := 72) (base := w.heap.size) (ok := fun k_ => ((((((((((nw_ k_ Ao183 t480.length co183 ∧ nw_ k_ Ao49 t378.length co49) ∧ nw_ k_ Ao50 t381.length co50) ∧ nw_ k_ Ao57 t442.length co57) ∧ nw_ k_ Ao58 t443.length co58) ∧ nw_ k_ Ao70 t411.length co70) ∧ nw_ k_ Ao71 t414.length co71) ∧ nw_ k_ Ao171 t459.length co171) ∧ nw_ k_ Ao172 t462.length co172) ∧ nw_ k_ Ao173 t465.length co173) ∧ nw_ k_ Ao174 t468.length co174)) (n := t477.length) (c := co182) ?_).2.2; exact (kR_ (farR8_ HO479.out BK484.out))); (case side2 => exact (Kd.R_reads' HO479.out).2.1); (case side3 => refine (Kd.R_reads' (e := 72) (base := w.heap.size) (ok := fun k_ => ((((((((((nw_ k_ Ao182 t477.length co182 ∧ nw_ k_ Ao49 t378.length co49) ∧ nw_ k_ Ao50 t381.length co50) ∧ nw_ k_ Ao57 t442.length co57) ∧ nw_ k_ Ao58 t443.length co58) ∧ nw_ k_ Ao70 t411.length co70) ∧ nw_ k_ Ao71 t414.length co71) ∧ nw_ k_ Ao171 t459.length co171) ∧ nw_ k_ Ao172 t462.length co172) ∧ nw_ k_ Ao173 t465.length co173) ∧ nw_ k_ Ao174 t468.length co174)) (n := t480.length) (c := co183) ?_).2.2; exact (kR_ (farR8_ HO482.out BK484.out))); (case side4 => exact (Kd.R_reads' HO482.out).2.1); (case side5 => refine (Kd.R_reads' (e := 72) (base := w.heap.size) (ok := fun k_ => (((((((nw_ k_ Ao50 t381.length co50 ∧ (nw_ k_ Ao57 t442.length co57 ∧ (nw_ k_ Ao58 t443.length co58 ∧ (nw_ k_ Ao70 t411.length co70 ∧ nw_ k_ Ao71 t414.length co71)))) ∧ nw_ k_ Ao171 t459.length co171) ∧ nw_ k_ Ao172 t462.length co172) ∧ nw_ k_ Ao173 t465.length co173) ∧ nw_ k_ Ao174 t468.length co174) ∧ nw_ k_ Ao182 t477.length co182) ∧ nw_ k_ Ao183 t480.length co183)) (n := t378.length) (c := co49) ?_).2.2; exact (kR_ (farR8_ HO_386006.out BK484.out))); (case side6 => exact (Kd.R_reads' HO_386006.out).2.1); (case side7 => refine (Kd.R_reads' (e := 72) (base := w.heap.size) (ok := fun k_ => (((((((nw_ k_ Ao49 t378.length co49 ∧ (nw_ k_ Ao57 t442.length co57 ∧ (nw_ k_ Ao58 t443.length co58 ∧ (nw_ k_ Ao70 t411.length co70 ∧ nw_ k_ Ao71 t414.length co71)))) ∧ nw_ k_ Ao171 t459.length co171) ∧ nw_ k_ Ao172 t462.length co172) ∧ nw_ k_ Ao173 t465.length co173) ∧ nw_ k_ Ao174 t468.length co174) ∧ nw_ k_ Ao182 t477.length co182) ∧ nw_ k_ Ao183 t480.length co183)) (n := t381.length) (c := co50) ?_).2.2; exact (kR_ (farR8_ HO_386007.out BK484.out))); (case side8 => exact (Kd.R_reads' HO_386007.out).2.1); rintro e w195 ⟨rfl, hb⟩; refine ⟨_, rfl, ?_⟩; replace HO_386006 := a0_ (Kd.R_below (kR_ (farR8_ HO_386006.out BK484.out)) hb); replace HO_386007 := a0_ (Kd.R_below (kR_ (farR8_ HO_386007.out BK484.out)) hb); replace HO_399006 := a0_ (Kd.R_below (kR_ (farR8_ HO_399006.out BK484.out)) hb); replace HO_399007 := a0_ (Kd.R_below (kR_ (farR8_ HO_399007.out BK484.out)) hb); replace HO_419006 := a0_ (Kd.R_below (kR_ (farR8_ HO_419006.out BK484.out)) hb); replace HO_419007 := a0_ (Kd.R_below (kR_ (farR8_ HO_419007.out BK484.out)) hb); replace HO461 := a0_ (Kd.R_below (kR_ (farR8_ HO461.out BK484.out)) hb); replace HO464 := a0_ (Kd.R_below (kR_ (farR8_ HO464.out BK484.out)) hb); replace HO467 := a0_ (Kd.R_below (kR_ (farR8_ HO467.out BK484.out)) hb); replace HO470 := a0_ (Kd.R_below (kR_ (farR8_ HO470.out BK484.out)) hb); replace HO479 := a0_ (Kd.R_below (kR_ (farR8_ HO479.out BK484.out)) hb); replace HO482 := a0_ (Kd.R_below (kR_ (farR8_ HO482.out BK484.out)) hb); replace BK350 := a0_ (blk_below (g := gb350) (o := .cells #[.int .i64 a0_0, .bool a0_1, .bool a0_2, .int .i64 a0_3, .string a0_4, .int .i64 a0_5, .slice A0_6 l0_6.length c0_6, .slice A0_7 l0_7.length c0_7] 32 (0, 0)) (bfar8_ NB350_484.out BK350.out) hb); replace BK385 := a0_ (blk_below (g := gb385) (o := .cells #[.int .i64 t372, .bool t373, .bool t374, .int .i64 t375, .string t376, .int .i64 t377, .slice Ao49 t378.length co49, .slice Ao50 t381.length co50] 24 (0, 0)) (bfar8_ NB385_484.out BK385.out) hb); replace BK398 := a0_ (blk_below (g := gb398) (o := .cells #[.int .i64 t386, .bool t387, .bool t388, .int .i64 t389, .string t390, .int .i64 t391, .slice Ao57 t442.length co57, .slice Ao58 t443.length co58] 24 (0, 0)) (bfar8_ NB398_484.out BK398.out) hb); replace BK418 := a0_ (blk_below (g := gb418) (o := .cells #[.int .i64 t405, .bool t406, .bool t407, .int .i64 t408, .string t409, .int .i64 t410, .slice Ao70 t411.length co70, .slice Ao71 t414.length co71] 24 (0, 0)) (bfar8_ NB418_484.out BK418.out) hb); replace BK484 := a0_ (blk_below (g := gb484) (o := .cells #[.int .i64 t471, .bool t472, .bool t473, .int .i64 t474, .string t475, .int .i64 t476, .slice Ao182 t477.length co182, .slice Ao183 t480.length co183] 24 (0, 0)) (put8_ BK484.out) hb); replace HB := a0_ (below_step bq1_ hb); (try clear hb); (try clear hb2); (try clear hk); (try clear hi)))
       go_meet
       case rel => exact ⟨_, ((t483 != t384)), rs_, H', ⟨by have := HJ30.out; have := HJ102.out; first | omega | exact Nat.le_refl _⟩, ⟨by (try simp only [hl399006_102]); (try simp only [hl399007_102]); (with_reducible repeat (first | apply Kd.R_alloc | apply Kd.R_drewN | apply Kd.R_drew)); exact Kd.R_mono HO_386006.out (fun _ hk => ⟨hk.1.1.1.1.1.1.1, ⟨hk.1.1.1.1.1.1.2.1, ⟨hk.1.1.1.1.1.1.2.2.1, ⟨hk.1.1.1.1.1.1.2.2.2.1, ⟨hk.1.1.1.1.1.1.2.2.2.2, ⟨hk.1.2, hk.2⟩⟩⟩⟩⟩⟩)⟩, ⟨by (try simp only [hl399006_102]); (try simp only [hl399007_102]); (with_reducible repeat (first | apply Kd.R_alloc | apply Kd.R_drewN | apply Kd.R_drew)); exact Kd.R_mono HO_386007.out (fun _ hk => ⟨hk.1.1.1.1.1.1.1, ⟨hk.1.1.1.1.1.1.2.1, ⟨hk.1.1.1.1.1.1.2.2.1, ⟨hk.1.1.1.1.1.1.2.2.2.1, ⟨hk.1.1.1.1.1.1.2.2.2.2, ⟨hk.1.2, hk.2⟩⟩⟩⟩⟩⟩)⟩, ⟨by (try simp only [hl399006_102]); (try simp only [hl399007_102]); (with_reducible repeat (first | apply Kd.R_alloc | apply Kd.R_drewN | apply Kd.R_drew)); exact Kd.R_mono HO_399006.out (fun _ hk => ⟨hk.1.1.1.1.1.1.1, ⟨hk.1.1.1.1.1.1.2.1, ⟨hk.1.1.1.1.1.1.2.2.1, ⟨hk.1.1.1.1.1.1.2.2.2.1, ⟨hk.1.1.1.1.1.1.2.2.2.2, ⟨hk.1.2, hk.2⟩⟩⟩⟩⟩⟩)⟩, ⟨by (try simp only [hl399006_102]); (try simp only [hl399007_102]); (with_reducible repeat (first | apply Kd.R_alloc | apply Kd.R_drewN | apply Kd.R_drew)); exact Kd.R_mono HO_399007.out (fun _ hk => ⟨hk.1.1.1.1.1.1.1, ⟨hk.1.1.1.1.1.1.2.1, ⟨hk.1.1.1.1.1.1.2.2.1, ⟨hk.1.1.1.1.1.1.2.2.2.1, ⟨hk.1.1.1.1.1.1.2.2.2.2, ⟨hk.1.2, hk.2⟩⟩⟩⟩⟩⟩)⟩, ⟨by (try simp only [hl399006_102]); (try simp only [hl399007_102]); (with_reducible repeat (first | apply Kd.R_alloc | apply Kd.R_drewN | apply Kd.R_drew)); exact Kd.R_mono HO_419006.out (fun _ hk => ⟨hk.1.1.1.1.1.1.1, ⟨hk.1.1.1.1.1.1.2.1, ⟨hk.1.1.1.1.1.1.2.2.1, ⟨hk.1.1.1.1.1.1.2.2.2.1, ⟨hk.1.1.1.1.1.1.2.2.2.2, ⟨hk.1.2, hk.2⟩⟩⟩⟩⟩⟩)⟩, ⟨by (try simp only [hl399006_102]); (try simp only [hl399007_102]); (with_reducible repeat (first | apply Kd.R_alloc | apply Kd.R_drewN | apply Kd.R_drew)); exact Kd.R_mono HO_419007.out (fun _ hk => ⟨hk.1.1.1.1.1.1.1, ⟨hk.1.1.1.1.1.1.2.1, ⟨hk.1.1.1.1.1.1.2.2.1, ⟨hk.1.1.1.1.1.1.2.2.2.1, ⟨hk.1.1.1.1.1.1.2.2.2.2, ⟨hk.1.2, hk.2⟩⟩⟩⟩⟩⟩)⟩, ⟨by (try simp only [hl399006_102]); (try simp only [hl399007_102]); (with_reducible repeat (first | apply Kd.R_alloc | apply Kd.R_drewN | apply Kd.R_drew)); exact Kd.R_mono HO479.out (fun _ hk => ⟨hk.1.1.1.1.1.1.1.1.1.2, ⟨hk.1.1.1.1.1.1.1.1.2, ⟨hk.1.1.1.1.1.1.1.2, ⟨hk.1.1.1.1.1.1.2, ⟨hk.1.1.1.1.1.2, ⟨hk.1.1.1.1.2, hk.1.1.1.1.1.1.1.1.1.1⟩⟩⟩⟩⟩⟩)⟩, ⟨by (try simp only [hl399006_102]); (try simp only [hl399007_102]); (with_reducible repeat (first | apply Kd.R_alloc | apply Kd.R_drewN | apply Kd.R_drew)); exact Kd.R_mono HO482.out (fun _ hk => ⟨hk.1.1.1.1.1.1.1.1.1.2, ⟨hk.1.1.1.1.1.1.1.1.2, ⟨hk.1.1.1.1.1.1.1.2, ⟨hk.1.1.1.1.1.1.2, ⟨hk.1.1.1.1.1.2, ⟨hk.1.1.1.1.2, hk.1.1.1.1.1.1.1.1.1.1⟩⟩⟩⟩⟩⟩)⟩, ⟨by (try simp only [hl399006_102]); (try simp only [hl399007_102]); (with_reducible repeat (first | refine blk_drewN ?_ _ | refine blk_drew ?_ | refine blk_alloc ?_ _)); exact BK350.out⟩, ⟨by (try simp only [hl399006_102]); (try simp only [hl399007_102]); (with_reducible repeat (first | refine blk_drewN ?_ _ | refine blk_drew ?_ | refine blk_alloc ?_ _)); exact BK385.out⟩, ⟨by (try simp only [hl399006_102]); (try simp only [hl399007_102]); (with_reducible repeat (first | refine blk_drewN ?_ _ | refine blk_drew ?_ | refine blk_alloc ?_ _)); exact BK398.out⟩, ⟨by (try simp only [hl399006_102]); (try simp only [hl399007_102]); (with_reducible repeat (first | refine blk_drewN ?_ _ | refine blk_drew ?_ | refine blk_alloc ?_ _)); exact BK418.out⟩, ⟨by (try simp only [hl399006_102]); (try simp only [hl399007_102]); (with_reducible repeat (first | refine blk_drewN ?_ _ | refine blk_drew ?_ | refine blk_alloc ?_ _)); exact BK484.out⟩, ⟨bq1_⟩⟩
      replace c185 := Bool.eq_false_iff.mpr c185
      subst c185
      rw [if_neg (show ¬ (false = true) by decide)] at H
      have H' := a0_ H
      clear H
      have hnb196 := NB484_350.out
      have hnc196 := NB350_484.out
      have hnb197 := NB484_385.out
      have hnc197 := NB385_484.out
      have hnb198 := NB484_398.out
      have hnc198 := NB398_484.out
      have hnb199 := NB484_418.out
      have hnc199 := NB418_484.out
      have z200_0 : w176.cell? ⟨gb484, 0, none⟩ = some (.int .i64 0) := (blk_cell BK484.out 0).trans rfl
      have z200_1 : w176.cell? ⟨gb484, 1, none⟩ = some (.bool false) := (blk_cell BK484.out 1).trans rfl
      have z200_2 : w176.cell? ⟨gb484, 2, none⟩ = some (.bool false) := (blk_cell BK484.out 2).trans rfl
      have z200_3 : w176.cell? ⟨gb484, 3, none⟩ = some (.int .i64 0) := (blk_cell BK484.out 3).trans rfl
      have z200_4 : w176.cell? ⟨gb484, 4, none⟩ = some (.string (⟨#[]⟩ : ByteArray)) := (blk_cell BK484.out 4).trans rfl
      have z200_5 : w176.cell? ⟨gb484, 5, none⟩ = some (.int .i64 0) := (blk_cell BK484.out 5).trans rfl
      have z200_6 : w176.cell? ⟨gb484, 6, none⟩ = some (.slice none 0 0) := (blk_cell BK484.out 6).trans rfl
      have z200_7 : w176.cell? ⟨gb484, 7, none⟩ = some (.slice none 0 0) := (blk_cell BK484.out 7).trans rfl
      have q200_0 := blk_frozen BK484.out 0
      have q200_1 := blk_frozen BK484.out 1
      have q200_2 := blk_frozen BK484.out 2
      have q200_3 := blk_frozen BK484.out 3
      have q200_4 := blk_frozen BK484.out 4
      have q200_5 := blk_frozen BK484.out 5
      have q200_6 := blk_frozen BK484.out 6
      have q200_7 := blk_frozen BK484.out 7
      have hnb201 := NB385_350.out
      have hnc201 := NB350_385.out
      have hnb202 := NB385_398.out
      have hnc202 := NB398_385.out
      have hnb203 := NB385_418.out
      have hnc203 := NB418_385.out
      have z204_0 : w176.cell? ⟨gb385, 0, none⟩ = some (.int .i64 t372) := (blk_cell BK385.out 0).trans rfl
      have z204_1 : w176.cell? ⟨gb385, 1, none⟩ = some (.bool t373) := (blk_cell BK385.out 1).trans rfl
      have z204_2 : w176.cell? ⟨gb385, 2, none⟩ = some (.bool t374) := (blk_cell BK385.out 2).trans rfl
      have z204_3 : w176.cell? ⟨gb385, 3, none⟩ = some (.int .i64 t375) := (blk_cell BK385.out 3).trans rfl
      have z204_4 : w176.cell? ⟨gb385, 4, none⟩ = some (.string t376) := (blk_cell BK385.out 4).trans rfl
      have z204_5 : w176.cell? ⟨gb385, 5, none⟩ = some (.int .i64 t377) := (blk_cell BK385.out 5).trans rfl
      have z204_6 : w176.cell? ⟨gb385, 6, none⟩ = some (.slice Ao49 t378.length co49) := (blk_cell BK385.out 6).trans rfl
      have z204_7 : w176.cell? ⟨gb385, 7, none⟩ = some (.slice Ao50 t381.length co50) := (blk_cell BK385.out 7).trans rfl
      have q204_0 := blk_frozen BK385.out 0
      have q204_1 := blk_frozen BK385.out 1
      have q204_2 := blk_frozen BK385.out 2
      have q204_3 := blk_frozen BK385.out 3
      have q204_4 := blk_frozen BK385.out 4
      have q204_5 := blk_frozen BK385.out 5
      have q204_6 := blk_frozen BK385.out 6
      have q204_7 := blk_frozen BK385.out 7
      go_wp2_with (first | ((with_reducible refine gate_callee (f := 14) rfl ?_); refine goesL_ (some 132) rfl rfl Tryz.func14 (by kernel_rfl) rfl #[.agg #[.int .i64 t471, .bool t472, .bool t473, .int .i64 t474, .string t475, .int .i64 t476, .slice Ao182 t477.length co182, .slice Ao183 t480.length co183], .agg #[.int .i64 t372, .bool t373, .bool t374, .int .i64 t375, .string t376, .int .i64 t377, .slice Ao49 t378.length co49, .slice Ao50 t381.length co50]] rfl argsS_ ?_; (with_reducible refine (laws_eqMessage.calls kj102 t471 t472 t473 t474 t475 t476 _ _ t477 _ _ t480 t372 t373 t374 t375 t376 t377 _ _ t378 _ _ t381 false _ ?side1 ?side2 ?side3 ?side4 ?side5 ?side6 ?side7 ?side8 A184.out).mono ?_); (case side1 => refine (Kd.R_reads' (e := 72) (base := w.heap.size) (ok := fun k_ => ((((((((((nw_ k_ Ao183 t480.length co183 ∧ nw_ k_ Ao49 t378.length co49) ∧ nw_ k_ Ao50 t381.length co50) ∧ nw_ k_ Ao57 t442.length co57) ∧ nw_ k_ Ao58 t443.length co58) ∧ nw_ k_ Ao70 t411.length co70) ∧ nw_ k_ Ao71 t414.length co71) ∧ nw_ k_ Ao171 t459.length co171) ∧ nw_ k_ Ao172 t462.length co172) ∧ nw_ k_ Ao173 t465.length co173) ∧ nw_ k_ Ao174 t468.length co174)) (n := t477.length) (c := co182) ?_).2.2; exact (kR_ (farR8_ HO479.out BK484.out))); (case side2 => exact (Kd.R_reads' HO479.out).2.1); (case side3 => refine (Kd.R_reads' (e := 72) (base := w.heap.size) (ok := fun k_ => ((((((((((nw_ k_ Ao182 t477.length co182 ∧ nw_ k_ Ao49 t378.length co49) ∧ nw_ k_ Ao50 t381.length co50) ∧ nw_ k_ Ao57 t442.length co57) ∧ nw_ k_ Ao58 t443.length co58) ∧ nw_ k_ Ao70 t411.length co70) ∧ nw_ k_ Ao71 t414.length co71) ∧ nw_ k_ Ao171 t459.length co171) ∧ nw_ k_ Ao172 t462.length co172) ∧ nw_ k_ Ao173 t465.length co173) ∧ nw_ k_ Ao174 t468.length co174)) (n := t480.length) (c := co183) ?_).2.2; exact (kR_ (farR8_ HO482.out BK484.out))); (case side4 => exact (Kd.R_reads' HO482.out).2.1); (case side5 => refine (Kd.R_reads' (e := 72) (base := w.heap.size) (ok := fun k_ => (((((((nw_ k_ Ao50 t381.length co50 ∧ (nw_ k_ Ao57 t442.length co57 ∧ (nw_ k_ Ao58 t443.length co58 ∧ (nw_ k_ Ao70 t411.length co70 ∧ nw_ k_ Ao71 t414.length co71)))) ∧ nw_ k_ Ao171 t459.length co171) ∧ nw_ k_ Ao172 t462.length co172) ∧ nw_ k_ Ao173 t465.length co173) ∧ nw_ k_ Ao174 t468.length co174) ∧ nw_ k_ Ao182 t477.length co182) ∧ nw_ k_ Ao183 t480.length co183)) (n := t378.length) (c := co49) ?_).2.2; exact (kR_ (farR8_ HO_386006.out BK484.out))); (case side6 => exact (Kd.R_reads' HO_386006.out).2.1); (case side7 => refine (Kd.R_reads' (e := 72) (base := w.heap.size) (ok := fun k_ => (((((((nw_ k_ Ao49 t378.length co49 ∧ (nw_ k_ Ao57 t442.length co57 ∧ (nw_ k_ Ao58 t443.length co58 ∧ (nw_ k_ Ao70 t411.length co70 ∧ nw_ k_ Ao71 t414.length co71)))) ∧ nw_ k_ Ao171 t459.length co171) ∧ nw_ k_ Ao172 t462.length co172) ∧ nw_ k_ Ao173 t465.length co173) ∧ nw_ k_ Ao174 t468.length co174) ∧ nw_ k_ Ao182 t477.length co182) ∧ nw_ k_ Ao183 t480.length co183)) (n := t381.length) (c := co50) ?_).2.2; exact (kR_ (farR8_ HO_386007.out BK484.out))); (case side8 => exact (Kd.R_reads' HO_386007.out).2.1); rintro e w205 ⟨rfl, hb⟩; refine ⟨_, rfl, ?_⟩; replace HO_386006 := a0_ (Kd.R_below (kR_ (farR8_ HO_386006.out BK484.out)) hb); replace HO_386007 := a0_ (Kd.R_below (kR_ (farR8_ HO_386007.out BK484.out)) hb); replace HO_399006 := a0_ (Kd.R_below (kR_ (farR8_ HO_399006.out BK484.out)) hb); replace HO_399007 := a0_ (Kd.R_below (kR_ (farR8_ HO_399007.out BK484.out)) hb); replace HO_419006 := a0_ (Kd.R_below (kR_ (farR8_ HO_419006.out BK484.out)) hb); replace HO_419007 := a0_ (Kd.R_below (kR_ (farR8_ HO_419007.out BK484.out)) hb); replace HO461 := a0_ (Kd.R_below (kR_ (farR8_ HO461.out BK484.out)) hb); replace HO464 := a0_ (Kd.R_below (kR_ (farR8_ HO464.out BK484.out)) hb); replace HO467 := a0_ (Kd.R_below (kR_ (farR8_ HO467.out BK484.out)) hb); replace HO470 := a0_ (Kd.R_below (kR_ (farR8_ HO470.out BK484.out)) hb); replace HO479 := a0_ (Kd.R_below (kR_ (farR8_ HO479.out BK484.out)) hb); replace HO482 := a0_ (Kd.R_below (kR_ (farR8_ HO482.out BK484.out)) hb); replace BK350 := a0_ (blk_below (g := gb350) (o := .cells #[.int .i64 a0_0, .bool a0_1, .bool a0_2, .int .i64 a0_3, .string a0_4, .int .i64 a0_5, .slice A0_6 l0_6.length c0_6, .slice A0_7 l0_7.length c0_7] 32 (0, 0)) (bfar8_ NB350_484.out BK350.out) hb); replace BK385 := a0_ (blk_below (g := gb385) (o := .cells #[.int .i64 t372, .bool t373, .bool t374, .int .i64 t375, .string t376, .int .i64 t377, .slice Ao49 t378.length co49, .slice Ao50 t381.length co50] 24 (0, 0)) (bfar8_ NB385_484.out BK385.out) hb); replace BK398 := a0_ (blk_below (g := gb398) (o := .cells #[.int .i64 t386, .bool t387, .bool t388, .int .i64 t389, .string t390, .int .i64 t391, .slice Ao57 t442.length co57, .slice Ao58 t443.length co58] 24 (0, 0)) (bfar8_ NB398_484.out BK398.out) hb); replace BK418 := a0_ (blk_below (g := gb418) (o := .cells #[.int .i64 t405, .bool t406, .bool t407, .int .i64 t408, .string t409, .int .i64 t410, .slice Ao70 t411.length co70, .slice Ao71 t414.length co71] 24 (0, 0)) (bfar8_ NB418_484.out BK418.out) hb); replace BK484 := a0_ (blk_below (g := gb484) (o := .cells #[.int .i64 t471, .bool t472, .bool t473, .int .i64 t474, .string t475, .int .i64 t476, .slice Ao182 t477.length co182, .slice Ao183 t480.length co183] 24 (0, 0)) (put8_ BK484.out) hb); replace HB := a0_ (below_step bq1_ hb); (try clear hb); (try clear hb2); (try clear hk); (try clear hi)))
      go_meet
      case rel => exact ⟨_, (true), rs_, H', ⟨by have := HJ30.out; have := HJ102.out; first | omega | exact Nat.le_refl _⟩, ⟨by (try simp only [hl399006_102]); (try simp only [hl399007_102]); (with_reducible repeat (first | apply Kd.R_alloc | apply Kd.R_drewN | apply Kd.R_drew)); exact Kd.R_mono HO_386006.out (fun _ hk => ⟨hk.1.1.1.1.1.1.1, ⟨hk.1.1.1.1.1.1.2.1, ⟨hk.1.1.1.1.1.1.2.2.1, ⟨hk.1.1.1.1.1.1.2.2.2.1, ⟨hk.1.1.1.1.1.1.2.2.2.2, ⟨hk.1.2, hk.2⟩⟩⟩⟩⟩⟩)⟩, ⟨by (try simp only [hl399006_102]); (try simp only [hl399007_102]); (with_reducible repeat (first | apply Kd.R_alloc | apply Kd.R_drewN | apply Kd.R_drew)); exact Kd.R_mono HO_386007.out (fun _ hk => ⟨hk.1.1.1.1.1.1.1, ⟨hk.1.1.1.1.1.1.2.1, ⟨hk.1.1.1.1.1.1.2.2.1, ⟨hk.1.1.1.1.1.1.2.2.2.1, ⟨hk.1.1.1.1.1.1.2.2.2.2, ⟨hk.1.2, hk.2⟩⟩⟩⟩⟩⟩)⟩, ⟨by (try simp only [hl399006_102]); (try simp only [hl399007_102]); (with_reducible repeat (first | apply Kd.R_alloc | apply Kd.R_drewN | apply Kd.R_drew)); exact Kd.R_mono HO_399006.out (fun _ hk => ⟨hk.1.1.1.1.1.1.1, ⟨hk.1.1.1.1.1.1.2.1, ⟨hk.1.1.1.1.1.1.2.2.1, ⟨hk.1.1.1.1.1.1.2.2.2.1, ⟨hk.1.1.1.1.1.1.2.2.2.2, ⟨hk.1.2, hk.2⟩⟩⟩⟩⟩⟩)⟩, ⟨by (try simp only [hl399006_102]); (try simp only [hl399007_102]); (with_reducible repeat (first | apply Kd.R_alloc | apply Kd.R_drewN | apply Kd.R_drew)); exact Kd.R_mono HO_399007.out (fun _ hk => ⟨hk.1.1.1.1.1.1.1, ⟨hk.1.1.1.1.1.1.2.1, ⟨hk.1.1.1.1.1.1.2.2.1, ⟨hk.1.1.1.1.1.1.2.2.2.1, ⟨hk.1.1.1.1.1.1.2.2.2.2, ⟨hk.1.2, hk.2⟩⟩⟩⟩⟩⟩)⟩, ⟨by (try simp only [hl399006_102]); (try simp only [hl399007_102]); (with_reducible repeat (first | apply Kd.R_alloc | apply Kd.R_drewN | apply Kd.R_drew)); exact Kd.R_mono HO_419006.out (fun _ hk => ⟨hk.1.1.1.1.1.1.1, ⟨hk.1.1.1.1.1.1.2.1, ⟨hk.1.1.1.1.1.1.2.2.1, ⟨hk.1.1.1.1.1.1.2.2.2.1, ⟨hk.1.1.1.1.1.1.2.2.2.2, ⟨hk.1.2, hk.2⟩⟩⟩⟩⟩⟩)⟩, ⟨by (try simp only [hl399006_102]); (try simp only [hl399007_102]); (with_reducible repeat (first | apply Kd.R_alloc | apply Kd.R_drewN | apply Kd.R_drew)); exact Kd.R_mono HO_419007.out (fun _ hk => ⟨hk.1.1.1.1.1.1.1, ⟨hk.1.1.1.1.1.1.2.1, ⟨hk.1.1.1.1.1.1.2.2.1, ⟨hk.1.1.1.1.1.1.2.2.2.1, ⟨hk.1.1.1.1.1.1.2.2.2.2, ⟨hk.1.2, hk.2⟩⟩⟩⟩⟩⟩)⟩, ⟨by (try simp only [hl399006_102]); (try simp only [hl399007_102]); (with_reducible repeat (first | apply Kd.R_alloc | apply Kd.R_drewN | apply Kd.R_drew)); exact Kd.R_mono HO479.out (fun _ hk => ⟨hk.1.1.1.1.1.1.1.1.1.2, ⟨hk.1.1.1.1.1.1.1.1.2, ⟨hk.1.1.1.1.1.1.1.2, ⟨hk.1.1.1.1.1.1.2, ⟨hk.1.1.1.1.1.2, ⟨hk.1.1.1.1.2, hk.1.1.1.1.1.1.1.1.1.1⟩⟩⟩⟩⟩⟩)⟩, ⟨by (try simp only [hl399006_102]); (try simp only [hl399007_102]); (with_reducible repeat (first | apply Kd.R_alloc | apply Kd.R_drewN | apply Kd.R_drew)); exact Kd.R_mono HO482.out (fun _ hk => ⟨hk.1.1.1.1.1.1.1.1.1.2, ⟨hk.1.1.1.1.1.1.1.1.2, ⟨hk.1.1.1.1.1.1.1.2, ⟨hk.1.1.1.1.1.1.2, ⟨hk.1.1.1.1.1.2, ⟨hk.1.1.1.1.2, hk.1.1.1.1.1.1.1.1.1.1⟩⟩⟩⟩⟩⟩)⟩, ⟨by (try simp only [hl399006_102]); (try simp only [hl399007_102]); (with_reducible repeat (first | refine blk_drewN ?_ _ | refine blk_drew ?_ | refine blk_alloc ?_ _)); exact BK350.out⟩, ⟨by (try simp only [hl399006_102]); (try simp only [hl399007_102]); (with_reducible repeat (first | refine blk_drewN ?_ _ | refine blk_drew ?_ | refine blk_alloc ?_ _)); exact BK385.out⟩, ⟨by (try simp only [hl399006_102]); (try simp only [hl399007_102]); (with_reducible repeat (first | refine blk_drewN ?_ _ | refine blk_drew ?_ | refine blk_alloc ?_ _)); exact BK398.out⟩, ⟨by (try simp only [hl399006_102]); (try simp only [hl399007_102]); (with_reducible repeat (first | refine blk_drewN ?_ _ | refine blk_drew ?_ | refine blk_alloc ?_ _)); exact BK418.out⟩, ⟨by (try simp only [hl399006_102]); (try simp only [hl399007_102]); (with_reducible repeat (first | refine blk_drewN ?_ _ | refine blk_drew ?_ | refine blk_alloc ?_ _)); exact BK484.out⟩, ⟨bq1_⟩⟩
     case rest =>
      clear HC157
      try clear c1
      try clear c2
      try clear p2
      try clear c3
      try clear c9
      try clear c11
      try clear c12
      try clear c13
      try clear c14
      try clear c15
      try clear c16
      try clear c17
      try clear c18
      try clear c19
      try clear c20
      try clear c21
      try clear c22
      try clear c23
      try clear c24
      try clear c90
      try clear c93
      try clear c96
      try clear c99
      try clear c115
      try clear c116
      try clear c117
      try clear c122
      try clear c122b0
      try clear c124
      try clear c125
      try clear c126
      try clear c127
      try clear c129
      try clear c130
      try clear c133
      try clear c134
      try clear c135
      try clear c137
      try clear c138
      try clear c141
      try clear c144
      try clear c144b0
      try clear c145
      try clear c146
      try clear c147
      try clear c152
      try clear c152b0
      try clear c152b1
      try clear c158
      try clear c159
      try clear c160
      try clear c165
      try clear c166
      try clear c177
      try clear c178
      try clear c179
      try clear c180
      try clear c185
      try clear c186
      try clear c187
      try clear c188
      try clear c189
      try clear c191
      try clear c192
      try clear c193
      try clear c196
      try clear c197
      try clear c198
      try clear c199
      try clear c201
      try clear c202
      try clear c203
      try clear z118_0 z118_1 z118_2 z118_3 z118_4 z118_5 z118_6 z118_7
      try clear z128_0 z128_1 z128_2 z128_3 z128_4 z128_5 z128_6 z128_7
      try clear z131_0 z131_1 z131_2 z131_3 z131_4 z131_5 z131_6 z131_7
      try clear z136_0 z136_1 z136_2 z136_3 z136_4 z136_5 z136_6 z136_7
      try clear z139_0 z139_1 z139_2 z139_3 z139_4 z139_5 z139_6 z139_7
      try clear z148_0 z148_1 z148_2 z148_3 z148_4 z148_5 z148_6 z148_7
      try clear z150_0 z150_1 z150_2 z150_3 z150_4 z150_5 z150_6 z150_7
      try clear z161_0 z161_1 z161_2 z161_3 z161_4 z161_5 z161_6 z161_7
      try clear z163_0 z163_1 z163_2 z163_3 z163_4 z163_5 z163_6 z163_7
      try clear z167_0 z167_1 z167_2 z167_3 z167_4 z167_5 z167_6 z167_7
      try clear z181_0 z181_1 z181_2 z181_3 z181_4 z181_5 z181_6 z181_7
      try clear z190_0 z190_1 z190_2 z190_3 z190_4 z190_5 z190_6 z190_7
      try clear z194_0 z194_1 z194_2 z194_3 z194_4 z194_5 z194_6 z194_7
      try clear z200_0 z200_1 z200_2 z200_3 z200_4 z200_5 z200_6 z200_7
      try clear z204_0 z204_1 z204_2 z204_3 z204_4 z204_5 z204_6 z204_7
      try clear z56_5 z56_6 z56_7
      try clear z61_0 z61_1 z61_2 z61_3 z61_4 z61_5 z61_6 z61_7
      try clear z69_0 z69_1 z69_2 z69_3 z69_4 z69_5 z69_6 z69_7
      try clear z77_0 z77_1 z77_2 z77_3 z77_4 z77_5 z77_6 z77_7
      try clear z80_0 z80_1 z80_2 z80_3 z80_4 z80_5 z80_6 z80_7
      try clear z85_0 z85_1 z85_2 z85_3 z85_4 z85_5 z85_6 z85_7
      try clear z88_0 z88_1 z88_2 z88_3 z88_4 z88_5 z88_6 z88_7
      try clear z8_0 z8_1 z8_2 z8_3 z8_4 z8_5 z8_6 z8_7
      try clear q118_0 q118_1 q118_2 q118_3 q118_4 q118_5 q118_6 q118_7
      try clear q128_0 q128_1 q128_2 q128_3 q128_4 q128_5 q128_6 q128_7
      try clear q131_0 q131_1 q131_2 q131_3 q131_4 q131_5 q131_6 q131_7
      try clear q136_0 q136_1 q136_2 q136_3 q136_4 q136_5 q136_6 q136_7
      try clear q139_0 q139_1 q139_2 q139_3 q139_4 q139_5 q139_6 q139_7
      try clear q13_0 q13_1 q13_2 q13_3 q13_4 q13_5 q13_6 q13_7
      try clear q148_0 q148_1 q148_2 q148_3 q148_4 q148_5 q148_6 q148_7
      try clear q150_0 q150_1 q150_2 q150_3 q150_4 q150_5 q150_6 q150_7
      try clear q161_0 q161_1 q161_2 q161_3 q161_4 q161_5 q161_6 q161_7
      try clear q163_0 q163_1 q163_2 q163_3 q163_4 q163_5 q163_6 q163_7
      try clear q167_0 q167_1 q167_2 q167_3 q167_4 q167_5 q167_6 q167_7
      try clear q181_0 q181_1 q181_2 q181_3 q181_4 q181_5 q181_6 q181_7
      try clear q190_0 q190_1 q190_2 q190_3 q190_4 q190_5 q190_6 q190_7
      try clear q194_0 q194_1 q194_2 q194_3 q194_4 q194_5 q194_6 q194_7
      try clear q19_0 q19_1 q19_2 q19_3 q19_4 q19_5 q19_6 q19_7
      try clear q200_0 q200_1 q200_2 q200_3 q200_4 q200_5 q200_6 q200_7
      try clear q204_0 q204_1 q204_2 q204_3 q204_4 q204_5 q204_6 q204_7
      try clear q33_0 q33_1 q33_2 q33_3 q33_4 q33_5 q33_6 q33_7
      try clear q37_0 q37_1 q37_2 q37_3 q37_4 q37_5 q37_6 q37_7
      try clear q48_0 q48_1 q48_2 q48_3 q48_4 q48_5 q48_6 q48_7
      try clear q51_0 q51_1 q51_2 q51_3 q51_4 q51_5 q51_6 q51_7
      try clear q56_0 q56_1 q56_2 q56_3 q56_4 q56_5 q56_6 q56_7
      try clear q61_0 q61_1 q61_2 q61_3 q61_4 q61_5 q61_6 q61_7
      try clear q69_0 q69_1 q69_2 q69_3 q69_4 q69_5 q69_6 q69_7
      try clear q77_0 q77_1 q77_2 q77_3 q77_4 q77_5 q77_6 q77_7
      try clear q80_0 q80_1 q80_2 q80_3 q80_4 q80_5 q80_6 q80_7
      try clear q85_0 q85_1 q85_2 q85_3 q85_4 q85_5 q85_6 q85_7
      try clear q88_0 q88_1 q88_2 q88_3 q88_4 q88_5 q88_6 q88_7
      try clear q8_0 q8_1 q8_2 q8_3 q8_4 q8_5 q8_6 q8_7
      try clear p2
      obtain ⟨kq, x138_156, rfl, HA, HJ156, HO_386006, HO_386007, HO_399006, HO_399007, HO_419006, HO_419007, HO_485006, HO_485007, BK350, BK385, BK398, BK418, BK484, HB⟩ := hcut
      have hl419006_156 := (Kd.R_reads' HO_419006.out).1
      rw [hl419006_156] at HO_419006
      (try simp only [hl419006_156])
      (try simp only [hl419006_156] at BK350)
      (try simp only [hl419006_156] at BK385)
      (try simp only [hl419006_156] at BK398)
      (try simp only [hl419006_156] at BK418)
      (try simp only [hl419006_156] at BK484)
      (try simp only [hl419006_156] at HO_386006)
      (try simp only [hl419006_156] at HO_386007)
      (try simp only [hl419006_156] at HO_399006)
      (try simp only [hl419006_156] at HO_399007)
      (try simp only [hl419006_156] at HO_419007)
      (try simp only [hl419006_156] at HO_485006)
      (try simp only [hl419006_156] at HO_485007)
      have hl419007_156 := (Kd.R_reads' HO_419007.out).1
      rw [hl419007_156] at HO_419007
      (try simp only [hl419007_156])
      (try simp only [hl419007_156] at BK350)
      (try simp only [hl419007_156] at BK385)
      (try simp only [hl419007_156] at BK398)
      (try simp only [hl419007_156] at BK418)
      (try simp only [hl419007_156] at BK484)
      (try simp only [hl419007_156] at HO_386006)
      (try simp only [hl419007_156] at HO_386007)
      (try simp only [hl419007_156] at HO_399006)
      (try simp only [hl419007_156] at HO_399007)
      (try simp only [hl419007_156] at HO_419006)
      (try simp only [hl419007_156] at HO_485006)
      (try simp only [hl419007_156] at HO_485007)
      cases kq with
      | zero => exact absurd HA.out (by simp [laws_FnExactReplyTo.j2])
      | succ kj156 =>
       have H := HA.out
       clear HA
       simp only [laws_FnExactReplyTo.j2] at H
       by_cases c206 : x138_156 = true
       case pos =>
        subst c206
        rw [if_pos rfl] at H
        obtain rfl := Option.some.inj H
        go_wp2
        go_ret
        exact ⟨rr_, bq1_⟩
       replace c206 := Bool.eq_false_iff.mpr c206
       subst c206
       rw [if_neg (show ¬ (false = true) by decide)] at H
       obtain ⟨t486, A2070, H⟩ := Option.bind_eq_some_iff.mp H
       have A207 := a0_ A2070
       clear A2070
       by_cases c208 : t486 < 0
       case pos =>
        rw [if_pos c208] at H
        have c208b0 := decide_eq_true c208
        clear c208
        obtain rfl := Option.some.inj H
        have hnb209 := NB418_350.out
        have hnc209 := NB350_418.out
        have hnb210 := NB418_385.out
        have hnc210 := NB385_418.out
        have hnb211 := NB418_398.out
        have hnc211 := NB398_418.out
        have hnb212 := NB418_484.out
        have hnc212 := NB484_418.out
        have z213_0 : wc.cell? ⟨gb418, 0, none⟩ = some (.int .i64 t405) := (blk_cell BK418.out 0).trans rfl
        have z213_1 : wc.cell? ⟨gb418, 1, none⟩ = some (.bool t406) := (blk_cell BK418.out 1).trans rfl
        have z213_2 : wc.cell? ⟨gb418, 2, none⟩ = some (.bool t407) := (blk_cell BK418.out 2).trans rfl
        have z213_3 : wc.cell? ⟨gb418, 3, none⟩ = some (.int .i64 t408) := (blk_cell BK418.out 3).trans rfl
        have z213_4 : wc.cell? ⟨gb418, 4, none⟩ = some (.string t409) := (blk_cell BK418.out 4).trans rfl
        have z213_5 : wc.cell? ⟨gb418, 5, none⟩ = some (.int .i64 t410) := (blk_cell BK418.out 5).trans rfl
        have z213_6 : wc.cell? ⟨gb418, 6, none⟩ = some (.slice Ao70 t450.length co70) := (blk_cell BK418.out 6).trans rfl
        have z213_7 : wc.cell? ⟨gb418, 7, none⟩ = some (.slice Ao71 t451.length co71) := (blk_cell BK418.out 7).trans rfl
        have q213_0 := blk_frozen BK418.out 0
        have q213_1 := blk_frozen BK418.out 1
        have q213_2 := blk_frozen BK418.out 2
        have q213_3 := blk_frozen BK418.out 3
        have q213_4 := blk_frozen BK418.out 4
        have q213_5 := blk_frozen BK418.out 5
        have q213_6 := blk_frozen BK418.out 6
        have q213_7 := blk_frozen BK418.out 7
        go_wp2_with (first | ((with_reducible refine gate_callee (f := 16) rfl ?_); refine goesL_ (some 141) rfl rfl Tryz.func16 (by kernel_rfl) rfl #[.agg #[.int .i64 t405, .bool t406, .bool t407, .int .i64 t408, .string t409, .int .i64 t410, .slice Ao70 t450.length co70, .slice Ao71 t451.length co71], .int .i64 1] rfl argsS_ ?_; (with_reducible refine (laws_heldMessage.calls kj156 t405 t406 t407 t408 t409 t410 _ _ t450 _ _ t451 1 t486 _ ?side1 ?side2 ?side3 ?side4 A207.out).mono ?_); (case side1 => exact kD_ (Kd.R_reads' HO_419006.out).2.2); (case side2 => exact (Kd.R_reads' HO_419006.out).2.1); (case side3 => exact kD_ (Kd.R_reads' HO_419007.out).2.2); (case side4 => exact (Kd.R_reads' HO_419007.out).2.1); rintro e w214 ⟨rfl, hb⟩; refine ⟨_, rfl, ?_⟩; replace HO_386006 := a0_ (Kd.R_below (kR_ HO_386006.out) hb); replace HO_386007 := a0_ (Kd.R_below (kR_ HO_386007.out) hb); replace HO_399006 := a0_ (Kd.R_below (kR_ HO_399006.out) hb); replace HO_399007 := a0_ (Kd.R_below (kR_ HO_399007.out) hb); replace HO_419006 := a0_ (Kd.R_below (kR_ HO_419006.out) hb); replace HO_419007 := a0_ (Kd.R_below (kR_ HO_419007.out) hb); replace HO_485006 := a0_ (Kd.R_below (kR_ HO_485006.out) hb); replace HO_485007 := a0_ (Kd.R_below (kR_ HO_485007.out) hb); replace BK350 := a0_ (bkB_ BK350 hb); replace BK385 := a0_ (bkB_ BK385 hb); replace BK398 := a0_ (bkB_ BK398 hb); replace BK418 := a0_ (bkB_ BK418 hb); replace BK484 := a0_ (bkB_ BK484 hb); replace HB := a0_ (below_step bq1_ hb); (try clear hb); (try clear hb2); (try clear hk); (try clear hi)))
        go_ret
        exact ⟨rr_, bq1_⟩
       rw [if_neg c208] at H
       have c208b0 := decide_eq_false c208
       clear c208
       by_cases c215 : t486 = t449
       case neg =>
        rw [if_neg c215] at H
        have c215b0 := beq_eq_false_iff_ne.mpr c215
        have c215b1 := bne_iff_ne.mpr c215
        obtain rfl := Option.some.inj H
        have hnb222 := NB418_350.out
        have hnc222 := NB350_418.out
        have hnb223 := NB418_385.out
        have hnc223 := NB385_418.out
        have hnb224 := NB418_398.out
        have hnc224 := NB398_418.out
        have hnb225 := NB418_484.out
        have hnc225 := NB484_418.out
        have z226_0 : wc.cell? ⟨gb418, 0, none⟩ = some (.int .i64 t405) := (blk_cell BK418.out 0).trans rfl
        have z226_1 : wc.cell? ⟨gb418, 1, none⟩ = some (.bool t406) := (blk_cell BK418.out 1).trans rfl
        have z226_2 : wc.cell? ⟨gb418, 2, none⟩ = some (.bool t407) := (blk_cell BK418.out 2).trans rfl
        have z226_3 : wc.cell? ⟨gb418, 3, none⟩ = some (.int .i64 t408) := (blk_cell BK418.out 3).trans rfl
        have z226_4 : wc.cell? ⟨gb418, 4, none⟩ = some (.string t409) := (blk_cell BK418.out 4).trans rfl
        have z226_5 : wc.cell? ⟨gb418, 5, none⟩ = some (.int .i64 t410) := (blk_cell BK418.out 5).trans rfl
        have z226_6 : wc.cell? ⟨gb418, 6, none⟩ = some (.slice Ao70 t450.length co70) := (blk_cell BK418.out 6).trans rfl
        have z226_7 : wc.cell? ⟨gb418, 7, none⟩ = some (.slice Ao71 t451.length co71) := (blk_cell BK418.out 7).trans rfl
        have q226_0 := blk_frozen BK418.out 0
        have q226_1 := blk_frozen BK418.out 1
        have q226_2 := blk_frozen BK418.out 2
        have q226_3 := blk_frozen BK418.out 3
        have q226_4 := blk_frozen BK418.out 4
        have q226_5 := blk_frozen BK418.out 5
        have q226_6 := blk_frozen BK418.out 6
        have q226_7 := blk_frozen BK418.out 7
        go_wp2_with (first | ((with_reducible refine gate_callee (f := 16) rfl ?_); refine goesL_ (some 141) rfl rfl Tryz.func16 (by kernel_rfl) rfl #[.agg #[.int .i64 t405, .bool t406, .bool t407, .int .i64 t408, .string t409, .int .i64 t410, .slice Ao70 t450.length co70, .slice Ao71 t451.length co71], .int .i64 1] rfl argsS_ ?_; (with_reducible refine (laws_heldMessage.calls kj156 t405 t406 t407 t408 t409 t410 _ _ t450 _ _ t451 1 t486 _ ?side1 ?side2 ?side3 ?side4 A207.out).mono ?_); (case side1 => exact kD_ (Kd.R_reads' HO_419006.out).2.2); (case side2 => exact (Kd.R_reads' HO_419006.out).2.1); (case side3 => exact kD_ (Kd.R_reads' HO_419007.out).2.2); (case side4 => exact (Kd.R_reads' HO_419007.out).2.1); rintro e w227 ⟨rfl, hb⟩; refine ⟨_, rfl, ?_⟩; replace HO_386006 := a0_ (Kd.R_below (kR_ HO_386006.out) hb); replace HO_386007 := a0_ (Kd.R_below (kR_ HO_386007.out) hb); replace HO_399006 := a0_ (Kd.R_below (kR_ HO_399006.out) hb); replace HO_399007 := a0_ (Kd.R_below (kR_ HO_399007.out) hb); replace HO_419006 := a0_ (Kd.R_below (kR_ HO_419006.out) hb); replace HO_419007 := a0_ (Kd.R_below (kR_ HO_419007.out) hb); replace HO_485006 := a0_ (Kd.R_below (kR_ HO_485006.out) hb); replace HO_485007 := a0_ (Kd.R_below (kR_ HO_485007.out) hb); replace BK350 := a0_ (bkB_ BK350 hb); replace BK385 := a0_ (bkB_ BK385 hb); replace BK398 := a0_ (bkB_ BK398 hb); replace BK418 := a0_ (bkB_ BK418 hb); replace BK484 := a0_ (bkB_ BK484 hb); replace HB := a0_ (below_step bq1_ hb); (try clear hb); (try clear hb2); (try clear hk); (try clear hi)))
        go_ret
        exact ⟨rr_, bq1_⟩
       rw [if_pos c215] at H
       have c215b0 := beq_iff_eq.mpr c215
       have c215b1 := bne_eq_false_iff_eq.mpr c215
       clear c215
       obtain rfl := Option.some.inj H
       have hnb216 := NB418_350.out
       have hnc216 := NB350_418.out
       have hnb217 := NB418_385.out
       have hnc217 := NB385_418.out
       have hnb218 := NB418_398.out
       have hnc218 := NB398_418.out
       have hnb219 := NB418_484.out
       have hnc219 := NB484_418.out
       have z220_0 : wc.cell? ⟨gb418, 0, none⟩ = some (.int .i64 t405) := (blk_cell BK418.out 0).trans rfl
       have z220_1 : wc.cell? ⟨gb418, 1, none⟩ = some (.bool t406) := (blk_cell BK418.out 1).trans rfl
       have z220_2 : wc.cell? ⟨gb418, 2, none⟩ = some (.bool t407) := (blk_cell BK418.out 2).trans rfl
       have z220_3 : wc.cell? ⟨gb418, 3, none⟩ = some (.int .i64 t408) := (blk_cell BK418.out 3).trans rfl
       have z220_4 : wc.cell? ⟨gb418, 4, none⟩ = some (.string t409) := (blk_cell BK418.out 4).trans rfl
       have z220_5 : wc.cell? ⟨gb418, 5, none⟩ = some (.int .i64 t410) := (blk_cell BK418.out 5).trans rfl
       have z220_6 : wc.cell? ⟨gb418, 6, none⟩ = some (.slice Ao70 t450.length co70) := (blk_cell BK418.out 6).trans rfl
       have z220_7 : wc.cell? ⟨gb418, 7, none⟩ = some (.slice Ao71 t451.length co71) := (blk_cell BK418.out 7).trans rfl
       have q220_0 := blk_frozen BK418.out 0
       have q220_1 := blk_frozen BK418.out 1
       have q220_2 := blk_frozen BK418.out 2
       have q220_3 := blk_frozen BK418.out 3
       have q220_4 := blk_frozen BK418.out 4
       have q220_5 := blk_frozen BK418.out 5
       have q220_6 := blk_frozen BK418.out 6
       have q220_7 := blk_frozen BK418.out 7
       go_wp2_with (first | ((with_reducible refine gate_callee (f := 16) rfl ?_); refine goesL_ (some 141) rfl rfl Tryz.func16 (by kernel_rfl) rfl #[.agg #[.int .i64 t405, .bool t406, .bool t407, .int .i64 t408, .string t409, .int .i64 t410, .slice Ao70 t450.length co70, .slice Ao71 t451.length co71], .int .i64 1] rfl argsS_ ?_; (with_reducible refine (laws_heldMessage.calls kj156 t405 t406 t407 t408 t409 t410 _ _ t450 _ _ t451 1 t486 _ ?side1 ?side2 ?side3 ?side4 A207.out).mono ?_); (case side1 => exact kD_ (Kd.R_reads' HO_419006.out).2.2); (case side2 => exact (Kd.R_reads' HO_419006.out).2.1); (case side3 => exact kD_ (Kd.R_reads' HO_419007.out).2.2); (case side4 => exact (Kd.R_reads' HO_419007.out).2.1); rintro e w221 ⟨rfl, hb⟩; refine ⟨_, rfl, ?_⟩; replace HO_386006 := a0_ (Kd.R_below (kR_ HO_386006.out) hb); replace HO_386007 := a0_ (Kd.R_below (kR_ HO_386007.out) hb); replace HO_399006 := a0_ (Kd.R_below (kR_ HO_399006.out) hb); replace HO_399007 := a0_ (Kd.R_below (kR_ HO_399007.out) hb); replace HO_419006 := a0_ (Kd.R_below (kR_ HO_419006.out) hb); replace HO_419007 := a0_ (Kd.R_below (kR_ HO_419007.out) hb); replace HO_485006 := a0_ (Kd.R_below (kR_ HO_485006.out) hb); replace HO_485007 := a0_ (Kd.R_below (kR_ HO_485007.out) hb); replace BK350 := a0_ (bkB_ BK350 hb); replace BK385 := a0_ (bkB_ BK385 hb); replace BK398 := a0_ (bkB_ BK398 hb); replace BK418 := a0_ (bkB_ BK418 hb); replace BK484 := a0_ (bkB_ BK484 hb); replace HB := a0_ (below_step bq1_ hb); (try clear hb); (try clear hb2); (try clear hk); (try clear hi)))
       go_ret
       exact ⟨rr_, bq1_⟩
end Go.Proofs.YtkpkfallgjdkmaaGreatDoor.P
