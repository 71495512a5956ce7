/- FnExactRecordsOf: part 19 of 28 of my texts for this claim, joined; the theorem stands in the last. Conditions: none beyond the statement's. -/
import Derived.Test.YtiegkjimpclmaaaGreatDoorMFnExactRecordsOfx17
namespace Go.Proofs.YtiegkjimpclmaaaGreatDoor.P
open Go.RowKit Go.Proofs.YtiegkjimpclmaaaGreatDoorW.PrintWords Go.Proofs.YtiegkjimpclmaaaGreatDoorW.PrintLast Go.Proofs.YtiegkjimpclmaaaGreatDoorW.PrintMore
attribute [local go_sem] max2_int min2_int max_two min_two max_three min_three max_four min_four
set_option linter.unusedVariables false
set_option linter.unusedSimpArgs false
attribute [local go_sem] gtr_less
def spec_l3Compare.f (k : Nat) (a0_0 : ByteArray) (a0_1 : Int) (a0_2 : Int) (a0_3 : ByteArray) (a1_0 : ByteArray) (a1_1 : Int) (a1_2 : Int) (a1_3 : ByteArray) : Option (Int) := (spec_l1Compare.f k a0_0 a1_0).bind fun t308 => (if t308 = 0 then ((spec_l3Bytes.f k a0_1 a0_3).bind fun bt309 => ((spec_l3Bytes.f k a1_1 a1_3).bind fun bt311 => (if a0_1 = a1_1 then (if bt309.1.toList = bt311.1.toList then (if a0_2 = a1_2 then (some 0) else ((spec_l3Less.f (decide (a0_2 < a1_2))).bind fun t313 => (some t313))) else ((spec_l3Less.f (Op.bytesLess bt309.1.toList bt311.1.toList)).bind fun t314 => (some t314))) else ((spec_l3Less.f (decide (a0_1 < a1_1))).bind fun t315 => (some t315))))) else (some t308))
set_option maxHeartbeats 8000000 in
set_option maxRecDepth 100000 in
theorem spec_l3Compare.calls (k : Nat) (a0_0 : ByteArray) (a0_1 : Int) (a0_2 : Int) (a0_3 : ByteArray) (a1_0 : ByteArray) (a1_1 : Int) (a1_2 : Int) (a1_3 : ByteArray) (r : Int) (w : World) (h : spec_l3Compare.f k a0_0 a0_1 a0_2 a0_3 a1_0 a1_1 a1_2 a1_3 = some r) :
 Calls Tryz.prog 62 #[.agg #[.string a0_0, .int .i64 a0_1, .int .i64 a0_2, .string a0_3], .agg #[.string a1_0, .int .i64 a1_1, .int .i64 a1_2, .string a1_3]] w fun e w' => e = .returned (.int .i64 r) ∧ Below w.heap.size w w' := by
 have hu45 := Tryz.underlying45
 have HB := a0_ (Below.refl w.heap.size w)
 have H := h
 clear h
 unfold spec_l3Compare.f at H
 obtain ⟨t308, A30, H⟩ := Option.bind_eq_some_iff.mp H
 have A3 := a0_ A30
 clear A30
 by_cases c4 : t308 = 0
 case neg =>
  rw [if_neg c4] at H
  have c4b0 := beq_eq_false_iff_ne.mpr c4
  have c4b1 := bne_iff_ne.mpr c4
  obtain rfl := Option.some.inj H
  go_enter Tryz.func62, Tryz.ntmps62
  go_wp2_with (first | ((with_reducible refine gate_dst (N := 2) rfl ?_); refine boxS_ 2 #[.string a0_0, .int .i64 a0_1, .int .i64 a0_2, .string a0_3] 45 (fun gb306 hg w61 hbox hb => ?_); have n0_ := a0_ (below_step bq0_ hb); have n1_ := a0_ (hbox); have n2_ := a0_ (gw_ hg : w.heap.size ≤ gb306); have n3_ := n2_; clear HB; have HB := n0_; have BK306 := n1_; have GW306 := n2_; have GE306 := n3_; clear n0_ n1_ n2_ n3_; clear hb hbox hg) | ((with_reducible refine gate_dst (N := 3) rfl ?_); refine boxS_ 3 #[.string a1_0, .int .i64 a1_1, .int .i64 a1_2, .string a1_3] 45 (fun gb307 hg w62 hbox hb => ?_); have n0_ := a0_ (bkB_ BK306 hb); have n1_ := a0_ (below_step bq1_ hb); have n2_ := a0_ (hbox); have n3_ := a0_ (gw_ hg (below_size bq1_) : w.heap.size ≤ gb307); have n4_ := n3_; have n5_ := a0_ ((by rw [hg]; exact Nat.ne_of_lt (blk_lt (g := gb306) (o := .cells #[.string a0_0, .int .i64 a0_1, .int .i64 a0_2, .string a0_3] 45 (0, 0)) (kB_ BK306.out)) : gb306 ≠ gb307)); have n6_ := a0_ ((by rw [hg]; exact Nat.ne_of_gt (blk_lt (g := gb306) (o := .cells #[.string a0_0, .int .i64 a0_1, .int .i64 a0_2, .string a0_3] 45 (0, 0)) (kB_ BK306.out)) : gb307 ≠ gb306)); clear BK306; clear HB; have BK306 := n0_; have HB := n1_; have BK307 := n2_; have GW307 := n3_; have GE307 := n4_; have NB306_307 := n5_; have NB307_306 := n6_; clear n0_ n1_ n2_ n3_ n4_ n5_ n6_; clear hb hbox hg; have hnb63 := NB306_307.out; have hnc63 := NB307_306.out; obtain ⟨z64_0, z64_1, z64_2, z64_3, q64_0, q64_1, q64_2, q64_3⟩ := bk4_ BK306.out; obtain ⟨z65_0, z65_1, z65_2, z65_3, q65_0, q65_1, q65_2, q65_3⟩ := bk4_ BK307.out) | ((with_reducible refine gate_callee (f := 128) rfl ?_); refine goesL_ (some 14) rfl rfl Tryz.func128 (by kernel_rfl) rfl #[.string a0_0, .string a1_0] rfl argsS_ ?_; (with_reducible refine (spec_l1Compare.calls k a0_0 a1_0 t308 _ A3.out).mono ?_); rintro e w66 ⟨rfl, hb⟩; refine ⟨_, rfl, ?_⟩; replace BK306 := a0_ (bkB_ BK306 hb); replace BK307 := a0_ (bkB_ BK307 hb); replace HB := a0_ (below_step bq1_ hb); clear hb))
  go_ret
  exact ⟨rr_, bq1_⟩
 rw [if_pos c4] at H
 have c4b0 := beq_iff_eq.mpr c4
 have c4b1 := bne_eq_false_iff_eq.mpr c4
 clear c4
 obtain ⟨⟨t309, t310⟩, A50, H⟩ := Option.bind_eq_some_iff.mp H
 have A5 := a0_ A50
 clear A50
 obtain ⟨⟨t311, t312⟩, A60, H⟩ := Option.bind_eq_some_iff.mp H
 have A6 := a0_ A60
 clear A60
 by_cases c7 : a0_1 = a1_1
 case neg =>
  rw [if_neg c7] at H
  have c7b0 := beq_eq_false_iff_ne.mpr c7
  have c7b1 := bne_iff_ne.mpr c7
  obtain ⟨t315, A480, H⟩ := Option.bind_eq_some_iff.mp H
  have A48 := a0_ A480
  clear A480
  obtain rfl := Option.some.inj H
  go_enter Tryz.func62, Tryz.ntmps62
  go_wp2_with (first | ((with_reducible refine gate_dst (N := 2) rfl ?_); refine boxS_ 2 #[.string a0_0, .int .i64 a0_1, .int .i64 a0_2, .string a0_3] 45 (fun gb306 hg w49 hbox hb => ?_); have n0_ := a0_ (below_step bq0_ hb); have n1_ := a0_ (hbox); have n2_ := a0_ (gw_ hg : w.heap.size ≤ gb306); have n3_ := n2_; clear HB; have HB := n0_; have BK306 := n1_; have GW306 := n2_; have GE306 := n3_; clear n0_ n1_ n2_ n3_; clear hb hbox hg) | ((with_reducible refine gate_dst (N := 3) rfl ?_); refine boxS_ 3 #[.string a1_0, .int .i64 a1_1, .int .i64 a1_2, .string a1_3] 45 (fun gb307 hg w50 hbox hb => ?_); have n0_ := a0_ (bkB_ BK306 hb); have n1_ := a0_ (below_step bq1_ hb); have n2_ := a0_ (hbox); have n3_ := a0_ (gw_ hg (below_size bq1_) : w.heap.size ≤ gb307); have n4_ := n3_; have n5_ := a0_ ((by rw [hg]; exact Nat.ne_of_lt (blk_lt (g := gb306) (o := .cells #[.string a0_0, .int .i64 a0_1, .int .i64 a0_2, .string a0_3] 45 (0, 0)) (kB_ BK306.out)) : gb306 ≠ gb307)); have n6_ := a0_ ((by rw [hg]; exact Nat.ne_of_gt (blk_lt (g := gb306) (o := .cells #[.string a0_0, .int .i64 a0_1, .int .i64 a0_2, .string a0_3] 45 (0, 0)) (kB_ BK306.out)) : gb307 ≠ gb306)); clear BK306; clear HB; have BK306 := n0_; have HB := n1_; have BK307 := n2_; have GW307 := n3_; have GE307 := n4_; have NB306_307 := n5_; have NB307_306 := n6_; clear n0_ n1_ n2_ n3_ n4_ n5_ n6_; clear hb hbox hg; have hnb51 := NB306_307.out; have hnc51 := NB307_306.out; obtain ⟨z52_0, z52_1, z52_2, z52_3, q52_0, q52_1, q52_2, q52_3⟩ := bk4_ BK306.out; obtain ⟨z53_0, z53_1, z53_2, z53_3, q53_0, q53_1, q53_2, q53_3⟩ := bk4_ BK307.out) | ((with_reducible refine gate_callee (f := 128) rfl ?_); refine goesL_ (some 14) rfl rfl Tryz.func128 (by kernel_rfl) rfl #[.string a0_0, .string a1_0] rfl argsS_ ?_; (with_reducible refine (spec_l1Compare.calls k a0_0 a1_0 t308 _ A3.out).mono ?_); rintro e w54 ⟨rfl, hb⟩; refine ⟨_, rfl, ?_⟩; replace BK306 := a0_ (bkB_ BK306 hb); replace BK307 := a0_ (bkB_ BK307 hb); replace HB := a0_ (below_step bq1_ hb); clear hb; obtain ⟨z55_0, z55_1, z55_2, z55_3, q55_0, q55_1, q55_2, q55_3⟩ := bk4_ BK306.out) | ((with_reducible refine gate_callee (f := 55) rfl ?_); refine goesL_ (some 23) rfl rfl Tryz.func55 (by kernel_rfl) rfl #[.int .i64 a0_1, .string a0_3] rfl argsS_ ?_; (with_reducible refine (spec_l3Bytes.calls k a0_1 a0_3 t309 t310 _ A5.out).mono ?_); rintro e w56 ⟨rfl, hb⟩; refine ⟨_, rfl, ?_⟩; replace BK306 := a0_ (bkB_ BK306 hb); replace BK307 := a0_ (bkB_ BK307 hb); replace HB := a0_ (below_step bq1_ hb); clear hb; obtain ⟨z57_0, z57_1, z57_2, z57_3, q57_0, q57_1, q57_2, q57_3⟩ := bk4_ BK307.out) | ((with_reducible refine gate_callee (f := 55) rfl ?_); refine goesL_ (some 31) rfl rfl Tryz.func55 (by kernel_rfl) rfl #[.int .i64 a1_1, .string a1_3] rfl argsS_ ?_; (with_reducible refine (spec_l3Bytes.calls k a1_1 a1_3 t311 t312 _ A6.out).mono ?_); rintro e w58 ⟨rfl, hb⟩; refine ⟨_, rfl, ?_⟩; replace BK306 := a0_ (bkB_ BK306 hb); replace BK307 := a0_ (bkB_ BK307 hb); replace HB := a0_ (below_step bq1_ hb); clear hb; obtain ⟨z59_0, z59_1, z59_2, z59_3, q59_0, q59_1, q59_2, q59_3⟩ := bk4_ BK306.out; obtain ⟨z60_0, z60_1, z60_2, z60_3, q60_0, q60_1, q60_2, q60_3⟩ := bk4_ BK307.out) | ((with_reducible refine gate_callee (f := 129) rfl ?_); refine goesL_ (some 45) rfl rfl Tryz.func129 (by kernel_rfl) rfl #[.bool (decide (a0_1 < a1_1))] rfl argsS_ ?_; (with_reducible refine (spec_l3Less.calls (decide (a0_1 < a1_1)) t315 _ A48.out).mono ?_); rintro e w' ⟨rfl, ⟨nd, rfl⟩⟩; refine ⟨_, rfl, ?_⟩))
  go_ret
  exact ⟨rr_, bq1_⟩
 rw [if_pos c7] at H
 have c7b0 := beq_iff_eq.mpr c7
 have c7b1 := bne_eq_false_iff_eq.mpr c7
 clear c7
 by_cases c8 : t309.toList = t311.toList
 case neg =>
  rw [if_neg c8] at H
  have c8b0 := beq_eq_false_iff_ne.mpr c8
  have c8b1 := bne_iff_ne.mpr c8
  obtain ⟨t314, A350, H⟩ := Option.bind_eq_some_iff.mp H
  have A35 := a0_ A350
  clear A350
  obtain rfl := Option.some.inj H
  go_enter Tryz.func62, Tryz.ntmps62
  go_wp2_with (first | ((with_reducible refine gate_dst (N := 2) rfl ?_); refine boxS_ 2 #[.string a0_0, .int .i64 a0_1, .int .i64 a0_2, .string a0_3] 45 (fun gb306 hg w36 hbox hb => ?_); have n0_ := a0_ (below_step bq0_ hb); have n1_ := a0_ (hbox); have n2_ := a0_ (gw_ hg : w.heap.size ≤ gb306); have n3_ := n2_; clear HB; have HB := n0_; have BK306 := n1_; have GW306 := n2_; have GE306 := n3_; clear n0_ n1_ n2_ n3_; clear hb hbox hg) | ((with_reducible refine gate_dst (N := 3) rfl ?_); refine boxS_ 3 #[.string a1_0, .int .i64 a1_1, .int .i64 a1_2, .string a1_3] 45 (fun gb307 hg w37 hbox hb => ?_); have n0_ := a0_ (bkB_ BK306 hb); have n1_ := a0_ (below_step bq1_ hb); have n2_ := a0_ (hbox); have n3_ := a0_ (gw_ hg (below_size bq1_) : w.heap.size ≤ gb307); have n4_ := n3_; have n5_ := a0_ ((by rw [hg]; exact Nat.ne_of_lt (blk_lt (g := gb306) (o := .cells #[.string a0_0, .int .i64 a0_1, .int .i64 a0_2, .string a0_3] 45 (0, 0)) (kB_ BK306.out)) : gb306 ≠ gb307)); have n6_ := a0_ ((by rw [hg]; exact Nat.ne_of_gt (blk_lt (g := gb306) (o := .cells #[.string a0_0, .int .i64 a0_1, .int .i64 a0_2, .string a0_3] 45 (0, 0)) (kB_ BK306.out)) : gb307 ≠ gb306)); clear BK306; clear HB; have BK306 := n0_; have HB := n1_; have BK307 := n2_; have GW307 := n3_; have GE307 := n4_; have NB306_307 := n5_; have NB307_306 := n6_; clear n0_ n1_ n2_ n3_ n4_ n5_ n6_; clear hb hbox hg; have hnb38 := NB306_307.out; have hnc38 := NB307_306.out; obtain ⟨z39_0, z39_1, z39_2, z39_3, q39_0, q39_1, q39_2, q39_3⟩ := bk4_ BK306.out; obtain ⟨z40_0, z40_1, z40_2, z40_3, q40_0, q40_1, q40_2, q40_3⟩ := bk4_ BK307.out) | ((with_reducible refine gate_callee (f := 128) rfl ?_); refine goesL_ (some 14) rfl rfl Tryz.func128 (by kernel_rfl) rfl #[.string a0_0, .string a1_0] rfl argsS_ ?_; (with_reducible refine (spec_l1Compare.calls k a0_0 a1_0 t308 _ A3.out).mono ?_); rintro e w41 ⟨rfl, hb⟩; refine ⟨_, rfl, ?_⟩; replace BK306 := a0_ (bkB_ BK306 hb); replace BK307 := a0_ (bkB_ BK307 hb); replace HB := a0_ (below_step bq1_ hb); clear hb; obtain ⟨z42_0, z42_1, z42_2, z42_3, q42_0, q42_1, q42_2, q42_3⟩ := bk4_ BK306.out) | ((with_reducible refine gate_callee (f := 55) rfl ?_); refine goesL_ (some 23) rfl rfl Tryz.func55 (by kernel_rfl) rfl #[.int .i64 a0_1, .string a0_3] rfl argsS_ ?_; (with_reducible refine (spec_l3Bytes.calls k a0_1 a0_3 t309 t310 _ A5.out).mono ?_); rintro e w43 ⟨rfl, hb⟩; refine ⟨_, rfl, ?_⟩; replace BK306 := a0_ (bkB_ BK306 hb); replace BK307 := a0_ (bkB_ BK307 hb); replace HB := a0_ (below_step bq1_ hb); clear hb; obtain ⟨z44_0, z44_1, z44_2, z44_3, q44_0, q44_1, q44_2, q44_3⟩ := bk4_ BK307.out) | ((with_reducible refine gate_callee (f := 55) rfl ?_); refine goesL_ (some 31) rfl rfl Tryz.func55 (by kernel_rfl) rfl #[.int .i64 a1_1, .string a1_3] rfl argsS_ ?_; (with_reducible refine (spec_l3Bytes.calls k a1_1 a1_3 t311 t312 _ A6.out).mono ?_); rintro e w45 ⟨rfl, hb⟩; refine ⟨_, rfl, ?_⟩; replace BK306 := a0_ (bkB_ BK306 hb); replace BK307 := a0_ (bkB_ BK307 hb); replace HB := a0_ (below_step bq1_ hb); clear hb; obtain ⟨z46_0, z46_1, z46_2, z46_3, q46_0, q46_1, q46_2, q46_3⟩ := bk4_ BK306.out; obtain ⟨z47_0, z47_1, z47_2, z47_3, q47_0, q47_1, q47_2, q47_3⟩ := bk4_ BK307.out) | ((with_reducible refine gate_callee (f := 129) rfl ?_); refine goesL_ (some 53) rfl rfl Tryz.func129 (by kernel_rfl) rfl #[.bool (Op.bytesLess t309.toList t311.toList)] rfl argsS_ ?_; (with_reducible refine (spec_l3Less.calls (Op.bytesLess t309.toList t311.toList) t314 _ A35.out).mono ?_); rintro e w' ⟨rfl, ⟨nd, rfl⟩⟩; refine ⟨_, rfl, ?_⟩))
  go_ret
  exact ⟨rr_, bq1_⟩
 rw [if_pos c8] at H
 have c8b0 := beq_iff_eq.mpr c8
 have c8b1 := bne_eq_false_iff_eq.mpr c8
 clear c8
 by_cases c9 : a0_2 = a1_2
 case pos =>
  rw [if_pos c9] at H
  have c9b0 := beq_iff_eq.mpr c9
  have c9b1 := bne_eq_false_iff_eq.mpr c9
  clear c9
  obtain rfl := Option.some.inj H
  go_enter Tryz.func62, Tryz.ntmps62
  go_wp2_with (first | ((with_reducible refine gate_dst (N := 2) rfl ?_); refine boxS_ 2 #[.string a0_0, .int .i64 a0_1, .int .i64 a0_2, .string a0_3] 45 (fun gb306 hg w10 hbox hb => ?_); have n0_ := a0_ (below_step bq0_ hb); have n1_ := a0_ (hbox); have n2_ := a0_ (gw_ hg : w.heap.size ≤ gb306); have n3_ := n2_; clear HB; have HB := n0_; have BK306 := n1_; have GW306 := n2_; have GE306 := n3_; clear n0_ n1_ n2_ n3_; clear hb hbox hg) | ((with_reducible refine gate_dst (N := 3) rfl ?_); refine boxS_ 3 #[.string a1_0, .int .i64 a1_1, .int .i64 a1_2, .string a1_3] 45 (fun gb307 hg w11 hbox hb => ?_); have n0_ := a0_ (bkB_ BK306 hb); have n1_ := a0_ (below_step bq1_ hb); have n2_ := a0_ (hbox); have n3_ := a0_ (gw_ hg (below_size bq1_) : w.heap.size ≤ gb307); have n4_ := n3_; have n5_ := a0_ ((by rw [hg]; exact Nat.ne_of_lt (blk_lt (g := gb306) (o := .cells #[.string a0_0, .int .i64 a0_1, .int .i64 a0_2, .string a0_3] 45 (0, 0)) (kB_ BK306.out)) : gb306 ≠ gb307)); have n6_ := a0_ ((by rw [hg]; exact Nat.ne_of_gt (blk_lt (g := gb306) (o := .cells #[.string a0_0, .int .i64 a0_1, .int .i64 a0_2, .string a0_3] 45 (0, 0)) (kB_ BK306.out)) : gb307 ≠ gb306)); clear BK306; clear HB; have BK306 := n0_; have HB := n1_; have BK307 := n2_; have GW307 := n3_; have GE307 := n4_; have NB306_307 := n5_; have NB307_306 := n6_; clear n0_ n1_ n2_ n3_ n4_ n5_ n6_; clear hb hbox hg; have hnb12 := NB306_307.out; have hnc12 := NB307_306.out; obtain ⟨z13_0, z13_1, z13_2, z13_3, q13_0, q13_1, q13_2, q13_3⟩ := bk4_ BK306.out; obtain ⟨z14_0, z14_1, z14_2, z14_3, q14_0, q14_1, q14_2, q14_3⟩ := bk4_ BK307.out) | ((with_reducible refine gate_callee (f := 128) rfl ?_); refine goesL_ (some 14) rfl rfl Tryz.func128 (by kernel_rfl) rfl #[.string a0_0, .string a1_0] rfl argsS_ ?_; (with_reducible refine (spec_l1Compare.calls k a0_0 a1_0 t308 _ A3.out).mono ?_); rintro e w15 ⟨rfl, hb⟩; refine ⟨_, rfl, ?_⟩; replace BK306 := a0_ (bkB_ BK306 hb); replace BK307 := a0_ (bkB_ BK307 hb); replace HB := a0_ (below_step bq1_ hb); clear hb; obtain ⟨z16_0, z16_1, z16_2, z16_3, q16_0, q16_1, q16_2, q16_3⟩ := bk4_ BK306.out) | ((with_reducible refine gate_callee (f := 55) rfl ?_); refine goesL_ (some 23) rfl rfl Tryz.func55 (by kernel_rfl) rfl #[.int .i64 a0_1, .string a0_3] rfl argsS_ ?_; (with_reducible refine (spec_l3Bytes.calls k a0_1 a0_3 t309 t310 _ A5.out).mono ?_); rintro e w17 ⟨rfl, hb⟩; refine ⟨_, rfl, ?_⟩; replace BK306 := a0_ (bkB_ BK306 hb); replace BK307 := a0_ (bkB_ BK307 hb); replace HB := a0_ (below_step bq1_ hb); clear hb; obtain ⟨z18_0, z18_1, z18_2, z18_3, q18_0, q18_1, q18_2, q18_3⟩ := bk4_ BK307.out) | ((with_reducible refine gate_callee (f := 55) rfl ?_); refine goesL_ (some 31) rfl rfl Tryz.func55 (by kernel_rfl) rfl #[.int .i64 a1_1, .string a1_3] rfl argsS_ ?_; (with_reducible refine (spec_l3Bytes.calls k a1_1 a1_3 t311 t312 _ A6.out).mono ?_); rintro e w19 ⟨rfl, hb⟩; refine ⟨_, rfl, ?_⟩; replace BK306 := a0_ (bkB_ BK306 hb); replace BK307 := a0_ (bkB_ BK307 hb); replace HB := a0_ (below_step bq1_ hb); clear hb; obtain ⟨z20_0, z20_1, z20_2, z20_3, q20_0, q20_1, q20_2, q20_3⟩ := bk4_ BK306.out; obtain ⟨z21_0, z21_1, z21_2, z21_3, q21_0, q21_1, q21_2, q21_3⟩ := bk4_ BK307.out))
  go_ret
  exact ⟨rr_, bq1_⟩
 rw [if_neg c9] at H
 have c9b0 := beq_eq_false_iff_ne.mpr c9
 have c9b1 := bne_iff_ne.mpr c9
 obtain ⟨t313, A220, H⟩ := Option.bind_eq_some_iff.mp H
 have A22 := a0_ A220
 clear A220
 obtain rfl := Option.some.inj H
 go_enter Tryz.func62, Tryz.ntmps62
 go_wp2_with (first | ((with_reducible refine gate_dst (N := 2) rfl ?_); refine boxS_ 2 #[.string a0_0, .int .i64 a0_1, .int .i64 a0_2, .string a0_3] 45 (fun gb306 hg w23 hbox hb => ?_); have n0_ := a0_ (below_step bq0_ hb); have n1_ := a0_ (hbox); have n2_ := a0_ (gw_ hg : w.heap.size ≤ gb306); have n3_ := n2_; clear HB; have HB := n0_; have BK306 := n1_; have GW306 := n2_; have GE306 := n3_; clear n0_ n1_ n2_ n3_; clear hb hbox hg) | ((with_reducible refine gate_dst (N := 3) rfl ?_); refine boxS_ 3 #[.string a1_0, .int .i64 a1_1, .int .i64 a1_2, .string a1_3] 45 (fun gb307 hg w24 hbox hb => ?_); have n0_ := a0_ (bkB_ BK306 hb); have n1_ := a0_ (below_step bq1_ hb); have n2_ := a0_ (hbox); have n3_ := a0_ (gw_ hg (below_size bq1_) : w.heap.size ≤ gb307); have n4_ := n3_; have n5_ := a0_ ((by rw [hg]; exact Nat.ne_of_lt (blk_lt (g := gb306) (o := .cells #[.string a0_0, .int .i64 a0_1, .int .i64 a0_2, .string a0_3] 45 (0, 0)) (kB_ BK306.out)) : gb306 ≠ gb307)); have n6_ := a0_ ((by rw [hg]; exact Nat.ne_of_gt (blk_lt (g := gb306) (o := .cells #[.string a0_0, .int .i64 a0_1, .int .i64 a0_2, .string a0_3] 45 (0, 0)) (kB_ BK306.out)) : gb307 ≠ gb306)); clear BK306; clear HB; have BK306 := n0_; have HB := n1_; have BK307 := n2_; have GW307 := n3_; have GE307 := n4_; have NB306_307 := n5_; have NB307_306 := n6_; clear n0_ n1_ n2_ n3_ n4_ n5_ n6_; clear hb hbox hg; have hnb25 := NB306_307.out; have hnc25 := NB307_306.out; obtain ⟨z26_0, z26_1, z26_2, z26_3, q26_0, q26_1, q26_2, q26_3⟩ := bk4_ BK306.out; obtain ⟨z27_0, z27_1, z27_2, z27_3, q27_0, q27_1, q27_2, q27_3⟩ := bk4_ BK307.out) | ((with_reducible refine gate_callee (f := 128) rfl ?_); refine goesL_ (some 14) rfl rfl Tryz.func128 (by kernel_rfl) rfl #[.string a0_0, .string a1_0] rfl argsS_ ?_; (with_reducible refine (spec_l1Compare.calls k a0_0 a1_0 t308 _ A3.out).mono ?_); rintro e w28 ⟨rfl, hb⟩; refine ⟨_, rfl, ?_⟩; replace BK306 := a0_ (bkB_ BK306 hb); replace BK307 := a0_ (bkB_ BK307 hb); replace HB := a0_ (below_step bq1_ hb); clear hb; obtain ⟨z29_0, z29_1, z29_2, z29_3, q29_0, q29_1, q29_2, q29_3⟩ := bk4_ BK306.out) | ((with_reducible refine gate_callee (f := 55) rfl ?_); refine goesL_ (some 23) rfl rfl Tryz.func55 (by kernel_rfl) rfl #[.int .i64 a0_1, .string a0_3] rfl argsS_ ?_; (with_reducible refine (spec_l3Bytes.calls k a0_1 a0_3 t309 t310 _ A5.out).mono ?_); rintro e w30 ⟨rfl, hb⟩; refine ⟨_, rfl, ?_⟩; replace BK306 := a0_ (bkB_ BK306 hb); replace BK307 := a0_ (bkB_ BK307 hb); replace HB := a0_ (below_step bq1_ hb); clear hb; obtain ⟨z31_0, z31_1, z31_2, z31_3, q31_0, q31_1, q31_2, q31_3⟩ := bk4_ BK307.out) | ((with_reducible refine gate_callee (f := 55) rfl ?_); refine goesL_ (some 31) rfl rfl Tryz.func55 (by kernel_rfl) rfl #[.int .i64 a1_1, .string a1_3] rfl argsS_ ?_; (with_reducible refine (spec_l3Bytes.calls k a1_1 a1_3 t311 t312 _ A6.out).mono ?_); rintro e w32 ⟨rfl, hb⟩; refine ⟨_, rfl, ?_⟩; replace BK306 := a0_ (bkB_ BK306 hb); replace BK307 := a0_ (bkB_ BK307 hb); replace HB := a0_ (below_step bq1_ hb); clear hb; obtain ⟨z33_0, z33_1, z33_2, z33_3, q33_0, q33_1, q33_2, q33_3⟩ := bk4_ BK306.out; obtain ⟨z34_0, z34_1, z34_2, z34_3, q34_0, q34_1, q34_2, q34_3⟩ := bk4_ BK307.out) | ((with_reducible refine gate_callee (f := 129) rfl ?_); refine goesL_ (some 65) rfl rfl Tryz.func129 (by kernel_rfl) rfl #[.bool (decide (a0_2 < a1_2))] rfl argsS_ ?_; (with_reducible refine (spec_l3Less.calls (decide (a0_2 < a1_2)) t313 _ A22.out).mono ?_); rintro e w' ⟨rfl, ⟨nd, rfl⟩⟩; refine ⟨_, rfl, ?_⟩))
 go_ret
 exact ⟨rr_, bq1_⟩
end Go.Proofs.YtiegkjimpclmaaaGreatDoor.P
namespace Go.Proofs.YtiegkjimpclmaaaGreatDoor.P
open Go.RowKit Go.Proofs.YtiegkjimpclmaaaGreatDoorW.PrintWords Go.Proofs.YtiegkjimpclmaaaGreatDoorW.PrintLast Go.Proofs.YtiegkjimpclmaaaGreatDoorW.PrintMore
set_option linter.unusedVariables false
set_option linter.unusedSimpArgs false
def badD : ByteArray × Bool := ((⟨#[]⟩ : ByteArray), false)
def impl_DataBytes.l0 : Nat → List ByteArray → ByteArray → Int → Option (ByteArray × Bool)
 | 0, _, _, _ => none
 | k + 1, parts, out, i => if i < (parts.length : Int) then (if 0 ≤ i then ((impl_numberIn.f (rdOf ByteArray.empty parts i) 255).bind fun b => (if b.2 = true then (if (parts.length : Int) = 4 then ((impl_big.f k b.1 1).bind fun t => (if out.size + t.size ≤ 9223372036854775807 then impl_DataBytes.l0 k parts (out ++ t) (wrap64 (i + 1)) else none)) else some badD) else some badD)) else none) else some (out, true)
def dataTxt (k : Nat) (data : ByteArray) : Option (ByteArray × Bool) := if (data.size : Int) > 30 then some badD else (if (bytesOf data).any (fun c => decide (c < 32) || decide (c > 126)) = true then some badD else ((impl_big.f k (data.size : Int) 1).bind fun t => (if t.size + data.size ≤ 9223372036854775807 then some (t ++ data, true) else none)))
def dataMx (k : Nat) (data : ByteArray) : Option (ByteArray × Bool) := (strings_Cut.f data (⟨#[32]⟩ : ByteArray)).bind fun c => ((impl_numberIn.f c.1 65535).bind fun b => (if b.2 = true then ((impl_isTarget.f c.2.1).bind fun t => (if t = true then ((impl_big.f k b.1 2).bind fun g => ((impl_labelBytes.f k c.2.1).bind fun lb => (if g.size + lb.size ≤ 9223372036854775807 then (if g.size + lb.size + 1 ≤ 9223372036854775807 then some ((g ++ lb) ++ (⟨#[0]⟩ : ByteArray), true) else none) else none))) else some badD)) else some badD))
def dataNs (k : Nat) (data : ByteArray) : Option (ByteArray × Bool) := (impl_isTarget.f data).bind fun t => (if t = true then ((impl_labelBytes.f k data).bind fun lb => (if lb.size + 1 ≤ 9223372036854775807 then some (lb ++ (⟨#[0]⟩ : ByteArray), true) else none)) else some badD)
def dataSoa (k : Nat) (data : ByteArray) : Option (ByteArray × Bool) := (impl_numberIn.f data 4294967295).bind fun b => (if b.2 = true then ((impl_big.f k b.1 4).bind fun t => some (t, true)) else some badD)
def impl_DataBytes.f (k : Nat) (kind : Int) (data : ByteArray) : Option (ByteArray × Bool) :=
 if kind = 1 then ((strings_Split.f data (⟨#[46]⟩ : ByteArray)).bind fun parts => impl_DataBytes.l0 k parts (⟨#[]⟩ : ByteArray) 0)
 else (if kind = 2 ∨ kind = 5 then dataNs k data else (if kind = 6 then dataSoa k data else (if kind = 15 then dataMx k data else (if kind = 16 then dataTxt k data else some badD))))
set_option maxHeartbeats 4000000 in
theorem data_ns (k : Nat) (kind : Int) (hk : kind = 2 ∨ kind = 5) (a1 : ByteArray) (r1 : ByteArray) (r2 : Bool) (w : World) (h : dataNs k a1 = some (r1, r2)) (hv : Vars w) :
 Calls Tryz.prog 31 #[.int .i64 kind, .string a1] w fun e w' => e = .returned (.tuple #[.string r1, .bool r2]) ∧ Below w.heap.size w w' := by
 unfold dataNs at h
 obtain ⟨t, ht, h⟩ := Option.bind_eq_some_iff.mp h
 have tc := fun W => impl_isTarget.calls a1 t W ht
 have hk1 : (kind == 1) = false := by rcases hk with rfl | rfl <;> rfl
 have hk2 : kind = 2 → (kind == 2) = true := fun e => by rw [e]; rfl
 cases t with
 | false =>
  obtain ⟨rfl, rfl⟩ := Prod.mk.inj (Option.some.inj h)
  clear h ht
  rcases hk with rfl | rfl
  · go_enter Tryz.func31, Tryz.ntmps31
    go_wp2_with (go_at_call 90; refine (tc _).mono ?_; rintro e w1 ⟨rfl, hb⟩)
    go_ret2
    exact ⟨rfl, hb⟩
  · go_enter Tryz.func31, Tryz.ntmps31
    go_wp2_with (go_at_call 90; refine (tc _).mono ?_; rintro e w1 ⟨rfl, hb⟩)
    go_ret2
    exact ⟨rfl, hb⟩
 | true =>
  rw [if_pos rfl] at h
  obtain ⟨lb, hlb, h⟩ := Option.bind_eq_some_iff.mp h
  have lc := fun W => impl_labelBytes.calls k a1 lb W hlb
  by_cases hs : lb.size + 1 ≤ 9223372036854775807
  · rw [if_pos hs] at h
    obtain ⟨rfl, rfl⟩ := Prod.mk.inj (Option.some.inj h)
    have hsa := eq_true hs
    have hsc : (9223372036854775807 < lb.size + 1) = False := eq_false (by omega)
    clear h ht hlb
    rcases hk with rfl | rfl
    · go_enter Tryz.func31, Tryz.ntmps31
      go_wp2_with (first | (go_at_call 90; refine (tc _).mono ?_; rintro e w1 ⟨rfl, hb⟩) | (go_at_call 91; refine (lc _).mono ?_; rintro e w2 ⟨rfl, hb2⟩; have hb3 := below_then hb hb.size hb2))
      go_ret2
      exact ⟨rfl, hb3⟩
    · go_enter Tryz.func31, Tryz.ntmps31
      go_wp2_with (first | (go_at_call 90; refine (tc _).mono ?_; rintro e w1 ⟨rfl, hb⟩) | (go_at_call 91; refine (lc _).mono ?_; rintro e w2 ⟨rfl, hb2⟩; have hb3 := below_then hb hb.size hb2))
      go_ret2
      exact ⟨rfl, hb3⟩
  · rw [if_neg hs] at h; cases h
set_option maxHeartbeats 4000000 in
theorem data_soa (k : Nat) (a1 : ByteArray) (r1 : ByteArray) (r2 : Bool) (w : World) (h : dataSoa k a1 = some (r1, r2)) (hv : Vars w) :
 Calls Tryz.prog 31 #[.int .i64 6, .string a1] w fun e w' => e = .returned (.tuple #[.string r1, .bool r2]) ∧ Below w.heap.size w w' := by
 unfold dataSoa at h
 obtain ⟨⟨b1, b2⟩, hb0, h⟩ := Option.bind_eq_some_iff.mp h
 replace h : (if b2 = true then ((impl_big.f k b1 4).bind fun t => some (t, true)) else some badD) = some (r1, r2) := h
 have nc := fun W (hbW : Below w.heap.size w W) => impl_numberIn.calls a1 4294967295 b1 b2 W hb0 (Vars.below hv hbW)
 clear hv
 cases b2 with
 | false =>
  obtain ⟨rfl, rfl⟩ := Prod.mk.inj (Option.some.inj h)
  clear h
  go_enter Tryz.func31, Tryz.ntmps31
  go_wp2_with (go_at_call 88; refine (nc _ (Below.refl _ _)).mono ?_; rintro e w1 ⟨rfl, hb⟩)
  go_ret2
  exact ⟨rfl, hb⟩
 | true =>
  rw [if_pos rfl] at h
  obtain ⟨g, hg, h⟩ := Option.bind_eq_some_iff.mp h
  have gc := fun W => impl_big.calls k b1 4 g W hg
  obtain ⟨rfl, rfl⟩ := Prod.mk.inj (Option.some.inj h)
  clear h
  go_enter Tryz.func31, Tryz.ntmps31
  go_wp2_with (first | (go_at_call 88; refine (nc _ (Below.refl _ _)).mono ?_; rintro e w1 ⟨rfl, hb⟩) | (go_at_call 89; refine (gc _).mono ?_; rintro e w2 ⟨rfl, hb2⟩; have hb3 := below_then hb hb.size hb2))
  go_ret2
  exact ⟨rfl, hb3⟩
set_option maxHeartbeats 4000000 in
theorem data_mx (k : Nat) (a1 : ByteArray) (r1 : ByteArray) (r2 : Bool) (w : World) (h : dataMx k a1 = some (r1, r2)) (hv : Vars w) :
 Calls Tryz.prog 31 #[.int .i64 15, .string a1] w fun e w' => e = .returned (.tuple #[.string r1, .bool r2]) ∧ Below w.heap.size w w' := by
 unfold dataMx at h
 obtain ⟨⟨c1, c2, c3⟩, hc, h⟩ := Option.bind_eq_some_iff.mp h
 obtain ⟨⟨b1, b2⟩, hb0, h⟩ := Option.bind_eq_some_iff.mp h
 replace h : (if b2 = true then ((impl_isTarget.f c2).bind fun t => (if t = true then ((impl_big.f k b1 2).bind fun g => ((impl_labelBytes.f k c2).bind fun lb => (if g.size + lb.size ≤ 9223372036854775807 then (if g.size + lb.size + 1 ≤ 9223372036854775807 then some ((g ++ lb) ++ (⟨#[0]⟩ : ByteArray), true) else none) else none))) else some badD)) else some badD) = some (r1, r2) := h
 have cutc := fun W => strings_Cut.calls a1 (⟨#[32]⟩ : ByteArray) c1 c2 c3 W hc
 have nc := fun W (hbW : Below w.heap.size w W) => impl_numberIn.calls c1 65535 b1 b2 W hb0 (Vars.below hv hbW)
 clear hv
 cases b2 with
 | false =>
  obtain ⟨rfl, rfl⟩ := Prod.mk.inj (Option.some.inj h)
  clear h
  go_enter Tryz.func31, Tryz.ntmps31
  go_wp2_with (first | (go_at_call 92; refine (cutc _).mono ?_; rintro e w0 ⟨rfl, nd, rfl⟩; have hb0' := pw_below_drewN (Below.refl w.heap.size w) nd) | (go_at_call 88; refine (nc _ hb0').mono ?_; rintro e w1 ⟨rfl, hb⟩; have hb1 := below_then hb0' hb0'.size hb))
  go_ret2
  exact ⟨rfl, hb1⟩
 | true =>
  rw [if_pos rfl] at h
  obtain ⟨t, ht, h⟩ := Option.bind_eq_some_iff.mp h
  have tc := fun W => impl_isTarget.calls c2 t W ht
  cases t with
  | false =>
   obtain ⟨rfl, rfl⟩ := Prod.mk.inj (Option.some.inj h)
   clear h
   go_enter Tryz.func31, Tryz.ntmps31
   go_wp2_with (first | (go_at_call 92; refine (cutc _).mono ?_; rintro e w0 ⟨rfl, nd, rfl⟩; have hb0' := pw_below_drewN (Below.refl w.heap.size w) nd) | (go_at_call 88; refine (nc _ hb0').mono ?_; rintro e w1 ⟨rfl, hb⟩; have hb1 := below_then hb0' hb0'.size hb) | (go_at_call 90; refine (tc _).mono ?_; rintro e w2 ⟨rfl, hbt⟩; have hb2 := below_then hb1 hb1.size hbt))
   go_ret2
   exact ⟨rfl, hb2⟩
  | true =>
   rw [if_pos rfl] at h
   obtain ⟨g, hg, h⟩ := Option.bind_eq_some_iff.mp h
   obtain ⟨lb, hlb, h⟩ := Option.bind_eq_some_iff.mp h
   have gc := fun W => impl_big.calls k b1 2 g W hg
   have lc := fun W => impl_labelBytes.calls k c2 lb W hlb
   by_cases hs : g.size + lb.size ≤ 9223372036854775807
   · rw [if_pos hs] at h
     by_cases hs2 : g.size + lb.size + 1 ≤ 9223372036854775807
     · rw [if_pos hs2] at h
       obtain ⟨rfl, rfl⟩ := Prod.mk.inj (Option.some.inj h)
       have hsa := eq_true hs
       have hsc : (9223372036854775807 < g.size + lb.size) = False := eq_false (by omega)
       have hsa2 := eq_true hs2
       have hsc2 : (9223372036854775807 < g.size + lb.size + 1) = False := eq_false (by omega)
       clear h
       go_enter Tryz.func31, Tryz.ntmps31
       go_wp2_with (first | (go_at_call 92; refine (cutc _).mono ?_; rintro e w0 ⟨rfl, nd, rfl⟩; have hb0' := pw_below_drewN (Below.refl w.heap.size w) nd) | (go_at_call 88; refine (nc _ hb0').mono ?_; rintro e w1 ⟨rfl, hb⟩; have hb1 := below_then hb0' hb0'.size hb) | (go_at_call 90; refine (tc _).mono ?_; rintro e w2 ⟨rfl, hbt⟩; have hb2 := below_then hb1 hb1.size hbt) | (go_at_call 89; refine (gc _).mono ?_; rintro e w3 ⟨rfl, hbg⟩; have hb3 := below_then hb2 hb2.size hbg) | (go_at_call 91; refine (lc _).mono ?_; rintro e w4 ⟨rfl, hbl⟩; have hb4 := below_then hb3 hb3.size hbl))
       go_ret2
       exact ⟨rfl, hb4⟩
     · rw [if_neg hs2] at h; cases h
   · rw [if_neg hs] at h; cases h
set_option maxHeartbeats 4000000 in
theorem data_other (kind : Int) (h1 : kind ≠ 1) (h2 : kind ≠ 2) (h5 : kind ≠ 5) (h6 : kind ≠ 6) (h15 : kind ≠ 15) (h16 : kind ≠ 16) (a1 : ByteArray) (w : World) :
 Calls Tryz.prog 31 #[.int .i64 kind, .string a1] w fun e w' => e = .returned (.tuple #[.string (⟨#[]⟩ : ByteArray), .bool false]) ∧ Below w.heap.size w w' := by
 have g1 : (kind == 1) = false := beq_eq_false_iff_ne.mpr h1
 have g2 : (kind == 2) = false := beq_eq_false_iff_ne.mpr h2
 have g5 : (kind == 5) = false := beq_eq_false_iff_ne.mpr h5
 have g6 : (kind == 6) = false := beq_eq_false_iff_ne.mpr h6
 have g15 : (kind == 15) = false := beq_eq_false_iff_ne.mpr h15
 have g16 : (kind == 16) = false := beq_eq_false_iff_ne.mpr h16
 clear h1 h2 h5 h6 h15 h16
 go_enter Tryz.func31, Tryz.ntmps31
 go_wp2
 go_ret2
 exact ⟨rfl, Below.refl _ _⟩
theorem data_pred (xs : List Int) (W : World) : PredB 94 #[] (.int .u8) (fun c => decide (c < 32) || decide (c > 126)) xs W := by
 intro x hx W' hW
 have e : impl_DataBytes_1.f x = some (decide (x < 32) || decide (x > 126)) := by
  unfold impl_DataBytes_1.f
  by_cases h : x < 32
  · rw [if_pos h, decide_eq_true h]; rfl
  · rw [if_neg h, decide_eq_false h]; rfl
 refine (impl_DataBytes_1.calls x _ W' e).mono ?_
 rintro e w' ⟨he, nd, rfl⟩
 exact ⟨he, pw_below_drewN (Below.refl _ _) nd⟩
theorem bytes_len (s : ByteArray) : (bytesOf s).length = s.size := by
 unfold bytesOf
 simp only [List.length_map]
 exact (size_len s).symm
set_option maxRecDepth 100000 in
set_option maxHeartbeats 4000000 in
theorem data_txt (k : Nat) (a1 : ByteArray) (r1 : ByteArray) (r2 : Bool) (w : World) (h : dataTxt k a1 = some (r1, r2)) :
 Calls Tryz.prog 31 #[.int .i64 16, .string a1] w fun e w' => e = .returned (.tuple #[.string r1, .bool r2]) ∧ Below w.heap.size w w' := by
 unfold dataTxt at h
 by_cases h30 : (a1.size : Int) > 30
 · rw [if_pos h30] at h
   obtain ⟨rfl, rfl⟩ := Prod.mk.inj (Option.some.inj h)
   have e1 : decide (30 < a1.size) = true := decide_eq_true (by omega)
   have e2 : decide ((30 : Int) < (a1.size : Int)) = true := decide_eq_true (by omega)
   clear h
   go_enter Tryz.func31, Tryz.ntmps31
   go_wp2
   go_ret2
   exact ⟨rfl, Below.refl _ _⟩
 · rw [if_neg h30] at h
   have e1 : decide (30 < a1.size) = false := decide_eq_false (by omega)
   have e2 : decide ((30 : Int) < (a1.size : Int)) = false := decide_eq_false (by omega)
   have eg : ∀ args w, (callFunc 94 args).run Tryz.prog w = .ok (.enter 94 args) w := enters_of Tryz.func94 (by kernel_rfl) rfl
   have cc0 := fun W c => contains_byte (some ⟨W.heap.size, 0, none⟩) c (bytesOf a1) 94 #[] (fun c => decide (c < 32) || decide (c > 126)) (Lib.bytesWorld W 5 a1) (by
    have hr := bytes_reads W 5 a1 (by omega)
    have := Kd.C_of_reads (d := (0 : Int)) (h1 := fun _ => rfl) hr
    rw [show (bytesOf a1).length = a1.size by rw [bytes_len]]
    exact this) eg (data_pred _ _)
   have hlen : (bytesOf a1).length = a1.size := by rw [bytes_len]
   rw [hlen] at cc0
   generalize hany : (bytesOf a1).any (fun c => decide (c < 32) || decide (c > 126)) = b at h cc0
   have e30 : (30 < a1.size) = False := eq_false (by omega)
   have kb := fun W => print_bytes (P := Tryz.prog) 9 43 5 Tryz.underlying9 Tryz.underlying43 Tryz.underlying5 a1 W
   cases b with
   | true =>
    rw [if_pos rfl] at h
    obtain ⟨rfl, rfl⟩ := Prod.mk.inj (Option.some.inj h)
    clear h h30 hlen hany
    go_enter Tryz.func31, Tryz.ntmps31
    go_wp2_with (go_at_call 93; refine (cc0 _ _).mono ?_; rintro e w1 ⟨rfl, hb⟩; have hb1 := below_then (Lib.bytesWorld_below w 5 a1) (Lib.bytesWorld_below w 5 a1).size hb)
    go_ret2
    exact ⟨rfl, hb1⟩
   | false =>
    rw [if_neg (by simp)] at h
    obtain ⟨g, hg, h⟩ := Option.bind_eq_some_iff.mp h
    have gc := fun W => impl_big.calls k (a1.size : Int) 1 g W hg
    by_cases hs : g.size + a1.size ≤ 9223372036854775807
    · rw [if_pos hs] at h
      obtain ⟨rfl, rfl⟩ := Prod.mk.inj (Option.some.inj h)
      have hsa := eq_true hs
      have hsc : (9223372036854775807 < g.size + a1.size) = False := eq_false (by omega)
      clear h h30 hlen hany
      go_enter Tryz.func31, Tryz.ntmps31
      go_wp2_with (first | (go_at_call 93; refine (cc0 _ _).mono ?_; rintro e w1 ⟨rfl, hb⟩; have hb1 := below_then (Lib.bytesWorld_below w 5 a1) (Lib.bytesWorld_below w 5 a1).size hb) | (go_at_call 89; refine (gc _).mono ?_; rintro e w2 ⟨rfl, hbg⟩; have hb2 := below_then hb1 hb1.size hbg))
      go_ret2
      exact ⟨rfl, hb2⟩
    · rw [if_neg hs] at h; cases h
set_option maxRecDepth 100000 in
set_option maxHeartbeats 4000000 in
theorem data_a (k : Nat) (a1 : ByteArray) (parts : List ByteArray) (r1 : ByteArray) (r2 : Bool) (w : World) (hp : strings_Split.f a1 (⟨#[46]⟩ : ByteArray) = some parts) (h : impl_DataBytes.l0 k parts (⟨#[]⟩ : ByteArray) 0 = some (r1, r2)) (hv : Vars w) :
 Calls Tryz.prog 31 #[.int .i64 1, .string a1] w fun e w' => e = .returned (.tuple #[.string r1, .bool r2]) ∧ Below w.heap.size w w' := by
 have sc := fun W => strings_Split.calls a1 (⟨#[46]⟩ : ByteArray) parts W hp
 have HV := Aside0.mk hv
 have H' := Aside0.mk h
 clear h hv hp
 go_enter Tryz.func31, Tryz.ntmps31
 go_wp2_with (go_at_call 87; refine (sc _).mono ?_; rintro e w1 ⟨v, rfl, hR, hbw⟩; have HO := Aside0.mk hR; have HB1 := Aside0.mk hbw; clear hR hbw; obtain ⟨A, c, rfl⟩ := Kd.R_slice HO.out)
 go_loopg [6, 26] k (fun kq v6 v26 wr => ∃ (out : ByteArray) (x : Int), v6 = .string out ∧ v26 = .int .i64 x ∧ Aside0 (impl_DataBytes.l0 kq parts out x = some (r1, r2)) ∧ Aside0 (kq ≤ k) ∧ Aside0 (Kd.C Kd.string wr A parts.length parts) ∧ Aside0 (Below w.heap.size w wr))
 case atStart => exact ⟨(⟨#[]⟩ : ByteArray), 0, rfl, rfl, H', ⟨Nat.le_refl _⟩, ⟨(Kd.R_reads' HO.out).2.2⟩, HB1⟩
 case round =>
  obtain ⟨out, x, rfl, rfl, HA, HK1, HC, BW⟩ := hrel
  cases gk with
  | zero => exact absurd HA.out (by simp [impl_DataBytes.l0])
  | succ k1 =>
   have H := HA.out
   clear HA H'
   simp only [impl_DataBytes.l0] at H
   by_cases c1 : x < (parts.length : Int)
   · rw [if_pos c1] at H
     by_cases c2 : 0 ≤ x
     · rw [if_pos c2] at H
       obtain ⟨⟨b1, b2⟩, hb0, H⟩ := Option.bind_eq_some_iff.mp H
       replace H : (if b2 = true then (if (parts.length : Int) = 4 then ((impl_big.f k1 b1 1).bind fun t => (if out.size + t.size ≤ 9223372036854775807 then impl_DataBytes.l0 k1 parts (out ++ t) (wrap64 (x + 1)) else none)) else some badD) else some badD) = some (r1, r2) := H
       have nc := fun W (hbW : Below w.heap.size w W) => impl_numberIn.calls (rdOf ByteArray.empty parts x) 255 b1 b2 W hb0 (Vars.below HV.out hbW)
       have c1b : decide (x < (parts.length : Int)) = true := decide_eq_true c1
       obtain ⟨ad, e0, hx⟩ := Kd.at_string HC.out x c2 c1
       cases e0
       have c1z := eq_true c1
       have c2z := eq_true c2
       generalize rdOf ByteArray.empty parts x = pv at hb0 nc hx
       clear hb0
       have hbw := BW.out
       cases b2 with
       | false =>
        obtain ⟨rfl, rfl⟩ := Prod.mk.inj (Option.some.inj H)
        clear H
        go_wp2_with (go_at_call 88; refine (nc _ hbw).mono ?_; rintro e w2 ⟨rfl, hb2⟩)
        go_ret2
        exact ⟨rfl, below_then BW.out BW.out.size hb2⟩
       | true =>
        rw [if_pos rfl] at H
        by_cases c4 : (parts.length : Int) = 4
        · rw [if_pos c4] at H
          obtain ⟨g, hg, H⟩ := Option.bind_eq_some_iff.mp H
          have gc := fun W => impl_big.calls k1 b1 1 g W hg
          have c4a : ((parts.length : Int) == 4) = true := by rw [c4]; rfl
          have c4b : (parts.length == 4) = true := by rw [show parts.length = 4 by omega]; rfl
          have c4c : ((parts.length : Int) != 4) = false := by rw [c4]; rfl
          by_cases hs : out.size + g.size ≤ 9223372036854775807
          · rw [if_pos hs] at H
            have hsa := eq_true hs
            have hsc : (9223372036854775807 < out.size + g.size) = False := eq_false (by omega)
            have HN := Aside0.mk H
            clear H hg c4 hs
            go_wp2_with (first | (go_at_call 88; refine (nc _ hbw).mono ?_; rintro e w2 ⟨rfl, hb2⟩) | (go_at_call 89; refine (gc _).mono ?_; rintro e w3 ⟨rfl, hb3⟩; have hb4 := below_then hb2 hb2.size hb3))
            go_roundg k1
            case measure => have := HK1.out; omega
            case rel => exact ⟨out ++ g, wrap64 (x + 1), rfl, rfl, HN, ⟨by have := HK1.out; omega⟩, ⟨Kd.C_below HC.out hb4⟩, ⟨below_then BW.out BW.out.size hb4⟩⟩
          · rw [if_neg hs] at H; cases H
        · rw [if_neg c4] at H
          obtain ⟨rfl, rfl⟩ := Prod.mk.inj (Option.some.inj H)
          have c4a : ((parts.length : Int) == 4) = false := beq_eq_false_iff_ne.mpr c4
          have c4b : (parts.length == 4) = false := beq_eq_false_iff_ne.mpr (by omega)
          have c4c : ((parts.length : Int) != 4) = true := by rw [bne, c4a]; rfl
          clear H c4
          go_wp2_with (go_at_call 88; refine (nc _ hbw).mono ?_; rintro e w2 ⟨rfl, hb2⟩)
          go_ret2
          exact ⟨rfl, below_then BW.out BW.out.size hb2⟩
     · rw [if_neg c2] at H; cases H
   · rw [if_neg c1] at H
     have c1b : decide (x < (parts.length : Int)) = false := decide_eq_false c1
     obtain ⟨rfl, rfl⟩ := Prod.mk.inj (Option.some.inj H)
     clear H
     go_wp2
     go_ret2
     exact ⟨rfl, BW.out⟩
theorem impl_DataBytes.calls (k : Nat) (a0 : Int) (a1 : ByteArray) (r1 : ByteArray) (r2 : Bool) (w : World) (h : impl_DataBytes.f k a0 a1 = some (r1, r2))
 (hv : Vars w := by first | assumption | (refine Vars.below (Aside0.out (by assumption)) ?_; repeat (first | (with_reducible first | exact Below.refl _ _ | exact Aside0.out (by assumption) | apply below_alloc | apply pw_below_drewN | apply below_drew1) | exact Aside0.out (by assumption)))) :
 Calls Tryz.prog 31 #[.int .i64 a0, .string a1] w fun e w' => e = .returned (.tuple #[.string r1, .bool r2]) ∧ Below w.heap.size w w' := by
 unfold impl_DataBytes.f at h
 by_cases c1 : a0 = 1
 · rw [if_pos c1] at h
   subst c1
   obtain ⟨parts, hp, h⟩ := Option.bind_eq_some_iff.mp h
   exact data_a k a1 parts r1 r2 w hp h hv
 · rw [if_neg c1] at h
   by_cases c2 : a0 = 2 ∨ a0 = 5
   · rw [if_pos c2] at h
     exact data_ns k a0 c2 a1 r1 r2 w h hv
   · rw [if_neg c2] at h
     by_cases c6 : a0 = 6
     · rw [if_pos c6] at h
       subst c6
       exact data_soa k a1 r1 r2 w h hv
     · rw [if_neg c6] at h
       by_cases c15 : a0 = 15
       · rw [if_pos c15] at h
         subst c15
         exact data_mx k a1 r1 r2 w h hv
       · rw [if_neg c15] at h
         by_cases c16 : a0 = 16
         · rw [if_pos c16] at h
           subst c16
           exact data_txt k a1 r1 r2 w h
         · rw [if_neg c16] at h
           obtain ⟨rfl, rfl⟩ := Prod.mk.inj (Option.some.inj h)
           exact data_other a0 c1 (fun e => c2 (.inl e)) (fun e => c2 (.inr e)) c6 c15 c16 a1 w
end Go.Proofs.YtiegkjimpclmaaaGreatDoor.P
