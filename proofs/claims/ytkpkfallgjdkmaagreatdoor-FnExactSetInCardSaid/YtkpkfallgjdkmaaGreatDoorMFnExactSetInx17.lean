/- FnExactSetIn: part 18 of 31 of my texts for this claim, joined; the theorem stands in the last. Conditions: none beyond the statement's. -/
import Derived.Test.YtkpkfallgjdkmaaGreatDoorMFnExactSetInx3
import Derived.Test.YtkpkfallgjdkmaaGreatDoorMFnExactSetInx15
import Derived.Test.YtkpkfallgjdkmaaGreatDoorMFnExactSetInx14
import Derived.Test.YtkpkfallgjdkmaaGreatDoorMFnExactSetInx4
import Derived.Test.YtkpkfallgjdkmaaGreatDoorMFnExactSetInx16
import Derived.Test.YtkpkfallgjdkmaaGreatDoorMFnExactSetInx13
import Derived.Test.YtkpkfallgjdkmaaGreatDoorMFnExactSetInx9
import Derived.Lib.AtoiTie
import Derived.Lib.ItoaMem
import Derived.Test.YtkpkfallgjdkmaaGreatDoorMFnExactSetInx8
import Derived.Test.YtkpkfallgjdkmaaGreatDoorMFnExactSetInx6
namespace Go.Proofs.YtkpkfallgjdkmaaGreatDoor.P
open Go.RowKit Go.Proofs.YtkpkfallgjdkmaaGreatDoorW.PrintWords Go.Proofs.YtkpkfallgjdkmaaGreatDoorW.PrintLast Go.Proofs.YtkpkfallgjdkmaaGreatDoorW.PrintMore
attribute [local go_sem] max2_int min2_int max_two min_two max_three min_three max_four min_four
set_option linter.unusedVariables false
set_option linter.unusedSimpArgs false
attribute [local go_sem] gtr_less
def spec_l3Compare.f (k : Nat) (a0_0 : ByteArray) (a0_1 : Int) (a0_2 : Int) (a0_3 : ByteArray) (a1_0 : ByteArray) (a1_1 : Int) (a1_2 : Int) (a1_3 : ByteArray) : Option (Int) := (spec_l1Compare.f k a0_0 a1_0).bind fun t677 => (if t677 = 0 then ((spec_l3Bytes.f k a0_1 a0_3).bind fun bt678 => ((spec_l3Bytes.f k a1_1 a1_3).bind fun bt680 => (if a0_1 = a1_1 then (if bt678.1.toList = bt680.1.toList then (if a0_2 = a1_2 then (some 0) else ((spec_l3Less.f (decide (a0_2 < a1_2))).bind fun t682 => (some t682))) else ((spec_l3Less.f (Op.bytesLess bt678.1.toList bt680.1.toList)).bind fun t683 => (some t683))) else ((spec_l3Less.f (decide (a0_1 < a1_1))).bind fun t684 => (some t684))))) else (some t677))
set_option maxHeartbeats 8000000 in
set_option maxRecDepth 100000 in
theorem spec_l3Compare.calls (k : Nat) (a0_0 : ByteArray) (a0_1 : Int) (a0_2 : Int) (a0_3 : ByteArray) (a1_0 : ByteArray) (a1_1 : Int) (a1_2 : Int) (a1_3 : ByteArray) (r : Int) (w : World) (h : spec_l3Compare.f k a0_0 a0_1 a0_2 a0_3 a1_0 a1_1 a1_2 a1_3 = some r) :
 Calls Tryz.prog 83 #[.agg #[.string a0_0, .int .i64 a0_1, .int .i64 a0_2, .string a0_3], .agg #[.string a1_0, .int .i64 a1_1, .int .i64 a1_2, .string a1_3]] w fun e w' => e = .returned (.int .i64 r) ∧ Below w.heap.size w w' := by
 have hu72 := Tryz.underlying72
 have HB := a0_ (Below.refl w.heap.size w)
 have H : ((spec_l1Compare.f k a0_0 a1_0).bind fun t677 => (if t677 = 0 then ((spec_l3Bytes.f k a0_1 a0_3).bind fun bt678 => ((spec_l3Bytes.f k a1_1 a1_3).bind fun bt680 => (if a0_1 = a1_1 then (if bt678.1.toList = bt680.1.toList then (if a0_2 = a1_2 then (some 0) else ((spec_l3Less.f (decide (a0_2 < a1_2))).bind fun t682 => (some t682))) else ((spec_l3Less.f (Op.bytesLess bt678.1.toList bt680.1.toList)).bind fun t683 => (some t683))) else ((spec_l3Less.f (decide (a0_1 < a1_1))).bind fun t684 => (some t684))))) else (some t677))) = some r := h
 clear h
 obtain ⟨t677, A30, H⟩ := Option.bind_eq_some_iff.mp H
 have A3 := a0_ A30
 clear A30
 by_cases c4 : t677 = 0
 case neg =>
  rw [if_neg c4] at H
  have c4b0 := beq_eq_false_iff_ne.mpr c4
  have c4b1 := bne_iff_ne.mpr c4
  obtain rfl := Option.some.inj H
  go_enter Tryz.func83, Tryz.ntmps83
  go_wp2_with (first | ((with_reducible refine gate_dst (N := 2) rfl ?_); refine boxS_ 2 #[.string a0_0, .int .i64 a0_1, .int .i64 a0_2, .string a0_3] 72 (fun gb675 hg w61 hbox hb => ?_); have n0_ := a0_ (below_step bq0_ hb); have n1_ := a0_ (hbox); have n2_ := a0_ (gw_ hg : w.heap.size ≤ gb675); have n3_ := n2_; clear HB; have HB := n0_; have BK675 := n1_; have GW675 := n2_; have GE675 := n3_; clear n0_ n1_ n2_ n3_; clear hb hbox hg) | ((with_reducible refine gate_dst (N := 3) rfl ?_); refine boxS_ 3 #[.string a1_0, .int .i64 a1_1, .int .i64 a1_2, .string a1_3] 72 (fun gb676 hg w62 hbox hb => ?_); have n0_ := a0_ (bkB_ BK675 hb); have n1_ := a0_ (below_step bq1_ hb); have n2_ := a0_ (hbox); have n3_ := a0_ (gw_ hg (below_size bq1_) : w.heap.size ≤ gb676); have n4_ := n3_; have n5_ := a0_ ((by rw [hg]; exact Nat.ne_of_lt (blk_lt (g := gb675) (o := .cells #[.string a0_0, .int .i64 a0_1, .int .i64 a0_2, .string a0_3] 72 (0, 0)) (kB_ BK675.out)) : gb675 ≠ gb676)); have n6_ := a0_ ((by rw [hg]; exact Nat.ne_of_gt (blk_lt (g := gb675) (o := .cells #[.string a0_0, .int .i64 a0_1, .int .i64 a0_2, .string a0_3] 72 (0, 0)) (kB_ BK675.out)) : gb676 ≠ gb675)); clear BK675; clear HB; have BK675 := n0_; have HB := n1_; have BK676 := n2_; have GW676 := n3_; have GE676 := n4_; have NB675_676 := n5_; have NB676_675 := n6_; clear n0_ n1_ n2_ n3_ n4_ n5_ n6_; clear hb hbox hg; have hnb63 := NB675_676.out; have hnc63 := NB676_675.out; obtain ⟨z64_0, z64_1, z64_2, z64_3, q64_0, q64_1, q64_2, q64_3⟩ := bk4_ BK675.out; obtain ⟨z65_0, z65_1, z65_2, z65_3, q65_0, q65_1, q65_2, q65_3⟩ := bk4_ BK676.out) | ((with_reducible refine gate_callee (f := 110) rfl ?_); refine goesL_ (some 14) rfl rfl Tryz.func110 (by kernel_rfl) rfl #[.string a0_0, .string a1_0] rfl argsS_ ?_; (with_reducible refine (spec_l1Compare.calls k a0_0 a1_0 t677 _ A3.out).mono ?_); rintro e w66 ⟨rfl, hb⟩; refine ⟨_, rfl, ?_⟩; replace BK675 := a0_ (bkB_ BK675 hb); replace BK676 := a0_ (bkB_ BK676 hb); replace HB := a0_ (below_step bq1_ hb); (try clear hb); (try clear hb2); (try clear hk); (try clear hi)))
  go_ret
  exact ⟨rr_, bq1_⟩
 rw [if_pos c4] at H
 have c4b0 := beq_iff_eq.mpr c4
 have c4b1 := bne_eq_false_iff_eq.mpr c4
 clear c4
 obtain ⟨⟨t678, t679⟩, A50, H⟩ := Option.bind_eq_some_iff.mp H
 have A5 := a0_ A50
 clear A50
 obtain ⟨⟨t680, t681⟩, A60, H⟩ := Option.bind_eq_some_iff.mp H
 have A6 := a0_ A60
 clear A60
 by_cases c7 : a0_1 = a1_1
 case neg =>
  rw [if_neg c7] at H
  have c7b0 := beq_eq_false_iff_ne.mpr c7
  have c7b1 := bne_iff_ne.mpr c7
  obtain ⟨t684, A480, H⟩ := Option.bind_eq_some_iff.mp H
  have A48 := a0_ A480
  clear A480
  obtain rfl := Option.some.inj H
  go_enter Tryz.func83, Tryz.ntmps83
  go_wp2_with (first | ((with_reducible refine gate_dst (N := 2) rfl ?_); refine boxS_ 2 #[.string a0_0, .int .i64 a0_1, .int .i64 a0_2, .string a0_3] 72 (fun gb675 hg w49 hbox hb => ?_); have n0_ := a0_ (below_step bq0_ hb); have n1_ := a0_ (hbox); have n2_ := a0_ (gw_ hg : w.heap.size ≤ gb675); have n3_ := n2_; clear HB; have HB := n0_; have BK675 := n1_; have GW675 := n2_; have GE675 := n3_; clear n0_ n1_ n2_ n3_; clear hb hbox hg) | ((with_reducible refine gate_dst (N := 3) rfl ?_); refine boxS_ 3 #[.string a1_0, .int .i64 a1_1, .int .i64 a1_2, .string a1_3] 72 (fun gb676 hg w50 hbox hb => ?_); have n0_ := a0_ (bkB_ BK675 hb); have n1_ := a0_ (below_step bq1_ hb); have n2_ := a0_ (hbox); have n3_ := a0_ (gw_ hg (below_size bq1_) : w.heap.size ≤ gb676); have n4_ := n3_; have n5_ := a0_ ((by rw [hg]; exact Nat.ne_of_lt (blk_lt (g := gb675) (o := .cells #[.string a0_0, .int .i64 a0_1, .int .i64 a0_2, .string a0_3] 72 (0, 0)) (kB_ BK675.out)) : gb675 ≠ gb676)); have n6_ := a0_ ((by rw [hg]; exact Nat.ne_of_gt (blk_lt (g := gb675) (o := .cells #[.string a0_0, .int .i64 a0_1, .int .i64 a0_2, .string a0_3] 72 (0, 0)) (kB_ BK675.out)) : gb676 ≠ gb675)); clear BK675; clear HB; have BK675 := n0_; have HB := n1_; have BK676 := n2_; have GW676 := n3_; have GE676 := n4_; have NB675_676 := n5_; have NB676_675 := n6_; clear n0_ n1_ n2_ n3_ n4_ n5_ n6_; clear hb hbox hg; have hnb51 := NB675_676.out; have hnc51 := NB676_675.out; obtain ⟨z52_0, z52_1, z52_2, z52_3, q52_0, q52_1, q52_2, q52_3⟩ := bk4_ BK675.out; obtain ⟨z53_0, z53_1, z53_2, z53_3, q53_0, q53_1, q53_2, q53_3⟩ := bk4_ BK676.out) | ((with_reducible refine gate_callee (f := 110) rfl ?_); refine goesL_ (some 14) rfl rfl Tryz.func110 (by kernel_rfl) rfl #[.string a0_0, .string a1_0] rfl argsS_ ?_; (with_reducible refine (spec_l1Compare.calls k a0_0 a1_0 t677 _ A3.out).mono ?_); rintro e w54 ⟨rfl, hb⟩; refine ⟨_, rfl, ?_⟩; replace BK675 := a0_ (bkB_ BK675 hb); replace BK676 := a0_ (bkB_ BK676 hb); replace HB := a0_ (below_step bq1_ hb); (try clear hb); (try clear hb2); (try clear hk); (try clear hi); obtain ⟨z55_0, z55_1, z55_2, z55_3, q55_0, q55_1, q55_2, q55_3⟩ := bk4_ BK675.out) | ((with_reducible refine gate_callee (f := 109) rfl ?_); refine goesL_ (some 23) rfl rfl Tryz.func109 (by kernel_rfl) rfl #[.int .i64 a0_1, .string a0_3] rfl argsS_ ?_; (with_reducible refine (spec_l3Bytes.calls k a0_1 a0_3 t678 t679 _ A5.out).mono ?_); rintro e w56 ⟨rfl, hb⟩; refine ⟨_, rfl, ?_⟩; replace BK675 := a0_ (bkB_ BK675 hb); replace BK676 := a0_ (bkB_ BK676 hb); replace HB := a0_ (below_step bq1_ hb); (try clear hb); (try clear hb2); (try clear hk); (try clear hi); obtain ⟨z57_0, z57_1, z57_2, z57_3, q57_0, q57_1, q57_2, q57_3⟩ := bk4_ BK676.out) | ((with_reducible refine gate_callee (f := 109) rfl ?_); refine goesL_ (some 31) rfl rfl Tryz.func109 (by kernel_rfl) rfl #[.int .i64 a1_1, .string a1_3] rfl argsS_ ?_; (with_reducible refine (spec_l3Bytes.calls k a1_1 a1_3 t680 t681 _ A6.out).mono ?_); rintro e w58 ⟨rfl, hb⟩; refine ⟨_, rfl, ?_⟩; replace BK675 := a0_ (bkB_ BK675 hb); replace BK676 := a0_ (bkB_ BK676 hb); replace HB := a0_ (below_step bq1_ hb); (try clear hb); (try clear hb2); (try clear hk); (try clear hi); obtain ⟨z59_0, z59_1, z59_2, z59_3, q59_0, q59_1, q59_2, q59_3⟩ := bk4_ BK675.out; obtain ⟨z60_0, z60_1, z60_2, z60_3, q60_0, q60_1, q60_2, q60_3⟩ := bk4_ BK676.out) | ((with_reducible refine gate_callee (f := 111) rfl ?_); refine goesL_ (some 45) rfl rfl Tryz.func111 (by kernel_rfl) rfl #[.bool (decide (a0_1 < a1_1))] rfl argsS_ ?_; (with_reducible refine (spec_l3Less.calls (decide (a0_1 < a1_1)) t684 _ A48.out).mono ?_); rintro e w' ⟨rfl, ⟨nd, rfl⟩⟩; refine ⟨_, rfl, ?_⟩))
  go_ret
  exact ⟨rr_, bq1_⟩
 rw [if_pos c7] at H
 have c7b0 := beq_iff_eq.mpr c7
 have c7b1 := bne_eq_false_iff_eq.mpr c7
 clear c7
 by_cases c8 : t678.toList = t680.toList
 case neg =>
  rw [if_neg c8] at H
  have c8b0 := beq_eq_false_iff_ne.mpr c8
  have c8b1 := bne_iff_ne.mpr c8
  obtain ⟨t683, A350, H⟩ := Option.bind_eq_some_iff.mp H
  have A35 := a0_ A350
  clear A350
  obtain rfl := Option.some.inj H
  go_enter Tryz.func83, Tryz.ntmps83
  go_wp2_with (first | ((with_reducible refine gate_dst (N := 2) rfl ?_); refine boxS_ 2 #[.string a0_0, .int .i64 a0_1, .int .i64 a0_2, .string a0_3] 72 (fun gb675 hg w36 hbox hb => ?_); have n0_ := a0_ (below_step bq0_ hb); have n1_ := a0_ (hbox); have n2_ := a0_ (gw_ hg : w.heap.size ≤ gb675); have n3_ := n2_; clear HB; have HB := n0_; have BK675 := n1_; have GW675 := n2_; have GE675 := n3_; clear n0_ n1_ n2_ n3_; clear hb hbox hg) | ((with_reducible refine gate_dst (N := 3) rfl ?_); refine boxS_ 3 #[.string a1_0, .int .i64 a1_1, .int .i64 a1_2, .string a1_3] 72 (fun gb676 hg w37 hbox hb => ?_); have n0_ := a0_ (bkB_ BK675 hb); have n1_ := a0_ (below_step bq1_ hb); have n2_ := a0_ (hbox); have n3_ := a0_ (gw_ hg (below_size bq1_) : w.heap.size ≤ gb676); have n4_ := n3_; have n5_ := a0_ ((by rw [hg]; exact Nat.ne_of_lt (blk_lt (g := gb675) (o := .cells #[.string a0_0, .int .i64 a0_1, .int .i64 a0_2, .string a0_3] 72 (0, 0)) (kB_ BK675.out)) : gb675 ≠ gb676)); have n6_ := a0_ ((by rw [hg]; exact Nat.ne_of_gt (blk_lt (g := gb675) (o := .cells #[.string a0_0, .int .i64 a0_1, .int .i64 a0_2, .string a0_3] 72 (0, 0)) (kB_ BK675.out)) : gb676 ≠ gb675)); clear BK675; clear HB; have BK675 := n0_; have HB := n1_; have BK676 := n2_; have GW676 := n3_; have GE676 := n4_; have NB675_676 := n5_; have NB676_675 := n6_; clear n0_ n1_ n2_ n3_ n4_ n5_ n6_; clear hb hbox hg; have hnb38 := NB675_676.out; have hnc38 := NB676_675.out; obtain ⟨z39_0, z39_1, z39_2, z39_3, q39_0, q39_1, q39_2, q39_3⟩ := bk4_ BK675.out; obtain ⟨z40_0, z40_1, z40_2, z40_3, q40_0, q40_1, q40_2, q40_3⟩ := bk4_ BK676.out) | ((with_reducible refine gate_callee (f := 110) rfl ?_); refine goesL_ (some 14) rfl rfl Tryz.func110 (by kernel_rfl) rfl #[.string a0_0, .string a1_0] rfl argsS_ ?_; (with_reducible refine (spec_l1Compare.calls k a0_0 a1_0 t677 _ A3.out).mono ?_); rintro e w41 ⟨rfl, hb⟩; refine ⟨_, rfl, ?_⟩; replace BK675 := a0_ (bkB_ BK675 hb); replace BK676 := a0_ (bkB_ BK676 hb); replace HB := a0_ (below_step bq1_ hb); (try clear hb); (try clear hb2); (try clear hk); (try clear hi); obtain ⟨z42_0, z42_1, z42_2, z42_3, q42_0, q42_1, q42_2, q42_3⟩ := bk4_ BK675.out) | ((with_reducible refine gate_callee (f := 109) rfl ?_); refine goesL_ (some 23) rfl rfl Tryz.func109 (by kernel_rfl) rfl #[.int .i64 a0_1, .string a0_3] rfl argsS_ ?_; (with_reducible refine (spec_l3Bytes.calls k a0_1 a0_3 t678 t679 _ A5.out).mono ?_); rintro e w43 ⟨rfl, hb⟩; refine ⟨_, rfl, ?_⟩; replace BK675 := a0_ (bkB_ BK675 hb); replace BK676 := a0_ (bkB_ BK676 hb); replace HB := a0_ (below_step bq1_ hb); (try clear hb); (try clear hb2); (try clear hk); (try clear hi); obtain ⟨z44_0, z44_1, z44_2, z44_3, q44_0, q44_1, q44_2, q44_3⟩ := bk4_ BK676.out) | ((with_reducible refine gate_callee (f := 109) rfl ?_); refine goesL_ (some 31) rfl rfl Tryz.func109 (by kernel_rfl) rfl #[.int .i64 a1_1, .string a1_3] rfl argsS_ ?_; (with_reducible refine (spec_l3Bytes.calls k a1_1 a1_3 t680 t681 _ A6.out).mono ?_); rintro e w45 ⟨rfl, hb⟩; refine ⟨_, rfl, ?_⟩; replace BK675 := a0_ (bkB_ BK675 hb); replace BK676 := a0_ (bkB_ BK676 hb); replace HB := a0_ (below_step bq1_ hb); (try clear hb); (try clear hb2); (try clear hk); (try clear hi); obtain ⟨z46_0, z46_1, z46_2, z46_3, q46_0, q46_1, q46_2, q46_3⟩ := bk4_ BK675.out; obtain ⟨z47_0, z47_1, z47_2, z47_3, q47_0, q47_1, q47_2, q47_3⟩ := bk4_ BK676.out) | ((with_reducible refine gate_callee (f := 111) rfl ?_); refine goesL_ (some 53) rfl rfl Tryz.func111 (by kernel_rfl) rfl #[.bool (Op.bytesLess t678.toList t680.toList)] rfl argsS_ ?_; (with_reducible refine (spec_l3Less.calls (Op.bytesLess t678.toList t680.toList) t683 _ A35.out).mono ?_); rintro e w' ⟨rfl, ⟨nd, rfl⟩⟩; refine ⟨_, rfl, ?_⟩))
  go_ret
  exact ⟨rr_, bq1_⟩
 rw [if_pos c8] at H
 have c8b0 := beq_iff_eq.mpr c8
 have c8b1 := bne_eq_false_iff_eq.mpr c8
 clear c8
 by_cases c9 : a0_2 = a1_2
 case pos =>
  rw [if_pos c9] at H
  have c9b0 := beq_iff_eq.mpr c9
  have c9b1 := bne_eq_false_iff_eq.mpr c9
  clear c9
  obtain rfl := Option.some.inj H
  go_enter Tryz.func83, Tryz.ntmps83
  go_wp2_with (first | ((with_reducible refine gate_dst (N := 2) rfl ?_); refine boxS_ 2 #[.string a0_0, .int .i64 a0_1, .int .i64 a0_2, .string a0_3] 72 (fun gb675 hg w10 hbox hb => ?_); have n0_ := a0_ (below_step bq0_ hb); have n1_ := a0_ (hbox); have n2_ := a0_ (gw_ hg : w.heap.size ≤ gb675); have n3_ := n2_; clear HB; have HB := n0_; have BK675 := n1_; have GW675 := n2_; have GE675 := n3_; clear n0_ n1_ n2_ n3_; clear hb hbox hg) | ((with_reducible refine gate_dst (N := 3) rfl ?_); refine boxS_ 3 #[.string a1_0, .int .i64 a1_1, .int .i64 a1_2, .string a1_3] 72 (fun gb676 hg w11 hbox hb => ?_); have n0_ := a0_ (bkB_ BK675 hb); have n1_ := a0_ (below_step bq1_ hb); have n2_ := a0_ (hbox); have n3_ := a0_ (gw_ hg (below_size bq1_) : w.heap.size ≤ gb676); have n4_ := n3_; have n5_ := a0_ ((by rw [hg]; exact Nat.ne_of_lt (blk_lt (g := gb675) (o := .cells #[.string a0_0, .int .i64 a0_1, .int .i64 a0_2, .string a0_3] 72 (0, 0)) (kB_ BK675.out)) : gb675 ≠ gb676)); have n6_ := a0_ ((by rw [hg]; exact Nat.ne_of_gt (blk_lt (g := gb675) (o := .cells #[.string a0_0, .int .i64 a0_1, .int .i64 a0_2, .string a0_3] 72 (0, 0)) (kB_ BK675.out)) : gb676 ≠ gb675)); clear BK675; clear HB; have BK675 := n0_; have HB := n1_; have BK676 := n2_; have GW676 := n3_; have GE676 := n4_; have NB675_676 := n5_; have NB676_675 := n6_; clear n0_ n1_ n2_ n3_ n4_ n5_ n6_; clear hb hbox hg; have hnb12 := NB675_676.out; have hnc12 := NB676_675.out; obtain ⟨z13_0, z13_1, z13_2, z13_3, q13_0, q13_1, q13_2, q13_3⟩ := bk4_ BK675.out; obtain ⟨z14_0, z14_1, z14_2, z14_3, q14_0, q14_1, q14_2, q14_3⟩ := bk4_ BK676.out) | ((with_reducible refine gate_callee (f := 110) rfl ?_); refine goesL_ (some 14) rfl rfl Tryz.func110 (by kernel_rfl) rfl #[.string a0_0, .string a1_0] rfl argsS_ ?_; (with_reducible refine (spec_l1Compare.calls k a0_0 a1_0 t677 _ A3.out).mono ?_); rintro e w15 ⟨rfl, hb⟩; refine ⟨_, rfl, ?_⟩; replace BK675 := a0_ (bkB_ BK675 hb); replace BK676 := a0_ (bkB_ BK676 hb); replace HB := a0_ (below_step bq1_ hb); (try clear hb); (try clear hb2); (try clear hk); (try clear hi); obtain ⟨z16_0, z16_1, z16_2, z16_3, q16_0, q16_1, q16_2, q16_3⟩ := bk4_ BK675.out) | ((with_reducible refine gate_callee (f := 109) rfl ?_); refine goesL_ (some 23) rfl rfl Tryz.func109 (by kernel_rfl) rfl #[.int .i64 a0_1, .string a0_3] rfl argsS_ ?_; (with_reducible refine (spec_l3Bytes.calls k a0_1 a0_3 t678 t679 _ A5.out).mono ?_); rintro e w17 ⟨rfl, hb⟩; refine ⟨_, rfl, ?_⟩; replace BK675 := a0_ (bkB_ BK675 hb); replace BK676 := a0_ (bkB_ BK676 hb); replace HB := a0_ (below_step bq1_ hb); (try clear hb); (try clear hb2); (try clear hk); (try clear hi); obtain ⟨z18_0, z18_1, z18_2, z18_3, q18_0, q18_1, q18_2, q18_3⟩ := bk4_ BK676.out) | ((with_reducible refine gate_callee (f := 109) rfl ?_); refine goesL_ (some 31) rfl rfl Tryz.func109 (by kernel_rfl) rfl #[.int .i64 a1_1, .string a1_3] rfl argsS_ ?_; (with_reducible refine (spec_l3Bytes.calls k a1_1 a1_3 t680 t681 _ A6.out).mono ?_); rintro e w19 ⟨rfl, hb⟩; refine ⟨_, rfl, ?_⟩; replace BK675 := a0_ (bkB_ BK675 hb); replace BK676 := a0_ (bkB_ BK676 hb); replace HB := a0_ (below_step bq1_ hb); (try clear hb); (try clear hb2); (try clear hk); (try clear hi); obtain ⟨z20_0, z20_1, z20_2, z20_3, q20_0, q20_1, q20_2, q20_3⟩ := bk4_ BK675.out; obtain ⟨z21_0, z21_1, z21_2, z21_3, q21_0, q21_1, q21_2, q21_3⟩ := bk4_ BK676.out))
  go_ret
  exact ⟨rr_, bq1_⟩
 rw [if_neg c9] at H
 have c9b0 := beq_eq_false_iff_ne.mpr c9
 have c9b1 := bne_iff_ne.mpr c9
 obtain ⟨t682, A220, H⟩ := Option.bind_eq_some_iff.mp H
 have A22 := a0_ A220
 clear A220
 obtain rfl := Option.some.inj H
 go_enter Tryz.func83, Tryz.ntmps83
 go_wp2_with (first | ((with_reducible refine gate_dst (N := 2) rfl ?_); refine boxS_ 2 #[.string a0_0, .int .i64 a0_1, .int .i64 a0_2, .string a0_3] 72 (fun gb675 hg w23 hbox hb => ?_); have n0_ := a0_ (below_step bq0_ hb); have n1_ := a0_ (hbox); have n2_ := a0_ (gw_ hg : w.heap.size ≤ gb675); have n3_ := n2_; clear HB; have HB := n0_; have BK675 := n1_; have GW675 := n2_; have GE675 := n3_; clear n0_ n1_ n2_ n3_; clear hb hbox hg) | ((with_reducible refine gate_dst (N := 3) rfl ?_); refine boxS_ 3 #[.string a1_0, .int .i64 a1_1, .int .i64 a1_2, .string a1_3] 72 (fun gb676 hg w24 hbox hb => ?_); have n0_ := a0_ (bkB_ BK675 hb); have n1_ := a0_ (below_step bq1_ hb); have n2_ := a0_ (hbox); have n3_ := a0_ (gw_ hg (below_size bq1_) : w.heap.size ≤ gb676); have n4_ := n3_; have n5_ := a0_ ((by rw [hg]; exact Nat.ne_of_lt (blk_lt (g := gb675) (o := .cells #[.string a0_0, .int .i64 a0_1, .int .i64 a0_2, .string a0_3] 72 (0, 0)) (kB_ BK675.out)) : gb675 ≠ gb676)); have n6_ := a0_ ((by rw [hg]; exact Nat.ne_of_gt (blk_lt (g := gb675) (o := .cells #[.string a0_0, .int .i64 a0_1, .int .i64 a0_2, .string a0_3] 72 (0, 0)) (kB_ BK675.out)) : gb676 ≠ gb675)); clear BK675; clear HB; have BK675 := n0_; have HB := n1_; have BK676 := n2_; have GW676 := n3_; have GE676 := n4_; have NB675_676 := n5_; have NB676_675 := n6_; clear n0_ n1_ n2_ n3_ n4_ n5_ n6_; clear hb hbox hg; have hnb25 := NB675_676.out; have hnc25 := NB676_675.out; obtain ⟨z26_0, z26_1, z26_2, z26_3, q26_0, q26_1, q26_2, q26_3⟩ := bk4_ BK675.out; obtain ⟨z27_0, z27_1, z27_2, z27_3, q27_0, q27_1, q27_2, q27_3⟩ := bk4_ BK676.out) | ((with_reducible refine gate_callee (f := 110) rfl ?_); refine goesL_ (some 14) rfl rfl Tryz.func110 (by kernel_rfl) rfl #[.string a0_0, .string a1_0] rfl argsS_ ?_; (with_reducible refine (spec_l1Compare.calls k a0_0 a1_0 t677 _ A3.out).mono ?_); rintro e w28 ⟨rfl, hb⟩; refine ⟨_, rfl, ?_⟩; replace BK675 := a0_ (bkB_ BK675 hb); replace BK676 := a0_ (bkB_ BK676 hb); replace HB := a0_ (below_step bq1_ hb); (try clear hb); (try clear hb2); (try clear hk); (try clear hi); obtain ⟨z29_0, z29_1, z29_2, z29_3, q29_0, q29_1, q29_2, q29_3⟩ := bk4_ BK675.out) | ((with_reducible refine gate_callee (f := 109) rfl ?_); refine goesL_ (some 23) rfl rfl Tryz.func109 (by kernel_rfl) rfl #[.int .i64 a0_1, .string a0_3] rfl argsS_ ?_; (with_reducible refine (spec_l3Bytes.calls k a0_1 a0_3 t678 t679 _ A5.out).mono ?_); rintro e w30 ⟨rfl, hb⟩; refine ⟨_, rfl, ?_⟩; replace BK675 := a0_ (bkB_ BK675 hb); replace BK676 := a0_ (bkB_ BK676 hb); replace HB := a0_ (below_step bq1_ hb); (try clear hb); (try clear hb2); (try clear hk); (try clear hi); obtain ⟨z31_0, z31_1, z31_2, z31_3, q31_0, q31_1, q31_2, q31_3⟩ := bk4_ BK676.out) | ((with_reducible refine gate_callee (f := 109) rfl ?_); refine goesL_ (some 31) rfl rfl Tryz.func109 (by kernel_rfl) rfl #[.int .i64 a1_1, .string a1_3] rfl argsS_ ?_; (with_reducible refine (spec_l3Bytes.calls k a1_1 a1_3 t680 t681 _ A6.out).mono ?_); rintro e w32 ⟨rfl, hb⟩; refine ⟨_, rfl, ?_⟩; replace BK675 := a0_ (bkB_ BK675 hb); replace BK676 := a0_ (bkB_ BK676 hb); replace HB := a0_ (below_step bq1_ hb); (try clear hb); (try clear hb2); (try clear hk); (try clear hi); obtain ⟨z33_0, z33_1, z33_2, z33_3, q33_0, q33_1, q33_2, q33_3⟩ := bk4_ BK675.out; obtain ⟨z34_0, z34_1, z34_2, z34_3, q34_0, q34_1, q34_2, q34_3⟩ := bk4_ BK676.out) | ((with_reducible refine gate_callee (f := 111) rfl ?_); refine goesL_ (some 65) rfl rfl Tryz.func111 (by kernel_rfl) rfl #[.bool (decide (a0_2 < a1_2))] rfl argsS_ ?_; (with_reducible refine (spec_l3Less.calls (decide (a0_2 < a1_2)) t682 _ A22.out).mono ?_); rintro e w' ⟨rfl, ⟨nd, rfl⟩⟩; refine ⟨_, rfl, ?_⟩))
 go_ret
 exact ⟨rr_, bq1_⟩
end Go.Proofs.YtkpkfallgjdkmaaGreatDoor.P
namespace Go.Proofs.YtkpkfallgjdkmaaGreatDoor.Pure
open Go.RowKit Go.Proofs.YtkpkfallgjdkmaaGreatDoor.P Go.Proofs.YtkpkfallgjdkmaaGreatDoorW.PrintWords Go.Proofs.YtkpkfallgjdkmaaGreatDoorW.PrintLast
set_option linter.unusedVariables false
set_option linter.unusedSimpArgs false
theorem specGood_ev (s : ByteArray) (hs : s.size < 549755813888) : Ev (fun k => spec_GoodName.f k s) (goodL s.data.toList) := by
 obtain ⟨r, h1, h2⟩ := good_ev s hs
 refine Ev.congr (f := fun k => (spec_l1Labels.f k s).bind fun bt => some bt.2) (fun k => rfl) (Ev.bind h1 ?_)
 rw [h2]
 exact Ev.now _
theorem good_size {l : List UInt8} (h : goodL l = true) : l.length ≤ 60 := by
 unfold goodL at h
 simp at h
 exact h.1
end Go.Proofs.YtkpkfallgjdkmaaGreatDoor.Pure
namespace Go.Proofs.YtkpkfallgjdkmaaGreatDoor.Pure
open Go.RowKit Go.Proofs.YtkpkfallgjdkmaaGreatDoor.P Go.Proofs.YtkpkfallgjdkmaaGreatDoorW.PrintWords Go.Proofs.YtkpkfallgjdkmaaGreatDoorW.PrintLast Go.Proofs.YtkpkfallgjdkmaaGreatDoorW.PrintMore
set_option linter.unusedVariables false
set_option linter.unusedSimpArgs false
def digB (b : UInt8) : Bool := decide (48 ≤ b.toNat ∧ b.toNat ≤ 57)
def valF (a : Nat) (l : List UInt8) : Nat := l.foldl (fun a b => a * 10 + (b.toNat - 48)) a
def valL (l : List UInt8) : Nat := valF 0 l
/-- A number in Go's own spelling. -/
def canL (l : List UInt8) : Bool := decide (1 ≤ l.length ∧ l.length ≤ 10) && l.all digB && (decide (l.length = 1) || decide (l.head? ≠ some 48))
theorem valF_app (a : Nat) (p q : List UInt8) : valF a (p ++ q) = valF (valF a p) q := by unfold valF; rw [List.foldl_append]
theorem valF_one (a : Nat) (b : UInt8) : valF a [b] = a * 10 + (b.toNat - 48) := rfl
theorem decFrom_val : ∀ (l : List UInt8) (a : Nat), l.all digB = true → Lib.decFrom a l = some (valF a l)
 | [], a, _ => rfl
 | b :: r, a, h => by
  rw [List.all_cons, Bool.and_eq_true] at h
  have hb : 48 ≤ b.toNat ∧ b.toNat ≤ 57 := of_decide_eq_true h.1
  unfold Lib.decFrom Lib.digitVal
  rw [if_pos hb]
  exact decFrom_val r _ h.2
theorem valF_lt : ∀ (l : List UInt8) (a : Nat), l.all digB = true → valF a l < (a + 1) * 10 ^ l.length
 | [], a, _ => by show a < (a + 1) * 10 ^ 0; omega
 | b :: r, a, h => by
  rw [List.all_cons, Bool.and_eq_true] at h
  have hb : 48 ≤ b.toNat ∧ b.toNat ≤ 57 := of_decide_eq_true h.1
  have ih := valF_lt r (a * 10 + (b.toNat - 48)) h.2
  show valF (a * 10 + (b.toNat - 48)) r < _
  rw [List.length_cons, Nat.pow_succ]
  have h1 : (a * 10 + (b.toNat - 48) + 1) * 10 ^ r.length ≤ ((a + 1) * 10) * 10 ^ r.length := Nat.mul_le_mul_right _ (by omega)
  have h2 : ((a + 1) * 10) * 10 ^ r.length = (a + 1) * (10 ^ r.length * 10) := by rw [Nat.mul_assoc, Nat.mul_comm 10]
  omega
theorem digits_all : ∀ (n u : Nat), u ≤ n → (Lib.decDigits u).all digB = true ∧ valL (Lib.decDigits u) = u ∧ 1 ≤ (Lib.decDigits u).length ∧ (1 ≤ u → (Lib.decDigits u).head? ≠ some 48)
 | n, u, hu => by
  unfold Lib.decDigits
  by_cases h : u < 10
  · rw [dif_pos h]
    have hb : (UInt8.ofNat (48 + u)).toNat = 48 + u := by rw [UInt8.toNat_ofNat']; omega
    refine ⟨?_, ?_, by simp, fun h1 => ?_⟩
    · rw [List.all_cons, List.all_nil, Bool.and_true]; unfold digB; rw [hb]; exact decide_eq_true (by omega)
    · show 0 * 10 + ((UInt8.ofNat (48 + u)).toNat - 48) = u; rw [hb]; omega
    · intro e
      have e2 := congrArg UInt8.toNat (Option.some.inj e)
      rw [hb] at e2
      have : (48 : UInt8).toNat = 48 := rfl
      omega
  · rw [dif_neg h]
    match n, hu with
    | 0, hu => omega
    | n + 1, hu =>
     obtain ⟨g1, g2, g3, g4⟩ := digits_all n (u / 10) (by omega)
     have hb : (UInt8.ofNat (48 + u % 10)).toNat = 48 + u % 10 := by rw [UInt8.toNat_ofNat']; omega
     refine ⟨?_, ?_, by rw [List.length_append]; omega, fun _ => ?_⟩
     · rw [List.all_append, g1, Bool.true_and, List.all_cons, List.all_nil, Bool.and_true]; unfold digB; rw [hb]; exact decide_eq_true (by omega)
     · unfold valL at g2 ⊢; rw [valF_app, g2, valF_one, hb]; omega
     · have g5 := g4 (by omega)
       cases hd : Lib.decDigits (u / 10) with
       | nil => rw [hd] at g3; simp at g3
       | cons x r => rw [hd] at g5; simpa using g5
theorem digits_back : ∀ (n : Nat) (l : List UInt8), l.length ≤ n → l ≠ [] → l.all digB = true → (l.length = 1 ∨ l.head? ≠ some 48) → Lib.decDigits (valL l) = l
 | n, l, hn, hne, ha, hh => by
  rcases List.eq_nil_or_concat l with rfl | ⟨p, b, rfl⟩
  · exact absurd rfl hne
  · rw [List.concat_eq_append] at *
    rw [List.all_append, Bool.and_eq_true, List.all_cons, Bool.and_eq_true] at ha
    have hb : 48 ≤ b.toNat ∧ b.toNat ≤ 57 := of_decide_eq_true ha.2.1
    have hv : valL (p ++ [b]) = valL p * 10 + (b.toNat - 48) := by unfold valL; rw [valF_app, valF_one]
    have hbb : UInt8.ofNat (48 + (b.toNat - 48)) = b := by rw [show 48 + (b.toNat - 48) = b.toNat by omega]; exact UInt8.ofNat_toNat
    rw [hv]
    by_cases hp : p = []
    · subst hp
      unfold Lib.decDigits
      rw [show valL [] = 0 from rfl, dif_pos (by omega), Nat.zero_mul, Nat.zero_add, hbb]
      rfl
    · match n, hn with
      | 0, hn => simp at hn
      | n + 1, hn =>
       have hpl := List.length_pos_iff.2 hp
       have hhp : p.head? ≠ some 48 := by
        rcases hh with hh | hh
        · rw [List.length_append] at hh; simp at hh; exact absurd hh hp
        · cases p with
          | nil => exact absurd rfl hp
          | cons x r => simpa using hh
       have ih := digits_back n p (by simp at hn; omega) hp ha.1 (.inr hhp)
       have hpos : 1 ≤ valL p := by
        cases p with
        | nil => exact absurd rfl hp
        | cons x r =>
         rw [List.all_cons, Bool.and_eq_true] at ha
         have hx : 48 ≤ x.toNat ∧ x.toNat ≤ 57 := of_decide_eq_true ha.1.1
         have hx2 : x.toNat ≠ 48 := fun e => hhp (by show some x = some 48; rw [show x = 48 from UInt8.toNat_inj.1 e])
         have mono : ∀ (r : List UInt8) (a : Nat), a ≤ valF a r := by
          intro r
          induction r with
          | nil => intro a; exact Nat.le_refl _
          | cons y r ihr => intro a; have := ihr (a * 10 + (y.toNat - 48)); show a ≤ valF (a * 10 + (y.toNat - 48)) r; omega
         have := mono r (0 * 10 + (x.toNat - 48))
         show 1 ≤ valF (0 * 10 + (x.toNat - 48)) r
         omega
       unfold Lib.decDigits
       rw [dif_neg (by omega), show (valL p * 10 + (b.toNat - 48)) / 10 = valL p by omega, show (valL p * 10 + (b.toNat - 48)) % 10 = b.toNat - 48 by omega, ih, hbb]
theorem can_val {l : List UInt8} (h : canL l = true) : valL l < 10000000000 := by
 unfold canL at h
 simp only [Bool.and_eq_true, decide_eq_true_eq] at h
 have h1 := valF_lt l 0 h.1.2
 have h2 : 10 ^ l.length ≤ 10 ^ 10 := Nat.pow_le_pow_right (by omega) h.1.1.2
 unfold valL
 omega
theorem digits_many : ∀ (k u : Nat), k + 1 < Lib.nDigits u → 10 ^ (k + 1) ≤ u
 | 0, u, h => by
  by_cases hu : u < 10
  · rw [Lib.nDigits_small hu] at h; omega
  · omega
 | k + 1, u, h => by
  by_cases hu : u < 10
  · rw [Lib.nDigits_small hu] at h; omega
  · rw [Lib.nDigits_big hu] at h
    have ih := digits_many k (u / 10) (by omega)
    rw [Nat.pow_succ]
    omega
/-- numberIn takes a number in Go's own spelling, not above the greatest one; and no other text. -/
theorem number_eq (s : ByteArray) (most : Int) (hs : s.size ≤ 281474976710656) (h0 : 0 ≤ most) (h1 : most < 9999999999) : ∃ v, impl_numberIn.f s most = some (v, canL s.data.toList && decide ((valL s.data.toList : Int) ≤ most)) ∧ ((canL s.data.toList && decide ((valL s.data.toList : Int) ≤ most)) = true → v = (valL s.data.toList : Int)) := by
 unfold impl_numberIn.f
 rw [if_pos hs, Lib.toList_data]
 generalize hl : s.data.toList = l
 by_cases hc : canL l = true
 · have hc' := hc
   unfold canL at hc'
   simp only [Bool.and_eq_true, Bool.or_eq_true, decide_eq_true_eq] at hc'
   have hv := can_val hc
   have hne : l ≠ [] := by rintro rfl; simp at hc'
   have hat : Lib.atoiAll l = .ok (valL l : Int) := by
    rw [Lib.atoiAll_short l (by omega)]
    cases l with
    | nil => exact absurd rfl hne
    | cons b r =>
     have ha := hc'.1.2
     rw [List.all_cons, Bool.and_eq_true] at ha
     have hb : 48 ≤ b.toNat ∧ b.toNat ≤ 57 := of_decide_eq_true ha.1
     have n45 : (b == 45) = false := beq_eq_false_iff_ne.mpr fun e => by rw [e] at hb; have : (45 : UInt8).toNat = 45 := rfl; omega
     have n43 : (b == 43) = false := beq_eq_false_iff_ne.mpr fun e => by rw [e] at hb; have : (43 : UInt8).toNat = 43 := rfl; omega
     unfold Lib.atoi Lib.decNat
     show Lib.NumEnd.ofOption (if (b == 45) = true then _ else (if (b == 43) = true then _ else Option.map (fun (m : Nat) => (m : Int)) (if (b :: r).isEmpty = true then none else Lib.decFrom 0 (b :: r)))) = _
     rw [n45, n43, if_neg (by simp), if_neg (by simp), if_neg (by simp), decFrom_val _ 0 hc'.1.2]
     rfl
   have hit : Lib.itoa (valL l : Int) = l := by
    rw [Lib.itoa_nonneg]
    exact digits_back l.length l (Nat.le_refl _) hne hc'.1.2 hc'.2
   rw [hat]
   refine ⟨(valL l : Int), ?_, fun _ => rfl⟩
   simp only [hit, beq_self_eq_true, Bool.and_true, hc, Bool.true_and]
   congr 2
   rw [decide_eq_decide]
   omega
 · rw [Bool.eq_false_iff.mpr hc, Bool.false_and]
   cases ha : Lib.atoiAll l
   · next v =>
     refine ⟨v, ?_, fun h => by cases h⟩
     show some (v, decide (0 ≤ v ∧ v ≤ most) && (Lib.itoa v == l)) = some (v, false)
     congr 2
     rw [Bool.and_eq_false_iff]
     by_cases hv : 0 ≤ v ∧ v ≤ most
     · right
       rw [beq_eq_false_iff_ne]
       intro e
       apply hc
       obtain ⟨u, rfl⟩ : ∃ u : Nat, v = (u : Int) := ⟨v.toNat, by omega⟩
       rw [Lib.itoa_nonneg] at e
       obtain ⟨g1, g2, g3, g4⟩ := digits_all u u (Nat.le_refl _)
       have hlen : (Lib.decDigits u).length ≤ 10 := by
        rw [Lib.decDigits_length]
        by_cases h10 : u < 10
        · rw [Lib.nDigits_small h10]; omega
        · by_cases hbig : Lib.nDigits u ≤ 10
          · exact hbig
          · have := digits_many 9 u (by omega)
            omega
       rw [← e]
       unfold canL
       rw [g1, decide_eq_true (by omega), Bool.true_and, Bool.true_and, Bool.or_eq_true]
       by_cases hu : 1 ≤ u
       · exact .inr (decide_eq_true (g4 hu))
       · left
         obtain rfl : u = 0 := by omega
         rw [Lib.decDigits_one (by omega)]
         rfl
     · left
       exact decide_eq_false hv
   · exact ⟨0, rfl, fun h => by cases h⟩
   · exact ⟨_, rfl, fun h => by cases h⟩
/-- What the reference reads. -/
def numS (l : List UInt8) : Int := if canL l = true then (valL l : Int) else -1
theorem int_loop (s : ByteArray) (hs : s.size ≤ 10) : ∀ (m i a : Nat), i + m = s.size → a = valL (s.data.toList.take i) → (s.data.toList.take i).all digB = true →
 Ev (fun k => spec_l1Int.l0 k s (a : Int) (i : Int)) (if s.data.toList.all digB = true then (valL s.data.toList : Int) else -1)
 | 0, i, a, him, ha, hd => by
  rw [List.take_of_length_le (by rw [← size_len]; omega)] at ha hd
  rw [if_pos hd, ← ha]
  refine Ev.step (f := fun _ => some (a : Int)) (fun k => ?_) (Ev.now _)
  show spec_l1Int.l0 (k + 1) s (a : Int) (i : Int) = _
  conv => lhs; unfold spec_l1Int.l0
  rw [if_neg (by omega)]
 | m + 1, i, a, him, ha, hd => by
  have hi : i < s.data.toList.length := by rw [← size_len]; omega
  have hbt := bt_list s i hi
  have htk : s.data.toList.take (i + 1) = s.data.toList.take i ++ [s.data.toList[i]] := by rw [List.take_add_one, List.getElem?_eq_getElem hi]; rfl
  have halt : a < 10 ^ 10 := by
   have := valF_lt _ 0 hd
   have h2 : 10 ^ (s.data.toList.take i).length ≤ 10 ^ 10 := Nat.pow_le_pow_right (by omega) (by rw [List.length_take]; omega)
   rw [ha]
   unfold valL
   omega
  by_cases hb : digB s.data.toList[i] = true
  · have hb' : 48 ≤ (s.data.toList[i]).toNat ∧ (s.data.toList[i]).toNat ≤ 57 := of_decide_eq_true hb
    have ih := int_loop s hs m (i + 1) (a * 10 + ((s.data.toList[i]).toNat - 48)) (by omega) (by rw [htk]; unfold valL at ha ⊢; rw [valF_app, ← ha, valF_one]) (by rw [htk, List.all_append, hd, Bool.true_and, List.all_cons, hb]; rfl)
    refine Ev.step (fun k => ?_) ih
    show spec_l1Int.l0 (k + 1) s (a : Int) (i : Int) = _
    conv => lhs; unfold spec_l1Int.l0
    have hw : wrap64 ((wrap64 (10 * (a : Int))) + ((((s.data.toList[i]).toNat : Int) - 48) % 256)) = ((a * 10 + ((s.data.toList[i]).toNat - 48) : Nat) : Int) := by
     have h1 : wrap64 (10 * (a : Int)) = 10 * (a : Int) := by unfold wrap64; omega
     rw [h1]
     unfold wrap64
     omega
    rw [if_pos (by omega), if_pos (by omega), hbt, if_neg (by omega), if_neg (by omega), hw, w64n (by omega)]
  · have hall : s.data.toList.all digB = false := by
     rw [List.all_eq_false]
     exact ⟨_, List.getElem_mem hi, hb⟩
    rw [hall, if_neg (by simp)]
    have hb' : ¬ (48 ≤ (s.data.toList[i]).toNat ∧ (s.data.toList[i]).toNat ≤ 57) := of_decide_eq_false (Bool.eq_false_iff.mpr hb)
    refine Ev.step (f := fun _ => some (-1)) (fun k => ?_) (Ev.now _)
    show spec_l1Int.l0 (k + 1) s (a : Int) (i : Int) = _
    conv => lhs; unfold spec_l1Int.l0
    rw [if_pos (by omega), if_pos (by omega), hbt]
    by_cases h1 : ((s.data.toList[i]).toNat : Int) < 48
    · rw [if_pos h1]
    · rw [if_neg h1, if_pos (by omega)]
theorem int_ev (s : ByteArray) (hs : s.size < 4611686018427387904) : Ev (fun k => spec_l1Int.f k s) (numS s.data.toList) := by
 have hj : Ev (fun k => spec_l1Int.j0 k s true) (-1) := Ev.step (f := fun _ => some (-1)) (fun k => rfl) (Ev.now _)
 have hin : spec_l1In.f (s.size : Int) 1 10 = some (decide (1 ≤ (s.size : Int) ∧ (s.size : Int) ≤ 10)) := within_spec _ _ _
 by_cases h1 : 1 ≤ (s.size : Int) ∧ (s.size : Int) ≤ 10
 · have hlen : 0 < s.data.toList.length := by rw [← size_len]; omega
   have hbt := bt_list s 0 hlen
   have hmain : ∀ ld : Bool, ld = decide (s.data.toList.head? = some 48 ∧ s.size > 1) → Ev (fun k => spec_l1Int.j0 k s ld) (numS s.data.toList) := by
    intro ld hld
    cases ld with
    | true =>
     have h2 := of_decide_eq_true hld.symm
     have : canL s.data.toList = false := by
      unfold canL
      rw [decide_eq_false (show ¬ s.data.toList.length = 1 by rw [← size_len]; omega), decide_eq_false (show ¬ s.data.toList.head? ≠ some 48 from fun h => h h2.1), Bool.or_false, Bool.and_false]
     unfold numS
     rw [this, if_neg (by simp)]
     exact hj
    | false =>
     have h2 := of_decide_eq_false hld.symm
     have hl := int_loop s (by omega) s.size 0 0 (by omega) rfl rfl
     have e : (if s.data.toList.all digB = true then (valL s.data.toList : Int) else -1) = numS s.data.toList := by
      unfold numS canL
      rw [decide_eq_true (show 1 ≤ s.data.toList.length ∧ s.data.toList.length ≤ 10 by rw [← size_len]; omega), Bool.true_and]
      have h3 : (decide (s.data.toList.length = 1) || decide (s.data.toList.head? ≠ some 48)) = true := by
       rw [Bool.or_eq_true]
       by_cases h4 : s.data.toList.head? = some 48
       · exact .inl (decide_eq_true (by rw [← size_len]; have : ¬ s.size > 1 := fun h5 => h2 ⟨h4, h5⟩; omega))
       · exact .inr (decide_eq_true h4)
      rw [h3, Bool.and_true]
     rw [← e]
     exact Ev.step (fun k => rfl) hl
   have hhead : s.data.toList.head? = some (s.data.toList[0]) := by rw [List.head?_eq_getElem?, List.getElem?_eq_getElem hlen]
   refine Ev.congr (f := fun k => spec_l1Int.j0 k s (decide (s.data.toList.head? = some 48 ∧ s.size > 1))) (fun k => ?_) (hmain _ rfl)
   unfold spec_l1Int.f
   rw [hin, Option.bind_some, decide_eq_true h1, if_pos rfl, if_pos (by omega)]
   have hb0 : bt s 0 = ((s.data.toList[0]).toNat : Int) := hbt
   rw [hb0, hhead]
   by_cases h48 : s.data.toList[0] = 48
   · rw [if_pos (by rw [h48]; rfl)]
     congr 1
     rw [decide_eq_decide]
     constructor
     · intro h; exact ⟨by rw [h48], by omega⟩
     · intro h; omega
   · rw [if_neg (fun h => h48 (UInt8.toNat_inj.1 (by have : (48 : UInt8).toNat = 48 := rfl; omega)))]
     congr 1
     rw [eq_comm, decide_eq_false_iff_not]
     rintro ⟨h, _⟩
     exact h48 (Option.some.inj h)
 · have : canL s.data.toList = false := by
    unfold canL
    rw [decide_eq_false (show ¬ (1 ≤ s.data.toList.length ∧ s.data.toList.length ≤ 10) by rw [← size_len]; omega)]
    rfl
   unfold numS
   rw [this, if_neg (by simp)]
   refine Ev.congr (fun k => ?_) hj
   unfold spec_l1Int.f
   rw [hin, Option.bind_some, decide_eq_false h1, if_neg (by simp)]
end Go.Proofs.YtkpkfallgjdkmaaGreatDoor.Pure
