/- FnExactGoodZone: part 28 of 29 of my texts for this claim, joined; the theorem stands in the last. Conditions: none beyond the statement's. -/
import Derived.Test.YtkpkfallgjdkmaaGreatDoorMFnExactGoodZonex3
import Derived.Test.YtkpkfallgjdkmaaGreatDoorMFnExactGoodZonex10
import Derived.Test.YtkpkfallgjdkmaaGreatDoorMFnExactGoodZonex21
import Derived.Test.YtkpkfallgjdkmaaGreatDoorMFnExactGoodZonex12
import Derived.Test.YtkpkfallgjdkmaaGreatDoorMFnExactGoodZonex26
import Derived.Test.YtkpkfallgjdkmaaGreatDoorMFnExactGoodZonex4
namespace Go.Proofs.YtkpkfallgjdkmaaGreatDoor.P
open Go.RowKit Go.Proofs.YtkpkfallgjdkmaaGreatDoorW.PrintWords Go.Proofs.YtkpkfallgjdkmaaGreatDoorW.PrintLast Go.Proofs.YtkpkfallgjdkmaaGreatDoorW.PrintMore
attribute [local go_sem] max2_int min2_int max_two min_two max_three min_three max_four min_four
set_option linter.unusedVariables false
set_option linter.unusedSimpArgs false
def laws_FnExactGoodZone.f (k : Nat) (a0_0 : ByteArray) (a0_1 : Int) (l0_2 : List (S71)) : Option (Bool) := (laws_szZone.f k a0_0 a0_1 l0_2 1048576).bind fun t758 => (if t758 < 0 then (some true) else ((laws_toZone.f k a0_0 a0_1 l0_2).bind fun bt759 => ((spec_GoodZone.f k bt759.1 bt759.2.1 bt759.2.2).bind fun t764 => ((laws_toZone.f k a0_0 a0_1 l0_2).bind fun bt765 => ((impl_GoodZone.f k bt765.1 bt765.2.1 bt765.2.2).bind fun t771 => (if (t771 != t764) = true then (some false) else ((laws_toZone.f k a0_0 a0_1 l0_2).bind fun bt772 => ((laws_eqZone.f k bt765.1 bt765.2.1 bt765.2.2 bt772.1 bt772.2.1 bt772.2.2).bind fun t777 => (if t777 = true then (some true) else (some false))))))))))
set_option maxHeartbeats 8000000 in
set_option maxRecDepth 100000 in
theorem laws_FnExactGoodZone.calls (k : Nat) (a0_0 : ByteArray) (a0_1 : Int) (A0_2 : Option Addr) (c0_2 : Nat) (l0_2 : List (S71)) (r : Bool) (w : World) (hr0_2 : Kd.C k71 w A0_2 l0_2.length l0_2) (hc0_2 : l0_2.length ≤ c0_2) (h : laws_FnExactGoodZone.f k a0_0 a0_1 l0_2 = some r) (hv_ : Vars w := by exact vv_) :
 Calls Tryz.prog 7 #[.agg #[.string a0_0, .int .i64 a0_1, .slice A0_2 l0_2.length c0_2]] w fun e w' => e = .returned (.bool r) ∧ Below w.heap.size w w' := by
 have HV_ := a0_ hv_
 clear hv_
 have hu51 := Tryz.underlying51
 have hu42 := Tryz.underlying42
 have HR0_2 := a0_ hr0_2
 have HC0_2 := a0_ hc0_2
 clear hr0_2 hc0_2
 have HB := a0_ (Below.refl w.heap.size w)
 have H : ((laws_szZone.f k a0_0 a0_1 l0_2 1048576).bind fun t758 => (if t758 < 0 then (some true) else ((laws_toZone.f k a0_0 a0_1 l0_2).bind fun bt759 => ((spec_GoodZone.f k bt759.1 bt759.2.1 bt759.2.2).bind fun t764 => ((laws_toZone.f k a0_0 a0_1 l0_2).bind fun bt765 => ((impl_GoodZone.f k bt765.1 bt765.2.1 bt765.2.2).bind fun t771 => (if (t771 != t764) = true then (some false) else ((laws_toZone.f k a0_0 a0_1 l0_2).bind fun bt772 => ((laws_eqZone.f k bt765.1 bt765.2.1 bt765.2.2 bt772.1 bt772.2.1 bt772.2.2).bind fun t777 => (if t777 = true then (some true) else (some false))))))))))) = some r := h
 clear h
 replace H := Option.bind_eq_some_iff.mp H
 obtain ⟨t758, A20, H⟩ := H
 replace H : (if t758 < 0 then (some true) else ((laws_toZone.f k a0_0 a0_1 l0_2).bind fun bt759 => ((spec_GoodZone.f k bt759.1 bt759.2.1 bt759.2.2).bind fun t764 => ((laws_toZone.f k a0_0 a0_1 l0_2).bind fun bt765 => ((impl_GoodZone.f k bt765.1 bt765.2.1 bt765.2.2).bind fun t771 => (if (t771 != t764) = true then (some false) else ((laws_toZone.f k a0_0 a0_1 l0_2).bind fun bt772 => ((laws_eqZone.f k bt765.1 bt765.2.1 bt765.2.2 bt772.1 bt772.2.1 bt772.2.2).bind fun t777 => (if t777 = true then (some true) else (some false)))))))))) = some r := H
 have A2 := a0_ A20
 clear A20
 by_cases c3 : t758 < 0
 case pos =>
  rw [if_pos c3] at H
  have c3b0 := decide_eq_true c3
  clear c3
  obtain rfl := Option.some.inj H
  go_enter Tryz.func7, Tryz.ntmps7
  go_wp2_with (first | ((with_reducible refine gate_dst (N := 1) rfl ?_); refine boxS_ 1 #[.string a0_0, .int .i64 a0_1, .slice A0_2 l0_2.length c0_2] 51 (fun gb757 hg w4 hbox hb => ?_); have n0_ := a0_ (below_step bq0_ hb); have n1_ := a0_ (hbox); have n2_ := a0_ (gw_ hg : w.heap.size ≤ gb757); have n3_ := n2_; clear HB; have HB := n0_; have BK757 := n1_; have GW757 := n2_; have GE757 := n3_; clear n0_ n1_ n2_ n3_; clear hb hbox hg; obtain ⟨z5_0, z5_1, z5_2, q5_0, q5_1, q5_2⟩ := bk3_ BK757.out) | ((with_reducible refine gate_callee (f := 32) rfl ?_); refine goesL_ (some 9) rfl rfl Tryz.func32 (by kernel_rfl) rfl #[.agg #[.string a0_0, .int .i64 a0_1, .slice A0_2 l0_2.length c0_2], .int .i64 1048576] rfl argsS_ ?_; (with_reducible refine (laws_szZone.calls k a0_0 a0_1 _ _ l0_2 1048576 t758 _ ?side1 ?side2 A2.out).mono ?_); (case side1 => exact kC_ HR0_2.out HB.out); (case side2 => exact HC0_2.out); rintro e w6 ⟨rfl, hb⟩; refine ⟨_, rfl, ?_⟩; replace BK757 := a0_ (bkB_ BK757 hb); replace HB := a0_ (below_step bq1_ hb); (try clear hb); (try clear hb2); (try clear hk); (try clear hi)))
  go_ret
  exact ⟨rr_, bq1_⟩
 rw [if_neg c3] at H
 have c3b0 := decide_eq_false c3
 clear c3
 replace H := Option.bind_eq_some_iff.mp H
 obtain ⟨⟨t759, t760, t761⟩, A70, H⟩ := H
 replace H : ((spec_GoodZone.f k t759 t760 t761).bind fun t764 => ((laws_toZone.f k a0_0 a0_1 l0_2).bind fun bt765 => ((impl_GoodZone.f k bt765.1 bt765.2.1 bt765.2.2).bind fun t771 => (if (t771 != t764) = true then (some false) else ((laws_toZone.f k a0_0 a0_1 l0_2).bind fun bt772 => ((laws_eqZone.f k bt765.1 bt765.2.1 bt765.2.2 bt772.1 bt772.2.1 bt772.2.2).bind fun t777 => (if t777 = true then (some true) else (some false)))))))) = some r := H
 have A7 := a0_ A70
 clear A70
 replace H := Option.bind_eq_some_iff.mp H
 obtain ⟨t764, A80, H⟩ := H
 replace H : ((laws_toZone.f k a0_0 a0_1 l0_2).bind fun bt765 => ((impl_GoodZone.f k bt765.1 bt765.2.1 bt765.2.2).bind fun t771 => (if (t771 != t764) = true then (some false) else ((laws_toZone.f k a0_0 a0_1 l0_2).bind fun bt772 => ((laws_eqZone.f k bt765.1 bt765.2.1 bt765.2.2 bt772.1 bt772.2.1 bt772.2.2).bind fun t777 => (if t777 = true then (some true) else (some false))))))) = some r := H
 have A8 := a0_ A80
 clear A80
 replace H := Option.bind_eq_some_iff.mp H
 obtain ⟨⟨t765, t766, t767⟩, A90, H⟩ := H
 replace H : ((impl_GoodZone.f k t765 t766 t767).bind fun t771 => (if (t771 != t764) = true then (some false) else ((laws_toZone.f k a0_0 a0_1 l0_2).bind fun bt772 => ((laws_eqZone.f k t765 t766 t767 bt772.1 bt772.2.1 bt772.2.2).bind fun t777 => (if t777 = true then (some true) else (some false)))))) = some r := H
 have A9 := a0_ A90
 clear A90
 replace H := Option.bind_eq_some_iff.mp H
 obtain ⟨t771, A100, H⟩ := H
 replace H : (if (t771 != t764) = true then (some false) else ((laws_toZone.f k a0_0 a0_1 l0_2).bind fun bt772 => ((laws_eqZone.f k t765 t766 t767 bt772.1 bt772.2.1 bt772.2.2).bind fun t777 => (if t777 = true then (some true) else (some false))))) = some r := H
 have A10 := a0_ A100
 clear A100
 by_cases c11 : (t771 != t764) = true
 case pos =>
  rw [if_pos c11] at H
  have c11b0 : (t771 != t764) = true := c11
  (try (have c11b1 : decide (t771 = t764) = false := by simpa using c11))
  (try (have c11b2 : (t771 == t764) = false := by simpa using c11))
  (try (have c11b3 : ¬ (t771 = t764) := by simpa using c11))
  clear c11
  obtain rfl := Option.some.inj H
  go_enter Tryz.func7, Tryz.ntmps7
  go_wp2_with (first | ((with_reducible refine gate_dst (N := 1) rfl ?_); refine boxS_ 1 #[.string a0_0, .int .i64 a0_1, .slice A0_2 l0_2.length c0_2] 51 (fun gb757 hg w12 hbox hb => ?_); have n0_ := a0_ (below_step bq0_ hb); have n1_ := a0_ (hbox); have n2_ := a0_ (gw_ hg : w.heap.size ≤ gb757); have n3_ := n2_; clear HB; have HB := n0_; have BK757 := n1_; have GW757 := n2_; have GE757 := n3_; clear n0_ n1_ n2_ n3_; clear hb hbox hg; obtain ⟨z13_0, z13_1, z13_2, q13_0, q13_1, q13_2⟩ := bk3_ BK757.out) | ((with_reducible refine gate_callee (f := 32) rfl ?_); refine goesL_ (some 9) rfl rfl Tryz.func32 (by kernel_rfl) rfl #[.agg #[.string a0_0, .int .i64 a0_1, .slice A0_2 l0_2.length c0_2], .int .i64 1048576] rfl argsS_ ?_; (with_reducible refine (laws_szZone.calls k a0_0 a0_1 _ _ l0_2 1048576 t758 _ ?side1 ?side2 A2.out).mono ?_); (case side1 => exact kC_ HR0_2.out HB.out); (case side2 => exact HC0_2.out); rintro e w14 ⟨rfl, hb⟩; refine ⟨_, rfl, ?_⟩; replace BK757 := a0_ (bkB_ BK757 hb); replace HB := a0_ (below_step bq1_ hb); (try clear hb); (try clear hb2); (try clear hk); (try clear hi); obtain ⟨z15_0, z15_1, z15_2, q15_0, q15_1, q15_2⟩ := bk3_ BK757.out) | ((with_reducible refine gate_callee (f := 34) rfl ?_); refine goesL_ (some 13) rfl rfl Tryz.func34 (by kernel_rfl) rfl #[.agg #[.string a0_0, .int .i64 a0_1, .slice A0_2 l0_2.length c0_2]] rfl argsS_ ?_; (with_reducible refine (laws_toZone.calls k a0_0 a0_1 _ _ l0_2 t759 t760 t761 _ ?side1 ?side2 A7.out).mono ?_); (case side1 => exact kC_ HR0_2.out HB.out); (case side2 => exact HC0_2.out); rintro e w16 ⟨v762, rfl, ho0, hb⟩; refine ⟨_, rfl, ?_⟩; have HO763 := a0_ (Kd.R_lower ho0 (below_size bq1_)); replace BK757 := a0_ (bkB_ BK757 hb); replace HB := a0_ (below_step bq1_ hb); (try clear hb); (try clear hb2); (try clear hk); (try clear hi); (try clear ho0); obtain ⟨Ao17, co17, eo17⟩ := Kd.R_slice HO763.out; subst eo17) | ((with_reducible refine gate_callee (f := 33) rfl ?_); refine goesL_ (some 14) rfl rfl Tryz.func33 (by kernel_rfl) rfl #[.agg #[.string t759, .int .i64 t760, .slice Ao17 t761.length co17]] rfl argsS_ ?_; (with_reducible refine (spec_GoodZone.calls k t759 t760 _ _ t761 t764 _ ?side1 ?side2 A8.out).mono ?_); (case side1 => exact kD_ (Kd.R_reads' HO763.out).2.2); (case side2 => exact (Kd.R_reads' HO763.out).2.1); rintro e w18 ⟨rfl, hb⟩; refine ⟨_, rfl, ?_⟩; replace HO763 := a0_ (Kd.R_below (kR_ HO763.out) hb); replace BK757 := a0_ (bkB_ BK757 hb); replace HB := a0_ (below_step bq1_ hb); (try clear hb); (try clear hb2); (try clear hk); (try clear hi); obtain ⟨z19_0, z19_1, z19_2, q19_0, q19_1, q19_2⟩ := bk3_ BK757.out) | ((with_reducible refine gate_callee (f := 34) rfl ?_); refine goesL_ (some 16) rfl rfl Tryz.func34 (by kernel_rfl) rfl #[.agg #[.string a0_0, .int .i64 a0_1, .slice A0_2 l0_2.length c0_2]] rfl argsS_ ?_; (with_reducible refine (laws_toZone.calls k a0_0 a0_1 _ _ l0_2 t765 t766 t767 _ ?side1 ?side2 A9.out).mono ?_); (case side1 => exact kC_ HR0_2.out HB.out); (case side2 => exact HC0_2.out); rintro e w20 ⟨v768, rfl, ho0, hb⟩; refine ⟨_, rfl, ?_⟩; have n0_ := a0_ (Kd.R_elder' (kR_ HO763.out) (Kd.R_base ho0) hb); have n1_ := a0_ (Kd.R_lower (Kd.R_new' ho0 (Kd.R_lt (kR_ HO763.out))) (below_size bq1_)); have n2_ := a0_ (bkB_ BK757 hb); have n3_ := a0_ (below_step bq1_ hb); clear HO763; clear BK757; clear HB; have HO763 := n0_; have HO769 := n1_; have BK757 := n2_; have HB := n3_; clear n0_ n1_ n2_ n3_; (try clear hb); (try clear hb2); (try clear hk); (try clear hi); (try clear ho0)) | ((with_reducible refine gate_dst (N := 5) rfl ?_); refine boxS_ 5 #[.string (⟨#[]⟩ : ByteArray), .int .i64 0, .slice none 0 0] 42 (fun gb770 hg w21 hbox hb => ?_); have n0_ := a0_ (Kd.R_below (kR_ HO763.out) hb); have n1_ := a0_ (Kd.R_below (kR_ HO769.out) hb); have n2_ := a0_ (bkB_ BK757 hb); have n3_ := a0_ (below_step bq1_ hb); have n4_ := a0_ (hbox); have n5_ := a0_ (gw_ hg (below_size bq1_) : w.heap.size ≤ gb770); have n6_ := n5_; have n7_ := a0_ ((by rw [hg]; exact Nat.ne_of_lt (blk_lt (g := gb757) (o := .cells #[.string a0_0, .int .i64 a0_1, .slice A0_2 l0_2.length c0_2] 51 (0, 0)) (kB_ BK757.out)) : gb757 ≠ gb770)); have n8_ := a0_ ((by rw [hg]; exact Nat.ne_of_gt (blk_lt (g := gb757) (o := .cells #[.string a0_0, .int .i64 a0_1, .slice A0_2 l0_2.length c0_2] 51 (0, 0)) (kB_ BK757.out)) : gb770 ≠ gb757)); clear HO763; clear HO769; clear BK757; clear HB; have HO763 := n0_; have HO769 := n1_; have BK757 := n2_; have HB := n3_; have BK770 := n4_; have GW770 := n5_; have GE770 := n6_; have NB757_770 := n7_; have NB770_757 := n8_; clear n0_ n1_ n2_ n3_ n4_ n5_ n6_ n7_ n8_; clear hb hbox hg; have hnb22 := NB770_757.out; have hnc22 := NB757_770.out; obtain ⟨z23_0, z23_1, z23_2, q23_0, q23_1, q23_2⟩ := bk3_ BK770.out; obtain ⟨Ao24, co24, eo24⟩ := Kd.R_slice HO769.out; subst eo24) | ((with_reducible refine gate_callee (f := 35) rfl ?_); refine goesL_ (some 18) rfl rfl Tryz.func35 (by kernel_rfl) rfl #[.agg #[.string t765, .int .i64 t766, .slice Ao24 t767.length co24]] rfl argsS_ ?_; (with_reducible refine (impl_GoodZone.calls k t765 t766 _ _ t767 t771 _ ?side1 ?side2 A10.out).mono ?_); (case side1 => refine (Kd.R_reads' (e := 72) (base := w.heap.size) (ok := fun k_ => (True ∧ some k_ ≠ (.slice Ao17 t761.length co17 : Value).ownBlock)) (n := t767.length) (c := co24) ?_).2.2; exact (kR_ (farR3_ HO769.out BK770.out))); (case side2 => exact (Kd.R_reads' HO769.out).2.1); rintro e w25 ⟨rfl, hb⟩; refine ⟨_, rfl, ?_⟩; replace HO763 := a0_ (Kd.R_below (kR_ (farR3_ HO763.out BK770.out)) hb); replace HO769 := a0_ (Kd.R_below (kR_ (farR3_ HO769.out BK770.out)) hb); replace BK757 := a0_ (blk_below (g := gb757) (o := .cells #[.string a0_0, .int .i64 a0_1, .slice A0_2 l0_2.length c0_2] 51 (0, 0)) (bfar3_ NB757_770.out BK757.out) hb); replace BK770 := a0_ (blk_below (g := gb770) (o := .cells #[.string t765, .int .i64 t766, .slice Ao24 t767.length co24] 42 (0, 0)) (put3_ BK770.out) hb); replace HB := a0_ (below_step bq1_ hb); (try clear hb); (try clear hb2); (try clear hk); (try clear hi)))
  go_ret
  exact ⟨rr_, bq1_⟩
 rw [if_neg c11] at H
 have c11b0 : (t771 != t764) = false := by simpa using c11
 (try (have c11b1 : decide (t771 = t764) = true := by simpa using c11))
 (try (have c11b2 : (t771 == t764) = true := by simpa using c11))
 clear c11
 replace H := Option.bind_eq_some_iff.mp H
 obtain ⟨⟨t772, t773, t774⟩, A260, H⟩ := H
 replace H : ((laws_eqZone.f k t765 t766 t767 t772 t773 t774).bind fun t777 => (if t777 = true then (some true) else (some false))) = some r := H
 have A26 := a0_ A260
 clear A260
 replace H := Option.bind_eq_some_iff.mp H
 obtain ⟨t777, A270, H⟩ := H
 replace H : (if t777 = true then (some true) else (some false)) = some r := H
 have A27 := a0_ A270
 clear A270
 by_cases c28 : t777 = true
 case pos =>
  subst c28
  have H1 : (some true) = some r := by rw [if_pos rfl] at H; exact H
  clear H
  have H := H1
  clear H1
  obtain rfl := Option.some.inj H
  go_enter Tryz.func7, Tryz.ntmps7
  try go_wp2_with (first | ((with_reducible refine gate_dst (N := 1) rfl ?_); refine boxS_ 1 #[.string a0_0, .int .i64 a0_1, .slice A0_2 l0_2.length c0_2] 51 (fun gb757 hg w29 hbox hb => ?_); have n0_ := a0_ (below_step bq0_ hb); have n1_ := a0_ (hbox); have n2_ := a0_ (gw_ hg : w.heap.size ≤ gb757); have n3_ := n2_; clear HB; have HB := n0_; have BK757 := n1_; have GW757 := n2_; have GE757 := n3_; clear n0_ n1_ n2_ n3_; clear hb hbox hg; obtain ⟨z30_0, z30_1, z30_2, q30_0, q30_1, q30_2⟩ := bk3_ BK757.out) | ((with_reducible refine gate_callee (f := 32) rfl ?_); refine goesL_ (some 9) rfl rfl Tryz.func32 (by kernel_rfl) rfl #[.agg #[.string a0_0, .int .i64 a0_1, .slice A0_2 l0_2.length c0_2], .int .i64 1048576] rfl argsS_ ?_; (with_reducible refine (laws_szZone.calls k a0_0 a0_1 _ _ l0_2 1048576 t758 _ ?side1 ?side2 A2.out).mono ?_); (case side1 => exact kC_ HR0_2.out HB.out); (case side2 => exact HC0_2.out); rintro e w31 ⟨rfl, hb⟩; refine ⟨_, rfl, ?_⟩; replace BK757 := a0_ (bkB_ BK757 hb); replace HB := a0_ (below_step bq1_ hb); (try clear hb); (try clear hb2); (try clear hk); (try clear hi); obtain ⟨z32_0, z32_1, z32_2, q32_0, q32_1, q32_2⟩ := bk3_ BK757.out) | ((with_reducible refine gate_callee (f := 34) rfl ?_); refine goesL_ (some 13) rfl rfl Tryz.func34 (by kernel_rfl) rfl #[.agg #[.string a0_0, .int .i64 a0_1, .slice A0_2 l0_2.length c0_2]] rfl argsS_ ?_; (with_reducible refine (laws_toZone.calls k a0_0 a0_1 _ _ l0_2 t759 t760 t761 _ ?side1 ?side2 A7.out).mono ?_); (case side1 => exact kC_ HR0_2.out HB.out); (case side2 => exact HC0_2.out); rintro e w33 ⟨v762, rfl, ho0, hb⟩; refine ⟨_, rfl, ?_⟩; have HO763 := a0_ (Kd.R_lower ho0 (below_size bq1_)); replace BK757 := a0_ (bkB_ BK757 hb); replace HB := a0_ (below_step bq1_ hb); (try clear hb); (try clear hb2); (try clear hk); (try clear hi); (try clear ho0); obtain ⟨Ao34, co34, eo34⟩ := Kd.R_slice HO763.out; subst eo34) | ((with_reducible refine gate_callee (f := 33) rfl ?_); refine goesL_ (some 14) rfl rfl Tryz.func33 (by kernel_rfl) rfl #[.agg #[.string t759, .int .i64 t760, .slice Ao34 t761.length co34]] rfl argsS_ ?_; (with_reducible refine (spec_GoodZone.calls k t759 t760 _ _ t761 t764 _ ?side1 ?side2 A8.out).mono ?_); (case side1 => exact kD_ (Kd.R_reads' HO763.out).2.2); (case side2 => exact (Kd.R_reads' HO763.out).2.1); rintro e w35 ⟨rfl, hb⟩; refine ⟨_, rfl, ?_⟩; replace HO763 := a0_ (Kd.R_below (kR_ HO763.out) hb); replace BK757 := a0_ (bkB_ BK757 hb); replace HB := a0_ (below_step bq1_ hb); (try clear hb); (try clear hb2); (try clear hk); (try clear hi); obtain ⟨z36_0, z36_1, z36_2, q36_0, q36_1, q36_2⟩ := bk3_ BK757.out) | ((with_reducible refine gate_callee (f := 34) rfl ?_); refine goesL_ (some 16) rfl rfl Tryz.func34 (by kernel_rfl) rfl #[.agg #[.string a0_0, .int .i64 a0_1, .slice A0_2 l0_2.length c0_2]] rfl argsS_ ?_; (with_reducible refine (laws_toZone.calls k a0_0 a0_1 _ _ l0_2 t765 t766 t767 _ ?side1 ?side2 A9.out).mono ?_); (case side1 => exact kC_ HR0_2.out HB.out); (case side2 => exact HC0_2.out); rintro e w37 ⟨v768, rfl, ho0, hb⟩; refine ⟨_, rfl, ?_⟩; have n0_ := a0_ (Kd.R_elder' (kR_ HO763.out) (Kd.R_base ho0) hb); have n1_ := a0_ (Kd.R_lower (Kd.R_new' ho0 (Kd.R_lt (kR_ HO763.out))) (below_size bq1_)); have n2_ := a0_ (bkB_ BK757 hb); have n3_ := a0_ (below_step bq1_ hb); clear HO763; clear BK757; clear HB; have HO763 := n0_; have HO769 := n1_; have BK757 := n2_; have HB := n3_; clear n0_ n1_ n2_ n3_; (try clear hb); (try clear hb2); (try clear hk); (try clear hi); (try clear ho0)) | ((with_reducible refine gate_dst (N := 5) rfl ?_); refine boxS_ 5 #[.string (⟨#[]⟩ : ByteArray), .int .i64 0, .slice none 0 0] 42 (fun gb770 hg w38 hbox hb => ?_); have n0_ := a0_ (Kd.R_below (kR_ HO763.out) hb); have n1_ := a0_ (Kd.R_below (kR_ HO769.out) hb); have n2_ := a0_ (bkB_ BK757 hb); have n3_ := a0_ (below_step bq1_ hb); have n4_ := a0_ (hbox); have n5_ := a0_ (gw_ hg (below_size bq1_) : w.heap.size ≤ gb770); have n6_ := n5_; have n7_ := a0_ ((by rw [hg]; exact Nat.ne_of_lt (blk_lt (g := gb757) (o := .cells #[.string a0_0, .int .i64 a0_1, .slice A0_2 l0_2.length c0_2] 51 (0, 0)) (kB_ BK757.out)) : gb757 ≠ gb770)); have n8_ := a0_ ((by rw [hg]; exact Nat.ne_of_gt (blk_lt (g := gb757) (o := .cells #[.string a0_0, .int .i64 a0_1, .slice A0_2 l0_2.length c0_2] 51 (0, 0)) (kB_ BK757.out)) : gb770 ≠ gb757)); clear HO763; clear HO769; clear BK757; clear HB; have HO763 := n0_; have HO769 := n1_; have BK757 := n2_; have HB := n3_; have BK770 := n4_; have GW770 := n5_; have GE770 := n6_; have NB757_770 := n7_; have NB770_757 := n8_; clear n0_ n1_ n2_ n3_ n4_ n5_ n6_ n7_ n8_; clear hb hbox hg; have hnb39 := NB770_757.out; have hnc39 := NB757_770.out; obtain ⟨z40_0, z40_1, z40_2, q40_0, q40_1, q40_2⟩ := bk3_ BK770.out; obtain ⟨Ao41, co41, eo41⟩ := Kd.R_slice HO769.out; subst eo41) | ((with_reducible refine gate_callee (f := 35) rfl ?_); refine goesL_ (some 18) rfl rfl Tryz.func35 (by kernel_rfl) rfl #[.agg #[.string t765, .int .i64 t766, .slice Ao41 t767.length co41]] rfl argsS_ ?_; (with_reducible refine (impl_GoodZone.calls k t765 t766 _ _ t767 t771 _ ?side1 ?side2 A10.out).mono ?_); (case side1 => refine (Kd.R_reads' (e := 72) (base := w.heap.size) (ok := fun k_ => (True ∧ some k_ ≠ (.slice Ao34 t761.length co34 : Value).ownBlock)) (n := t767.length) (c := co41) ?_).2.2; exact (kR_ (farR3_ HO769.out BK770.out))); (case side2 => exact (Kd.R_reads' HO769.out).2.1); rintro e w42 ⟨rfl, hb⟩; refine ⟨_, rfl, ?_⟩; replace HO763 := a0_ (Kd.R_below (kR_ (farR3_ HO763.out BK770.out)) hb); replace HO769 := a0_ (Kd.R_below (kR_ (farR3_ HO769.out BK770.out)) hb); replace BK757 := a0_ (blk_below (g := gb757) (o := .cells #[.string a0_0, .int .i64 a0_1, .slice A0_2 l0_2.length c0_2] 51 (0, 0)) (bfar3_ NB757_770.out BK757.out) hb); replace BK770 := a0_ (blk_below (g := gb770) (o := .cells #[.string t765, .int .i64 t766, .slice Ao41 t767.length co41] 42 (0, 0)) (put3_ BK770.out) hb); replace HB := a0_ (below_step bq1_ hb); (try clear hb); (try clear hb2); (try clear hk); (try clear hi)))
  replace HO763 := a0_ (Kd.R_drew HO763.out)
  replace HO769 := a0_ (Kd.R_drew HO769.out)
  replace BK757 := a0_ (blk_drew BK757.out)
  replace BK770 := a0_ (blk_drew BK770.out)
  replace HB := a0_ (below_drew1 HB.out)
  refine start_ (n := 5) (S := fun w' => w'.cell? ⟨gb770, 0, none⟩ = some (.string t765) ∧ w'.cell? ⟨gb770, 1, none⟩ = some (.int .i64 t766) ∧ w'.cell? ⟨gb770, 2, none⟩ = some (.slice Ao41 t767.length co41) ∧ w'.cell? ⟨gb757, 0, none⟩ = some (.string a0_0) ∧ w'.cell? ⟨gb757, 1, none⟩ = some (.int .i64 a0_1) ∧ w'.cell? ⟨gb757, 2, none⟩ = some (.slice A0_2 l0_2.length c0_2)) (ds := []) #[false, false, false, false, false] (by kernel_rfl) rfl rfl ⟨(blk_cell BK770.out 0).trans rfl, (blk_cell BK770.out 1).trans rfl, (blk_cell BK770.out 2).trans rfl, (blk_cell BK757.out 0).trans rfl, (blk_cell BK757.out 1).trans rfl, (blk_cell BK757.out 2).trans rfl⟩ (fun hHeld => ?_)
  generalize w42.drew = w43 at HO763 HO769 BK757 BK770 HB hHeld ⊢
  refine take_ (i := 0) (N := some 22) (v := ?_) (a' := ?_) #[true, false, false, false, false] rfl rfl (by kernel_rfl) (fun _ _ _ h => h) (Or.inl ⟨by rfl, ?_⟩) hHeld ?_ ?_
  rotate_left
  · rintro w' ⟨s0, s1, s2, s3, s4, s5⟩
    go_simp
    with_reducible rfl
  rotate_left
  · simp only [Act.put, List.setIfInBounds_toArray, List.set_cons_zero, List.set_cons_succ, i64_w, i32_w]
    rfl
  refine take_ (i := 1) (N := some 23) (v := ?_) (a' := ?_) #[true, true, false, false, false] rfl rfl (by kernel_rfl) (fun _ _ _ h => h) (Or.inl ⟨by rfl, ?_⟩) hHeld ?_ ?_
  rotate_left
  · rintro w' ⟨s0, s1, s2, s3, s4, s5⟩
    go_simp
    with_reducible rfl
  rotate_left
  · simp only [Act.put, List.setIfInBounds_toArray, List.set_cons_zero, List.set_cons_succ, i64_w, i32_w]
    rfl
  refine one_ (i := 2) (N := some 24) #[true, true, true, false, false] rfl rfl (by kernel_rfl) (by decide) (fun K hK => ?_)
  refine goes_ Tryz.func34 (by kernel_rfl) rfl #[.agg #[.string a0_0, .int .i64 a0_1, .slice A0_2 l0_2.length c0_2]] (by rfl) rfl rfl argsS_ ?_
  with_reducible refine (laws_toZone.calls k a0_0 a0_1 _ _ l0_2 t772 t773 t774 _ ?side1 ?side2 A26.out).mono ?_
  (case side1 => exact kC_ HR0_2.out HB.out)
  (case side2 => exact HC0_2.out)
  rintro e w44 ⟨v775, rfl, ho0, hb⟩
  refine ⟨_, rfl, ?_⟩
  have n0_ := a0_ (Kd.R_elder' (kR_ HO763.out) (Kd.R_base ho0) hb)
  have n1_ := a0_ (Kd.R_elder' (kR_ HO769.out) (Kd.R_base ho0) hb)
  have n2_ := a0_ (Kd.R_lower (Kd.R_new' (Kd.R_new' ho0 (Kd.R_lt (kR_ HO763.out))) (Kd.R_lt (kR_ HO769.out))) (below_size bq1_))
  have n3_ := a0_ (bkB_ BK757 hb)
  have n4_ := a0_ (bkB_ BK770 hb)
  have n5_ := a0_ (below_step bq1_ hb)
  clear HO763
  clear HO769
  clear BK757
  clear BK770
  clear HB
  have HO763 := n0_
  have HO769 := n1_
  have HO776 := n2_
  have BK757 := n3_
  have BK770 := n4_
  have HB := n5_
  clear n0_ n1_ n2_ n3_ n4_ n5_
  (try clear hb)
  (try clear hb2)
  (try clear hk)
  (try clear hi)
  (try clear ho0)
  obtain ⟨Ao45, co45, eo45⟩ := Kd.R_slice HO776.out
  (first | subst eo45 | (injection eo45 with f1_ f2_ f3_; have f4_ := f1_.symm; have f5_ := f3_.symm; clear f1_ f2_ f3_; subst f4_; subst f5_))
  refine hK.out _ _ ⟨(blk_cell BK770.out 0).trans rfl, (blk_cell BK770.out 1).trans rfl, (blk_cell BK770.out 2).trans rfl, (blk_cell BK757.out 0).trans rfl, (blk_cell BK757.out 1).trans rfl, (blk_cell BK757.out 2).trans rfl⟩ (fun hHeld => ?_)
  clear hK K
  refine normS_ ?_
  refine one_ (i := 3) (N := some 25) #[true, true, true, true, false] rfl rfl (by kernel_rfl) (by decide) (fun K hK => ?_)
  refine goes_ Tryz.func27 (by kernel_rfl) rfl #[.agg #[.string t765, .int .i64 t766, .slice Ao41 t767.length co41], .agg #[.string t772, .int .i64 t773, .slice Ao45 t774.length co45]] (by rfl) rfl rfl argsS_ ?_
  with_reducible refine (laws_eqZone.calls k t765 t766 _ _ t767 t772 t773 _ _ t774 true _ ?side1 ?side2 ?side3 ?side4 A27.out).mono ?_
  (case side1 => exact kD_ (Kd.R_reads' HO769.out).2.2)
  (case side2 => exact (Kd.R_reads' HO769.out).2.1)
  (case side3 => exact kD_ (Kd.R_reads' HO776.out).2.2)
  (case side4 => exact (Kd.R_reads' HO776.out).2.1)
  rintro e w46 ⟨rfl, hb⟩
  refine ⟨_, rfl, ?_⟩
  replace HO763 := a0_ (Kd.R_below (kR_ HO763.out) hb)
  replace HO769 := a0_ (Kd.R_below (kR_ HO769.out) hb)
  replace HO776 := a0_ (Kd.R_below (kR_ HO776.out) hb)
  replace BK757 := a0_ (bkB_ BK757 hb)
  replace BK770 := a0_ (bkB_ BK770 hb)
  replace HB := a0_ (below_step bq1_ hb)
  (try clear hb)
  (try clear hb2)
  (try clear hk)
  (try clear hi)
  refine hK.out _ _ ⟨(blk_cell BK770.out 0).trans rfl, (blk_cell BK770.out 1).trans rfl, (blk_cell BK770.out 2).trans rfl, (blk_cell BK757.out 0).trans rfl, (blk_cell BK757.out 1).trans rfl, (blk_cell BK757.out 2).trans rfl⟩ (fun hHeld => ?_)
  clear hK K
  refine normS_ ?_
  refine pure_ (i := 4) (N := some 26) (v := ?_) (a' := ?_) #[true, true, true, true, true] rfl rfl (by kernel_rfl) (fun _ _ _ h => h) (Or.inl ⟨by rfl, ?_⟩) ?_ ?_
  rotate_left
  · intro w'
    go_simp
    with_reducible rfl
  rotate_left
  · simp only [Act.put, List.setIfInBounds_toArray, List.set_cons_zero, List.set_cons_succ, i64_w, i32_w]
    rfl
  refine done_ (by kernel_rfl) ?_
  try go_wp2
  go_ret
  exact ⟨rr_, bq1_⟩
 replace c28 := Bool.eq_false_iff.mpr c28
 subst c28
 have H1 : (some false) = some r := by rw [if_neg (show ¬ (false = true) by decide)] at H; exact H
 clear H
 have H := H1
 clear H1
 obtain rfl := Option.some.inj H
 go_enter Tryz.func7, Tryz.ntmps7
 try go_wp2_with (first | ((with_reducible refine gate_dst (N := 1) rfl ?_); refine boxS_ 1 #[.string a0_0, .int .i64 a0_1, .slice A0_2 l0_2.length c0_2] 51 (fun gb757 hg w47 hbox hb => ?_); have n0_ := a0_ (below_step bq0_ hb); have n1_ := a0_ (hbox); have n2_ := a0_ (gw_ hg : w.heap.size ≤ gb757); have n3_ := n2_; clear HB; have HB := n0_; have BK757 := n1_; have GW757 := n2_; have GE757 := n3_; clear n0_ n1_ n2_ n3_; clear hb hbox hg; obtain ⟨z48_0, z48_1, z48_2, q48_0, q48_1, q48_2⟩ := bk3_ BK757.out) | ((with_reducible refine gate_callee (f := 32) rfl ?_); refine goesL_ (some 9) rfl rfl Tryz.func32 (by kernel_rfl) rfl #[.agg #[.string a0_0, .int .i64 a0_1, .slice A0_2 l0_2.length c0_2], .int .i64 1048576] rfl argsS_ ?_; (with_reducible refine (laws_szZone.calls k a0_0 a0_1 _ _ l0_2 1048576 t758 _ ?side1 ?side2 A2.out).mono ?_); (case side1 => exact kC_ HR0_2.out HB.out); (case side2 => exact HC0_2.out); rintro e w49 ⟨rfl, hb⟩; refine ⟨_, rfl, ?_⟩; replace BK757 := a0_ (bkB_ BK757 hb); replace HB := a0_ (below_step bq1_ hb); (try clear hb); (try clear hb2); (try clear hk); (try clear hi); obtain ⟨z50_0, z50_1, z50_2, q50_0, q50_1, q50_2⟩ := bk3_ BK757.out) | ((with_reducible refine gate_callee (f := 34) rfl ?_); refine goesL_ (some 13) rfl rfl Tryz.func34 (by kernel_rfl) rfl #[.agg #[.string a0_0, .int .i64 a0_1, .slice A0_2 l0_2.length c0_2]] rfl argsS_ ?_; (with_reducible refine (laws_toZone.calls k a0_0 a0_1 _ _ l0_2 t759 t760 t761 _ ?side1 ?side2 A7.out).mono ?_); (case side1 => exact kC_ HR0_2.out HB.out); (case side2 => exact HC0_2.out); rintro e w51 ⟨v762, rfl, ho0, hb⟩; refine ⟨_, rfl, ?_⟩; have HO763 := a0_ (Kd.R_lower ho0 (below_size bq1_)); replace BK757 := a0_ (bkB_ BK757 hb); replace HB := a0_ (below_step bq1_ hb); (try clear hb); (try clear hb2); (try clear hk); (try clear hi); (try clear ho0); obtain ⟨Ao52, co52, eo52⟩ := Kd.R_slice HO763.out; subst eo52) | ((with_reducible refine gate_callee (f := 33) rfl ?_); refine goesL_ (some 14) rfl rfl Tryz.func33 (by kernel_rfl) rfl #[.agg #[.string t759, .int .i64 t760, .slice Ao52 t761.length co52]] rfl argsS_ ?_; (with_reducible refine (spec_GoodZone.calls k t759 t760 _ _ t761 t764 _ ?side1 ?side2 A8.out).mono ?_); (case side1 => exact kD_ (Kd.R_reads' HO763.out).2.2); (case side2 => exact (Kd.R_reads' HO763.out).2.1); rintro e w53 ⟨rfl, hb⟩; refine ⟨_, rfl, ?_⟩; replace HO763 := a0_ (Kd.R_below (kR_ HO763.out) hb); replace BK757 := a0_ (bkB_ BK757 hb); replace HB := a0_ (below_step bq1_ hb); (try clear hb); (try clear hb2); (try clear hk); (try clear hi); obtain ⟨z54_0, z54_1, z54_2, q54_0, q54_1, q54_2⟩ := bk3_ BK757.out) | ((with_reducible refine gate_callee (f := 34) rfl ?_); refine goesL_ (some 16) rfl rfl Tryz.func34 (by kernel_rfl) rfl #[.agg #[.string a0_0, .int .i64 a0_1, .slice A0_2 l0_2.length c0_2]] rfl argsS_ ?_; (with_reducible refine (laws_toZone.calls k a0_0 a0_1 _ _ l0_2 t765 t766 t767 _ ?side1 ?side2 A9.out).mono ?_); (case side1 => exact kC_ HR0_2.out HB.out); (case side2 => exact HC0_2.out); rintro e w55 ⟨v768, rfl, ho0, hb⟩; refine ⟨_, rfl, ?_⟩; have n0_ := a0_ (Kd.R_elder' (kR_ HO763.out) (Kd.R_base ho0) hb); have n1_ := a0_ (Kd.R_lower (Kd.R_new' ho0 (Kd.R_lt (kR_ HO763.out))) (below_size bq1_)); have n2_ := a0_ (bkB_ BK757 hb); have n3_ := a0_ (below_step bq1_ hb); clear HO763; clear BK757; clear HB; have HO763 := n0_; have HO769 := n1_; have BK757 := n2_; have HB := n3_; clear n0_ n1_ n2_ n3_; (try clear hb); (try clear hb2); (try clear hk); (try clear hi); (try clear ho0)) | ((with_reducible refine gate_dst (N := 5) rfl ?_); refine boxS_ 5 #[.string (⟨#[]⟩ : ByteArray), .int .i64 0, .slice none 0 0] 42 (fun gb770 hg w56 hbox hb => ?_); have n0_ := a0_ (Kd.R_below (kR_ HO763.out) hb); have n1_ := a0_ (Kd.R_below (kR_ HO769.out) hb); have n2_ := a0_ (bkB_ BK757 hb); have n3_ := a0_ (below_step bq1_ hb); have n4_ := a0_ (hbox); have n5_ := a0_ (gw_ hg (below_size bq1_) : w.heap.size ≤ gb770); have n6_ := n5_; have n7_ := a0_ ((by rw [hg]; exact Nat.ne_of_lt (blk_lt (g := gb757) (o := .cells #[.string a0_0, .int .i64 a0_1, .slice A0_2 l0_2.length c0_2] 51 (0, 0)) (kB_ BK757.out)) : gb757 ≠ gb770)); have n8_ := a0_ ((by rw [hg]; exact Nat.ne_of_gt (blk_lt (g := gb757) (o := .cells #[.string a0_0, .int .i64 a0_1, .slice A0_2 l0_2.length c0_2] 51 (0, 0)) (kB_ BK757.out)) : gb770 ≠ gb757)); clear HO763; clear HO769; clear BK757; clear HB; have HO763 := n0_; have HO769 := n1_; have BK757 := n2_; have HB := n3_; have BK770 := n4_; have GW770 := n5_; have GE770 := n6_; have NB757_770 := n7_; have NB770_757 := n8_; clear n0_ n1_ n2_ n3_ n4_ n5_ n6_ n7_ n8_; clear hb hbox hg; have hnb57 := NB770_757.out; have hnc57 := NB757_770.out; obtain ⟨z58_0, z58_1, z58_2, q58_0, q58_1, q58_2⟩ := bk3_ BK770.out; obtain ⟨Ao59, co59, eo59⟩ := Kd.R_slice HO769.out; subst eo59) | ((with_reducible refine gate_callee (f := 35) rfl ?_); refine goesL_ (some 18) rfl rfl Tryz.func35 (by kernel_rfl) rfl #[.agg #[.string t765, .int .i64 t766, .slice Ao59 t767.length co59]] rfl argsS_ ?_; (with_reducible refine (impl_GoodZone.calls k t765 t766 _ _ t767 t771 _ ?side1 ?side2 A10.out).mono ?_); (case side1 => refine (Kd.R_reads' (e := 72) (base := w.heap.size) (ok := fun k_ => (True ∧ some k_ ≠ (.slice Ao52 t761.length co52 : Value).ownBlock)) (n := t767.length) (c := co59) ?_).2.2; exact (kR_ (farR3_ HO769.out BK770.out))); (case side2 => exact (Kd.R_reads' HO769.out).2.1); rintro e w60 ⟨rfl, hb⟩; refine ⟨_, rfl, ?_⟩; replace HO763 := a0_ (Kd.R_below (kR_ (farR3_ HO763.out BK770.out)) hb); replace HO769 := a0_ (Kd.R_below (kR_ (farR3_ HO769.out BK770.out)) hb); replace BK757 := a0_ (blk_below (g := gb757) (o := .cells #[.string a0_0, .int .i64 a0_1, .slice A0_2 l0_2.length c0_2] 51 (0, 0)) (bfar3_ NB757_770.out BK757.out) hb); replace BK770 := a0_ (blk_below (g := gb770) (o := .cells #[.string t765, .int .i64 t766, .slice Ao59 t767.length co59] 42 (0, 0)) (put3_ BK770.out) hb); replace HB := a0_ (below_step bq1_ hb); (try clear hb); (try clear hb2); (try clear hk); (try clear hi)))
 replace HO763 := a0_ (Kd.R_drew HO763.out)
 replace HO769 := a0_ (Kd.R_drew HO769.out)
 replace BK757 := a0_ (blk_drew BK757.out)
 replace BK770 := a0_ (blk_drew BK770.out)
 replace HB := a0_ (below_drew1 HB.out)
 refine start_ (n := 5) (S := fun w' => w'.cell? ⟨gb770, 0, none⟩ = some (.string t765) ∧ w'.cell? ⟨gb770, 1, none⟩ = some (.int .i64 t766) ∧ w'.cell? ⟨gb770, 2, none⟩ = some (.slice Ao59 t767.length co59) ∧ w'.cell? ⟨gb757, 0, none⟩ = some (.string a0_0) ∧ w'.cell? ⟨gb757, 1, none⟩ = some (.int .i64 a0_1) ∧ w'.cell? ⟨gb757, 2, none⟩ = some (.slice A0_2 l0_2.length c0_2)) (ds := []) #[false, false, false, false, false] (by kernel_rfl) rfl rfl ⟨(blk_cell BK770.out 0).trans rfl, (blk_cell BK770.out 1).trans rfl, (blk_cell BK770.out 2).trans rfl, (blk_cell BK757.out 0).trans rfl, (blk_cell BK757.out 1).trans rfl, (blk_cell BK757.out 2).trans rfl⟩ (fun hHeld => ?_)
 generalize w60.drew = w61 at HO763 HO769 BK757 BK770 HB hHeld ⊢
 refine take_ (i := 0) (N := some 22) (v := ?_) (a' := ?_) #[true, false, false, false, false] rfl rfl (by kernel_rfl) (fun _ _ _ h => h) (Or.inl ⟨by rfl, ?_⟩) hHeld ?_ ?_
 rotate_left
 · rintro w' ⟨s0, s1, s2, s3, s4, s5⟩
   go_simp
   with_reducible rfl
 rotate_left
 · simp only [Act.put, List.setIfInBounds_toArray, List.set_cons_zero, List.set_cons_succ, i64_w, i32_w]
   rfl
 refine take_ (i := 1) (N := some 23) (v := ?_) (a' := ?_) #[true, true, false, false, false] rfl rfl (by kernel_rfl) (fun _ _ _ h => h) (Or.inl ⟨by rfl, ?_⟩) hHeld ?_ ?_
 rotate_left
 · rintro w' ⟨s0, s1, s2, s3, s4, s5⟩
   go_simp
   with_reducible rfl
 rotate_left
 · simp only [Act.put, List.setIfInBounds_toArray, List.set_cons_zero, List.set_cons_succ, i64_w, i32_w]
   rfl
 refine one_ (i := 2) (N := some 24) #[true, true, true, false, false] rfl rfl (by kernel_rfl) (by decide) (fun K hK => ?_)
 refine goes_ Tryz.func34 (by kernel_rfl) rfl #[.agg #[.string a0_0, .int .i64 a0_1, .slice A0_2 l0_2.length c0_2]] (by rfl) rfl rfl argsS_ ?_
 with_reducible refine (laws_toZone.calls k a0_0 a0_1 _ _ l0_2 t772 t773 t774 _ ?side1 ?side2 A26.out).mono ?_
 (case side1 => exact kC_ HR0_2.out HB.out)
 (case side2 => exact HC0_2.out)
 rintro e w62 ⟨v775, rfl, ho0, hb⟩
 refine ⟨_, rfl, ?_⟩
 have n0_ := a0_ (Kd.R_elder' (kR_ HO763.out) (Kd.R_base ho0) hb)
 have n1_ := a0_ (Kd.R_elder' (kR_ HO769.out) (Kd.R_base ho0) hb)
 have n2_ := a0_ (Kd.R_lower (Kd.R_new' (Kd.R_new' ho0 (Kd.R_lt (kR_ HO763.out))) (Kd.R_lt (kR_ HO769.out))) (below_size bq1_))
 have n3_ := a0_ (bkB_ BK757 hb)
 have n4_ := a0_ (bkB_ BK770 hb)
 have n5_ := a0_ (below_step bq1_ hb)
 clear HO763
 clear HO769
 clear BK757
 clear BK770
 clear HB
 have HO763 := n0_
 have HO769 := n1_
 have HO776 := n2_
 have BK757 := n3_
 have BK770 := n4_
 have HB := n5_
 clear n0_ n1_ n2_ n3_ n4_ n5_
 (try clear hb)
 (try clear hb2)
 (try clear hk)
 (try clear hi)
 (try clear ho0)
 obtain ⟨Ao63, co63, eo63⟩ := Kd.R_slice HO776.out
 (first | subst eo63 | (injection eo63 with f1_ f2_ f3_; have f4_ := f1_.symm; have f5_ := f3_.symm; clear f1_ f2_ f3_; subst f4_; subst f5_))
 refine hK.out _ _ ⟨(blk_cell BK770.out 0).trans rfl, (blk_cell BK770.out 1).trans rfl, (blk_cell BK770.out 2).trans rfl, (blk_cell BK757.out 0).trans rfl, (blk_cell BK757.out 1).trans rfl, (blk_cell BK757.out 2).trans rfl⟩ (fun hHeld => ?_)
 clear hK K
 refine normS_ ?_
 refine one_ (i := 3) (N := some 25) #[true, true, true, true, false] rfl rfl (by kernel_rfl) (by decide) (fun K hK => ?_)
 refine goes_ Tryz.func27 (by kernel_rfl) rfl #[.agg #[.string t765, .int .i64 t766, .slice Ao59 t767.length co59], .agg #[.string t772, .int .i64 t773, .slice Ao63 t774.length co63]] (by rfl) rfl rfl argsS_ ?_
 with_reducible refine (laws_eqZone.calls k t765 t766 _ _ t767 t772 t773 _ _ t774 false _ ?side1 ?side2 ?side3 ?side4 A27.out).mono ?_
 (case side1 => exact kD_ (Kd.R_reads' HO769.out).2.2)
 (case side2 => exact (Kd.R_reads' HO769.out).2.1)
 (case side3 => exact kD_ (Kd.R_reads' HO776.out).2.2)
 (case side4 => exact (Kd.R_reads' HO776.out).2.1)
 rintro e w64 ⟨rfl, hb⟩
 refine ⟨_, rfl, ?_⟩
 replace HO763 := a0_ (Kd.R_below (kR_ HO763.out) hb)
 replace HO769 := a0_ (Kd.R_below (kR_ HO769.out) hb)
 replace HO776 := a0_ (Kd.R_below (kR_ HO776.out) hb)
 replace BK757 := a0_ (bkB_ BK757 hb)
 replace BK770 := a0_ (bkB_ BK770 hb)
 replace HB := a0_ (below_step bq1_ hb)
 (try clear hb)
 (try clear hb2)
 (try clear hk)
 (try clear hi)
 refine hK.out _ _ ⟨(blk_cell BK770.out 0).trans rfl, (blk_cell BK770.out 1).trans rfl, (blk_cell BK770.out 2).trans rfl, (blk_cell BK757.out 0).trans rfl, (blk_cell BK757.out 1).trans rfl, (blk_cell BK757.out 2).trans rfl⟩ (fun hHeld => ?_)
 clear hK K
 refine normS_ ?_
 refine pure_ (i := 4) (N := some 26) (v := ?_) (a' := ?_) #[true, true, true, true, true] rfl rfl (by kernel_rfl) (fun _ _ _ h => h) (Or.inl ⟨by rfl, ?_⟩) ?_ ?_
 rotate_left
 · intro w'
   go_simp
   with_reducible rfl
 rotate_left
 · simp only [Act.put, List.setIfInBounds_toArray, List.set_cons_zero, List.set_cons_succ, i64_w, i32_w]
   rfl
 refine done_ (by kernel_rfl) ?_
 try go_wp2
 go_ret
 exact ⟨rr_, bq1_⟩
end Go.Proofs.YtkpkfallgjdkmaaGreatDoor.P
namespace Go.Proofs.YtkpkfallgjdkmaaGreatDoor.Pure
open Go.RowKit Go.Proofs.YtkpkfallgjdkmaaGreatDoor.P Go.Proofs.YtkpkfallgjdkmaaGreatDoorW.PrintWords Go.Proofs.YtkpkfallgjdkmaaGreatDoorW.PrintLast Go.Proofs.YtkpkfallgjdkmaaGreatDoorW.PrintMore
set_option linter.unusedVariables false
set_option linter.unusedSimpArgs false
theorem num_it (n : Int) (h0 : 0 ≤ n) (h1 : n < 9223372036854775807) : Ev (fun k => spec_l1Num.f k n) (itB n) := by
 have := num_ev n.toNat n.toNat (Nat.le_refl _) (by omega)
 rwa [show ((n.toNat : Nat) : Int) = n by omega] at this
theorem itoa_it (n : Int) (h0 : 0 ≤ n) (h1 : n < 9223372036854775807) : strconv_Itoa.f n = some (itB n) := by
 unfold strconv_Itoa.f itB Lib.itoa
 rw [if_pos (by omega), if_neg (by omega)]
 rfl
/-- The serial of a counter, as a text. -/
def serT (c : Int) : ByteArray := itB (Int.tmod c 4294967296)
theorem ser_range {c : Int} (h : 0 ≤ c) : 0 ≤ Int.tmod c 4294967296 ∧ Int.tmod c 4294967296 < 9223372036854775807 := by
 rw [Int.tmod_eq_emod_of_nonneg h]
 omega
theorem soa_ev (apex : ByteArray) (c : Int) (L : List ZRec) (h : 0 ≤ c) : Ev (fun k => spec_l6Soa.f k apex c L) (serT c) :=
 Ev.congr (fun k => rfl) (Ev.bind (num_it _ (ser_range h).1 (ser_range h).2) (Ev.now _))
theorem ser_impl (c : Int) (h : 0 ≤ c) : impl_serialText.f c = some (serT c) := by
 unfold impl_serialText.f
 rw [itoa_it _ (ser_range h).1 (ser_range h).2]
 rfl
theorem gz_loop (apex : ByteArray) (c : Int) (L : List ZRec) (hc : 0 ≤ c) (hL : L.length < 1099511627776) : ∀ (m i : Nat), i + m = L.length →
 Ev (fun k => spec_GoodZone.l0 k L (L.length : Int) (i : Int) apex c L) ((L.drop i).all fun r => !decide (r.f1 = 6) || decide (r.f3 = serT c))
 | 0, i, h => by
  rw [List.drop_of_length_le (by omega), List.all_nil]
  refine Ev.step (f := fun _ => some true) (fun k => ?_) (Ev.now _)
  show spec_GoodZone.l0 (k + 1) L (L.length : Int) (i : Int) apex c L = _
  rw [spec_GoodZone.l0, if_neg (by omega)]
 | m + 1, i, h => by
  have hi : i < L.length := by omega
  have ih := gz_loop apex c L hc hL m (i + 1) (by omega)
  have es : ∀ k, spec_GoodZone.l0 (k + 1) L (L.length : Int) (i : Int) apex c L = (if L[i].f1 = 6 then ((spec_l6Soa.f k apex c L).bind fun t750 => (if L[i].f3.toList = t750.toList then (spec_GoodZone.l0 k L (L.length : Int) ((i + 1 : Nat) : Int) apex c L) else (some false))) else (spec_GoodZone.l0 k L (L.length : Int) ((i + 1 : Nat) : Int) apex c L)) := fun k => by
   rw [spec_GoodZone.l0, if_pos (by omega), if_pos (by omega), if_pos (by omega), rdI L i hi, w64n (by omega)]
  rw [List.drop_eq_getElem_cons hi, List.all_cons]
  refine Ev.step es ?_
  by_cases h6 : L[i].f1 = 6
  · rw [decide_eq_true h6, Bool.not_true, Bool.false_or]
    simp only [if_pos h6]
    refine Ev.bind (soa_ev apex c L hc) ?_
    by_cases hs : L[i].f3 = serT c
    · rw [decide_eq_true hs, Bool.true_and]
      exact Ev.congr (fun k => if_pos ((tl_eq _ _).2 hs)) ih
    · rw [decide_eq_false hs, Bool.false_and]
      exact Ev.congr (fun k => if_neg (fun e => hs ((tl_eq _ _).1 e))) (Ev.now _)
  · rw [decide_eq_false h6, Bool.not_false, Bool.true_or, Bool.true_and]
    simp only [if_neg h6]
    exact ih
/-- No rule is broken: then there is one record of a serial, at the apex. -/
theorem soa_one {apex : ByteArray} {L : List ZRec} (h : ruleS apex L = 0) : (atL L apex 6).length = 1 ∧ ∀ r ∈ L, r.f1 = 6 → r.f0 = apex := by
 unfold ruleS at h
 by_cases h1 : (L.any fun r => !belowL (nmL r) apex.data.toList) = true
 · rw [if_pos h1] at h; cases h
 · rw [if_neg h1] at h
   by_cases h2 : soaW apex L ≠ 1
   · rw [if_pos h2] at h; cases h
   · have h3 : soaW apex L = 1 := Decidable.not_not.1 h2
     rw [soa_parts] at h3
     have h4 : (L.filter fun r => decide (r.f1 = 6) && decide (r.f0 ≠ apex)).length = 0 := by omega
     refine ⟨by omega, fun r hr h6 => ?_⟩
     apply Decidable.byContradiction
     intro hne
     have : r ∈ L.filter fun r => decide (r.f1 = 6) && decide (r.f0 ≠ apex) := List.mem_filter.2 ⟨hr, by simp [h6, hne]⟩
     rw [List.length_eq_zero_iff.1 h4] at this
     cases this
theorem soa_all {apex : ByteArray} {L : List ZRec} (h : ruleS apex L = 0) (T : ByteArray) : (L.all fun r => !decide (r.f1 = 6) || decide (r.f3 = T)) = (atL L apex 6).all fun r => decide (r.f3 = T) := by
 have h1 := (soa_one h).2
 rw [Bool.eq_iff_iff, List.all_eq_true, List.all_eq_true]
 unfold atL
 constructor
 · intro hh r hr
   obtain ⟨h2, h3⟩ := List.mem_filter.1 hr
   have h4 : r.f1 = 6 := by simpa using (Bool.and_eq_true_iff.1 h3).2
   have := hh r h2
   rw [decide_eq_true h4, Bool.not_true, Bool.false_or] at this
   exact this
 · intro hh r hr
   by_cases h6 : r.f1 = 6
   · rw [decide_eq_true h6, Bool.not_true, Bool.false_or]
     exact hh r (List.mem_filter.2 ⟨hr, by simp [h6, h1 r hr h6]⟩)
   · rw [decide_eq_false h6, Bool.not_false, Bool.true_or]
/-- A zone is good. -/
noncomputable def zoneB (apex : ByteArray) (c : Int) (L : List ZRec) : Bool := decide (0 ≤ c ∧ c ≤ 1152921504606846976) && (decide (ruleT apex L = 0) && (atL L apex 6).all fun r => decide (r.f3 = serT c))
theorem ruleT_zero {apex : ByteArray} {L : List ZRec} (h : ruleT apex L = 0) : wholeB apex L = true ∧ ruleS apex L = 0 := by
 unfold ruleT at h
 by_cases hw : wholeB apex L = true
 · rw [if_pos hw] at h; exact ⟨hw, h⟩
 · rw [if_neg hw] at h; cases h
theorem zone_both (apex : ByteArray) (c : Int) (L : List ZRec) (ha : apex.size ≤ 1048576) (hL : L.length ≤ 1048576) (hs : ∀ r ∈ L, Small r.f0 ∧ Small r.f3) : Ev (fun k => spec_GoodZone.f k apex c L) (zoneB apex c L) ∧ Ev (fun k => impl_GoodZone.f k apex c L) (zoneB apex c L) := by
 obtain ⟨r1, r2⟩ := rule_both apex L ha hL hs
 unfold zoneB
 constructor
 · refine Ev.congr (f := fun k => if decide (0 ≤ c ∧ c ≤ 1152921504606846976) = true then ((spec_RuleOf.f k apex L).bind fun t747 => (spec_GoodZone.j0 k (t747 != 0) apex c L)) else (spec_GoodZone.j0 k true apex c L)) (fun k => by unfold spec_GoodZone.f; rw [within_spec, Option.bind_some]) ?_
   have jb : Ev (fun k => spec_GoodZone.j0 k true apex c L) false := Ev.step (f := fun _ => some false) (fun k => by rw [spec_GoodZone.j0, if_pos rfl]) (Ev.now _)
   by_cases hc : 0 ≤ c ∧ c ≤ 1152921504606846976
   · simp only [decide_eq_true hc, if_true, Bool.true_and]
     refine Ev.bind r1 ?_
     by_cases h0 : ruleT apex L = 0
     · rw [decide_eq_true h0, Bool.true_and, ← soa_all (ruleT_zero h0).2, show (ruleT apex L != 0) = false from bne_eq_false_iff_eq.mpr h0]
       have := gz_loop apex c L hc.1 (by omega) L.length 0 (by omega)
       rw [List.drop_zero] at this
       exact Ev.step (fun k => by rw [spec_GoodZone.j0, if_neg (by decide)]; rfl) this
     · rw [decide_eq_false h0, Bool.false_and, show (ruleT apex L != 0) = true from bne_iff_ne.mpr h0]
       exact jb
   · simp only [decide_eq_false hc, Bool.false_eq_true, if_false, Bool.false_and]
     exact jb
 · have hcnt : impl_isCounter.f c = some (decide (0 ≤ c ∧ c ≤ 1152921504606846976)) := by
    unfold impl_isCounter.f
    rw [within_eq]
    rfl
   refine Ev.congr (f := fun k => if decide (0 ≤ c ∧ c ≤ 1152921504606846976) = true then ((impl_RuleOf.f k apex L).bind fun t618 => (if t618 = 0 then ((impl_at.f k L apex 6).bind fun t619 => (if 0 < (t619.length : Int) then ((impl_serialText.f c).bind fun t623 => (some (((rd_T72 t619 0).f3).toList == t623.toList))) else (none))) else (some false))) else (some false)) (fun k => by unfold impl_GoodZone.f; rw [hcnt, Option.bind_some]) ?_
   by_cases hc : 0 ≤ c ∧ c ≤ 1152921504606846976
   · simp only [decide_eq_true hc, if_true, Bool.true_and]
     refine Ev.bind r2 ?_
     by_cases h0 : ruleT apex L = 0
     · simp only [if_pos h0, decide_eq_true h0, Bool.true_and]
       have h1 := (soa_one (ruleT_zero h0).2).1
       refine Ev.bind (at_ev apex 6 L hL) ?_
       obtain ⟨x, hx⟩ := List.length_eq_one_iff.1 h1
       rw [hx, ser_impl c hc.1]
       simp only [Option.bind_some, if_pos (show (0 : Int) < (([x] : List ZRec).length : Int) by rw [List.length_singleton]; decide), List.all_cons, List.all_nil, Bool.and_true]
       rw [show rd_T72 [x] 0 = x from rfl]
       have e : (x.f3.toList == (serT c).toList) = decide (x.f3 = serT c) := by
        rw [Bool.eq_iff_iff, beq_iff_eq, decide_eq_true_eq]; exact tl_eq _ _
       rw [e]
       exact Ev.now _
     · simp only [if_neg h0, decide_eq_false h0, Bool.false_and]
       exact Ev.now _
   · simp only [decide_eq_false hc, Bool.false_eq_true, if_false, Bool.false_and]
     exact Ev.now _
theorem szZ_ev (a : ByteArray) (c : Int) (l : List LRec) (ha : a.size ≤ maxLen) (hm : l.length ≤ maxLen) (hw : ∀ y ∈ l, y.f0.size ≤ maxLen ∧ y.f3.size ≤ maxLen) : ∃ t, Ev (fun k => laws_szZone.f k a c l 1048576) t ∧ (0 ≤ t → a.size ≤ 1048576 ∧ l.length ≤ 1048576 ∧ ∀ y ∈ l, Small y.f0 ∧ Small y.f3) := by
 have h2 : wrap64 (1048576 - (a.size : Int)) = 1048576 - (a.size : Int) := by simp only [maxLen] at ha; unfold wrap64; omega
 by_cases hn : 1048576 - (a.size : Int) < 0
 · refine ⟨-1, Ev.congr (f := fun _ => some (-1)) (fun k => ?_) (Ev.now _), fun h => absurd h (by omega)⟩
   unfold laws_szZone.f
   rw [h2, if_pos hn]
 · obtain ⟨t, e, q⟩ := szRS_ev l (1048576 - (a.size : Int)) (by omega) (by omega) hm hw
   have hf : ∀ k, laws_szZone.f k a c l 1048576 = ((laws_szRecordS.f k l (1048576 - (a.size : Int))).bind fun t735 => (if t735 < 0 then (some (-1)) else (some t735))) := fun k => by
    unfold laws_szZone.f
    rw [h2, if_neg hn]
   by_cases ht : t < 0
   · refine ⟨-1, Ev.congr hf (Ev.bind e ?_), fun h => absurd h (by omega)⟩
     simp only [if_pos ht]; exact Ev.now _
   · obtain ⟨q1, q2, q3⟩ := q (by omega)
     refine ⟨t, Ev.congr hf (Ev.bind e ?_), fun h => ⟨by omega, q2, q3⟩⟩
     simp only [if_neg ht]; exact Ev.now _
theorem toZ_ev (a : ByteArray) (c : Int) (l : List LRec) (hl : l.length ≤ 1048576) : Ev (fun k => laws_toZone.f k a c l) (a, c, l.map conv) := Ev.congr (fun k => rfl) (Ev.bind (toRS_ev l hl) (Ev.now _))
theorem eqZ_ev (a : ByteArray) (c : Int) (L : List IRec) (hl : L.length ≤ 1048576) : Ev (fun k => laws_eqZone.f k a c L a c L) true := by
 unfold laws_eqZone.f
 simp only [if_true]
 exact Ev.bind (eqRS_ev L hl) (Ev.now _)
theorem FnExactGoodZone : ∀ (a : ByteArray) (c : Int) (l : List LRec), a.size ≤ maxLen → l.length ≤ maxLen → (∀ y ∈ l, y.f0.size ≤ maxLen ∧ y.f3.size ≤ maxLen) → ∃ k, laws_FnExactGoodZone.f k a c l = some true := by
 intro a c l ha hm hw
 suffices h : Ev (fun k => laws_FnExactGoodZone.f k a c l) true from h.rounds
 obtain ⟨t, e, q⟩ := szZ_ev a c l ha hm hw
 refine Ev.congr (fun k => rfl) (Ev.bind e ?_)
 by_cases ht : t < 0
 · simp only [if_pos ht]; exact Ev.now _
 · obtain ⟨q1, q2, q3⟩ := q (by omega)
   have hl : (l.map conv).length ≤ 1048576 := by rw [List.length_map]; exact q2
   obtain ⟨r1, r2⟩ := zone_both a c (l.map conv) q1 hl (small_conv q3)
   have eT := toZ_ev a c l q2
   have eE := eqZ_ev a c (l.map conv) hl
   simp only [if_neg ht]
   refine Ev.bind eT (Ev.bind r1 (Ev.bind eT (Ev.bind r2 ?_)))
   simp only [bne_self_eq_false, Bool.false_eq_true, if_false]
   exact Ev.bind eT (Ev.bind eE (Ev.now _))
end Go.Proofs.YtkpkfallgjdkmaaGreatDoor.Pure
