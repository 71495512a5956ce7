/- FnExactNamesIn: part 13 of 30 of my texts for this claim, joined; the theorem stands in the last. Conditions: none beyond the statement's. -/
import Derived.Test.YtkpkfallgjdkmaaGreatDoorMFnExactNamesInx3
import Derived.Test.YtkpkfallgjdkmaaGreatDoorMFnExactNamesInx8
import Derived.Test.YtkpkfallgjdkmaaGreatDoorMFnExactNamesInx5
import Derived.Test.YtkpkfallgjdkmaaGreatDoorMFnExactNamesInx9
import Derived.Test.YtkpkfallgjdkmaaGreatDoorMFnExactNamesInx6
import Derived.Test.YtkpkfallgjdkmaaGreatDoorMFnExactNamesInx10
namespace Go.Proofs.YtkpkfallgjdkmaaGreatDoor.P
open Go.RowKit Go.Proofs.YtkpkfallgjdkmaaGreatDoorW.PrintWords Go.Proofs.YtkpkfallgjdkmaaGreatDoorW.PrintLast Go.Proofs.YtkpkfallgjdkmaaGreatDoorW.PrintMore
attribute [local go_sem] max2_int min2_int max_two min_two max_three min_three max_four min_four
set_option linter.unusedVariables false
set_option linter.unusedSimpArgs false
def laws_eqZone.f (k : Nat) (a0_0 : ByteArray) (a0_1 : Int) (l0_2 : List (S72)) (a1_0 : ByteArray) (a1_1 : Int) (l1_2 : List (S72)) : Option (Bool) := if a0_0.toList = a1_0.toList then (if a0_1 = a1_1 then ((laws_eqRecordS.f k l0_2 l1_2).bind fun t632 => (if t632 = true then (some true) else (some false))) else (some false)) else (some false)
set_option maxHeartbeats 8000000 in
set_option maxRecDepth 100000 in
theorem laws_eqZone.calls (k : Nat) (a0_0 : ByteArray) (a0_1 : Int) (A0_2 : Option Addr) (c0_2 : Nat) (l0_2 : List (S72)) (a1_0 : ByteArray) (a1_1 : Int) (A1_2 : Option Addr) (c1_2 : Nat) (l1_2 : List (S72)) (r : Bool) (w : World) (hr0_2 : Kd.C k72 w A0_2 l0_2.length l0_2) (hc0_2 : l0_2.length ≤ c0_2) (hr1_2 : Kd.C k72 w A1_2 l1_2.length l1_2) (hc1_2 : l1_2.length ≤ c1_2) (h : laws_eqZone.f k a0_0 a0_1 l0_2 a1_0 a1_1 l1_2 = some r) :
 Calls Tryz.prog 27 #[.agg #[.string a0_0, .int .i64 a0_1, .slice A0_2 l0_2.length c0_2], .agg #[.string a1_0, .int .i64 a1_1, .slice A1_2 l1_2.length c1_2]] w fun e w' => e = .returned (.bool r) ∧ Below w.heap.size w w' := by
 have hu42 := Tryz.underlying42
 have HR0_2 := a0_ hr0_2
 have HC0_2 := a0_ hc0_2
 clear hr0_2 hc0_2
 have HR1_2 := a0_ hr1_2
 have HC1_2 := a0_ hc1_2
 clear hr1_2 hc1_2
 have HB := a0_ (Below.refl w.heap.size w)
 have H : (if a0_0.toList = a1_0.toList then (if a0_1 = a1_1 then ((laws_eqRecordS.f k l0_2 l1_2).bind fun t632 => (if t632 = true then (some true) else (some false))) else (some false)) else (some false)) = some r := h
 clear h
 by_cases c3 : a0_0.toList = a1_0.toList
 case neg =>
  rw [if_neg c3] at H
  have c3b0 := beq_eq_false_iff_ne.mpr c3
  have c3b1 := bne_iff_ne.mpr c3
  obtain rfl := Option.some.inj H
  go_enter Tryz.func27, Tryz.ntmps27
  go_wp2_with (first | ((with_reducible refine gate_dst (N := 2) rfl ?_); refine boxS_ 2 #[.string a0_0, .int .i64 a0_1, .slice A0_2 l0_2.length c0_2] 42 (fun gb630 hg w24 hbox hb => ?_); have n0_ := a0_ (below_step bq0_ hb); have n1_ := a0_ (hbox); have n2_ := a0_ (gw_ hg : w.heap.size ≤ gb630); have n3_ := n2_; clear HB; have HB := n0_; have BK630 := n1_; have GW630 := n2_; have GE630 := n3_; clear n0_ n1_ n2_ n3_; clear hb hbox hg) | ((with_reducible refine gate_dst (N := 3) rfl ?_); refine boxS_ 3 #[.string a1_0, .int .i64 a1_1, .slice A1_2 l1_2.length c1_2] 42 (fun gb631 hg w25 hbox hb => ?_); have n0_ := a0_ (bkB_ BK630 hb); have n1_ := a0_ (below_step bq1_ hb); have n2_ := a0_ (hbox); have n3_ := a0_ (gw_ hg (below_size bq1_) : w.heap.size ≤ gb631); have n4_ := n3_; have n5_ := a0_ ((by rw [hg]; exact Nat.ne_of_lt (blk_lt (g := gb630) (o := .cells #[.string a0_0, .int .i64 a0_1, .slice A0_2 l0_2.length c0_2] 42 (0, 0)) (kB_ BK630.out)) : gb630 ≠ gb631)); have n6_ := a0_ ((by rw [hg]; exact Nat.ne_of_gt (blk_lt (g := gb630) (o := .cells #[.string a0_0, .int .i64 a0_1, .slice A0_2 l0_2.length c0_2] 42 (0, 0)) (kB_ BK630.out)) : gb631 ≠ gb630)); clear BK630; clear HB; have BK630 := n0_; have HB := n1_; have BK631 := n2_; have GW631 := n3_; have GE631 := n4_; have NB630_631 := n5_; have NB631_630 := n6_; clear n0_ n1_ n2_ n3_ n4_ n5_ n6_; clear hb hbox hg; have hnb26 := NB630_631.out; have hnc26 := NB631_630.out; obtain ⟨z27_0, z27_1, z27_2, q27_0, q27_1, q27_2⟩ := bk3_ BK630.out; obtain ⟨z28_0, z28_1, z28_2, q28_0, q28_1, q28_2⟩ := bk3_ BK631.out))
  go_ret
  exact ⟨rr_, bq1_⟩
 rw [if_pos c3] at H
 have c3b0 := beq_iff_eq.mpr c3
 have c3b1 := bne_eq_false_iff_eq.mpr c3
 clear c3
 by_cases c4 : a0_1 = a1_1
 case neg =>
  rw [if_neg c4] at H
  have c4b0 := beq_eq_false_iff_ne.mpr c4
  have c4b1 := bne_iff_ne.mpr c4
  obtain rfl := Option.some.inj H
  go_enter Tryz.func27, Tryz.ntmps27
  go_wp2_with (first | ((with_reducible refine gate_dst (N := 2) rfl ?_); refine boxS_ 2 #[.string a0_0, .int .i64 a0_1, .slice A0_2 l0_2.length c0_2] 42 (fun gb630 hg w19 hbox hb => ?_); have n0_ := a0_ (below_step bq0_ hb); have n1_ := a0_ (hbox); have n2_ := a0_ (gw_ hg : w.heap.size ≤ gb630); have n3_ := n2_; clear HB; have HB := n0_; have BK630 := n1_; have GW630 := n2_; have GE630 := n3_; clear n0_ n1_ n2_ n3_; clear hb hbox hg) | ((with_reducible refine gate_dst (N := 3) rfl ?_); refine boxS_ 3 #[.string a1_0, .int .i64 a1_1, .slice A1_2 l1_2.length c1_2] 42 (fun gb631 hg w20 hbox hb => ?_); have n0_ := a0_ (bkB_ BK630 hb); have n1_ := a0_ (below_step bq1_ hb); have n2_ := a0_ (hbox); have n3_ := a0_ (gw_ hg (below_size bq1_) : w.heap.size ≤ gb631); have n4_ := n3_; have n5_ := a0_ ((by rw [hg]; exact Nat.ne_of_lt (blk_lt (g := gb630) (o := .cells #[.string a0_0, .int .i64 a0_1, .slice A0_2 l0_2.length c0_2] 42 (0, 0)) (kB_ BK630.out)) : gb630 ≠ gb631)); have n6_ := a0_ ((by rw [hg]; exact Nat.ne_of_gt (blk_lt (g := gb630) (o := .cells #[.string a0_0, .int .i64 a0_1, .slice A0_2 l0_2.length c0_2] 42 (0, 0)) (kB_ BK630.out)) : gb631 ≠ gb630)); clear BK630; clear HB; have BK630 := n0_; have HB := n1_; have BK631 := n2_; have GW631 := n3_; have GE631 := n4_; have NB630_631 := n5_; have NB631_630 := n6_; clear n0_ n1_ n2_ n3_ n4_ n5_ n6_; clear hb hbox hg; have hnb21 := NB630_631.out; have hnc21 := NB631_630.out; obtain ⟨z22_0, z22_1, z22_2, q22_0, q22_1, q22_2⟩ := bk3_ BK630.out; obtain ⟨z23_0, z23_1, z23_2, q23_0, q23_1, q23_2⟩ := bk3_ BK631.out))
  go_ret
  exact ⟨rr_, bq1_⟩
 rw [if_pos c4] at H
 have c4b0 := beq_iff_eq.mpr c4
 have c4b1 := bne_eq_false_iff_eq.mpr c4
 clear c4
 obtain ⟨t632, A50, H⟩ := Option.bind_eq_some_iff.mp H
 have A5 := a0_ A50
 clear A50
 by_cases c6 : t632 = true
 case pos =>
  subst c6
  rw [if_pos rfl] at H
  obtain rfl := Option.some.inj H
  go_enter Tryz.func27, Tryz.ntmps27
  go_wp2_with (first | ((with_reducible refine gate_dst (N := 2) rfl ?_); refine boxS_ 2 #[.string a0_0, .int .i64 a0_1, .slice A0_2 l0_2.length c0_2] 42 (fun gb630 hg w7 hbox hb => ?_); have n0_ := a0_ (below_step bq0_ hb); have n1_ := a0_ (hbox); have n2_ := a0_ (gw_ hg : w.heap.size ≤ gb630); have n3_ := n2_; clear HB; have HB := n0_; have BK630 := n1_; have GW630 := n2_; have GE630 := n3_; clear n0_ n1_ n2_ n3_; clear hb hbox hg) | ((with_reducible refine gate_dst (N := 3) rfl ?_); refine boxS_ 3 #[.string a1_0, .int .i64 a1_1, .slice A1_2 l1_2.length c1_2] 42 (fun gb631 hg w8 hbox hb => ?_); have n0_ := a0_ (bkB_ BK630 hb); have n1_ := a0_ (below_step bq1_ hb); have n2_ := a0_ (hbox); have n3_ := a0_ (gw_ hg (below_size bq1_) : w.heap.size ≤ gb631); have n4_ := n3_; have n5_ := a0_ ((by rw [hg]; exact Nat.ne_of_lt (blk_lt (g := gb630) (o := .cells #[.string a0_0, .int .i64 a0_1, .slice A0_2 l0_2.length c0_2] 42 (0, 0)) (kB_ BK630.out)) : gb630 ≠ gb631)); have n6_ := a0_ ((by rw [hg]; exact Nat.ne_of_gt (blk_lt (g := gb630) (o := .cells #[.string a0_0, .int .i64 a0_1, .slice A0_2 l0_2.length c0_2] 42 (0, 0)) (kB_ BK630.out)) : gb631 ≠ gb630)); clear BK630; clear HB; have BK630 := n0_; have HB := n1_; have BK631 := n2_; have GW631 := n3_; have GE631 := n4_; have NB630_631 := n5_; have NB631_630 := n6_; clear n0_ n1_ n2_ n3_ n4_ n5_ n6_; clear hb hbox hg; have hnb9 := NB630_631.out; have hnc9 := NB631_630.out; obtain ⟨z10_0, z10_1, z10_2, q10_0, q10_1, q10_2⟩ := bk3_ BK630.out; obtain ⟨z11_0, z11_1, z11_2, q11_0, q11_1, q11_2⟩ := bk3_ BK631.out) | ((with_reducible refine gate_callee (f := 23) rfl ?_); refine goesL_ (some 19) rfl rfl Tryz.func23 (by kernel_rfl) rfl #[.slice A0_2 l0_2.length c0_2, .slice A1_2 l1_2.length c1_2] rfl argsS_ ?_; (with_reducible refine (laws_eqRecordS.calls k _ _ l0_2 _ _ l1_2 true _ ?side1 ?side2 ?side3 ?side4 A5.out).mono ?_); (case side1 => exact kC_ HR0_2.out HB.out); (case side2 => exact HC0_2.out); (case side3 => exact kC_ HR1_2.out HB.out); (case side4 => exact HC1_2.out); rintro e w12 ⟨rfl, hb⟩; refine ⟨_, rfl, ?_⟩; replace BK630 := a0_ (bkB_ BK630 hb); replace BK631 := a0_ (bkB_ BK631 hb); replace HB := a0_ (below_step bq1_ hb); (try clear hb); (try clear hb2); (try clear hk); (try clear hi)))
  go_ret
  exact ⟨rr_, bq1_⟩
 replace c6 := Bool.eq_false_iff.mpr c6
 subst c6
 rw [if_neg (show ¬ (false = true) by decide)] at H
 obtain rfl := Option.some.inj H
 go_enter Tryz.func27, Tryz.ntmps27
 go_wp2_with (first | ((with_reducible refine gate_dst (N := 2) rfl ?_); refine boxS_ 2 #[.string a0_0, .int .i64 a0_1, .slice A0_2 l0_2.length c0_2] 42 (fun gb630 hg w13 hbox hb => ?_); have n0_ := a0_ (below_step bq0_ hb); have n1_ := a0_ (hbox); have n2_ := a0_ (gw_ hg : w.heap.size ≤ gb630); have n3_ := n2_; clear HB; have HB := n0_; have BK630 := n1_; have GW630 := n2_; have GE630 := n3_; clear n0_ n1_ n2_ n3_; clear hb hbox hg) | ((with_reducible refine gate_dst (N := 3) rfl ?_); refine boxS_ 3 #[.string a1_0, .int .i64 a1_1, .slice A1_2 l1_2.length c1_2] 42 (fun gb631 hg w14 hbox hb => ?_); have n0_ := a0_ (bkB_ BK630 hb); have n1_ := a0_ (below_step bq1_ hb); have n2_ := a0_ (hbox); have n3_ := a0_ (gw_ hg (below_size bq1_) : w.heap.size ≤ gb631); have n4_ := n3_; have n5_ := a0_ ((by rw [hg]; exact Nat.ne_of_lt (blk_lt (g := gb630) (o := .cells #[.string a0_0, .int .i64 a0_1, .slice A0_2 l0_2.length c0_2] 42 (0, 0)) (kB_ BK630.out)) : gb630 ≠ gb631)); have n6_ := a0_ ((by rw [hg]; exact Nat.ne_of_gt (blk_lt (g := gb630) (o := .cells #[.string a0_0, .int .i64 a0_1, .slice A0_2 l0_2.length c0_2] 42 (0, 0)) (kB_ BK630.out)) : gb631 ≠ gb630)); clear BK630; clear HB; have BK630 := n0_; have HB := n1_; have BK631 := n2_; have GW631 := n3_; have GE631 := n4_; have NB630_631 := n5_; have NB631_630 := n6_; clear n0_ n1_ n2_ n3_ n4_ n5_ n6_; clear hb hbox hg; have hnb15 := NB630_631.out; have hnc15 := NB631_630.out; obtain ⟨z16_0, z16_1, z16_2, q16_0, q16_1, q16_2⟩ := bk3_ BK630.out; obtain ⟨z17_0, z17_1, z17_2, q17_0, q17_1, q17_2⟩ := bk3_ BK631.out) | ((with_reducible refine gate_callee (f := 23) rfl ?_); refine goesL_ (some 19) rfl rfl Tryz.func23 (by kernel_rfl) rfl #[.slice A0_2 l0_2.length c0_2, .slice A1_2 l1_2.length c1_2] rfl argsS_ ?_; (with_reducible refine (laws_eqRecordS.calls k _ _ l0_2 _ _ l1_2 false _ ?side1 ?side2 ?side3 ?side4 A5.out).mono ?_); (case side1 => exact kC_ HR0_2.out HB.out); (case side2 => exact HC0_2.out); (case side3 => exact kC_ HR1_2.out HB.out); (case side4 => exact HC1_2.out); rintro e w18 ⟨rfl, hb⟩; refine ⟨_, rfl, ?_⟩; replace BK630 := a0_ (bkB_ BK630 hb); replace BK631 := a0_ (bkB_ BK631 hb); replace HB := a0_ (below_step bq1_ hb); (try clear hb); (try clear hb2); (try clear hk); (try clear hi)))
 go_ret
 exact ⟨rr_, bq1_⟩
def laws_markZone.f (k : Nat) (a0_0 : ByteArray) (a0_1 : Int) (l0_2 : List (S72)) (a1 : Int) : Option (Int × (List (S72))) := (laws_markRecordS.f k l0_2 a1).bind fun bt634 => (some (bt634.1, bt634.2))
set_option maxHeartbeats 8000000 in
set_option maxRecDepth 100000 in
theorem laws_markZone.calls (k : Nat) (a0_0 : ByteArray) (a0_1 : Int) (P0_2_ : Nat → Prop) (u9000_ : Value) (l0_2 : List (S72)) (a1 : Int) (r1 : Int) (r2 : List (S72)) (w0 w : World) (hB : Below w0.heap.size w0 w) (ho0_2 : Kd.R k72 72 w w0.heap.size P0_2_ u9000_ l0_2) (h : laws_markZone.f k a0_0 a0_1 l0_2 a1 = some (r1, r2)) :
 Calls Tryz.prog 28 #[.agg #[.string a0_0, .int .i64 a0_1, u9000_], .int .i64 a1] w fun e w' => e = .returned (.int .i64 r1) ∧ Kd.R k72 72 w' w0.heap.size (fun k_ => (P0_2_ k_ ∨ w.heap.size ≤ k_)) u9000_ r2 ∧ Below w0.heap.size w0 w' ∧ Kept w w' (fun k_ => P0_2_ k_) := by
 have hu42 := Tryz.underlying42
 have HO0_2 := a0_ (show Kd.R k72 72 w w0.heap.size (fun k_ => (P0_2_ k_ ∨ w.heap.size ≤ k_)) u9000_ l0_2 from Kd.R_mono ho0_2 (fun k_ hk => (.inl hk)))
 have HK := a0_ (Kept.refl w (fun k_ => P0_2_ k_))
 have HW0 := a0_ hB.size
 have HB := a0_ hB
 clear hB
 have H : ((laws_markRecordS.f k l0_2 a1).bind fun bt634 => (some (bt634.1, bt634.2))) = some (r1, r2) := h
 clear h
 obtain ⟨⟨t634, t635⟩, A30, H⟩ := Option.bind_eq_some_iff.mp H
 have A3 := a0_ A30
 clear A30
 simp only [Option.some.injEq, Prod.mk.injEq] at H
 obtain ⟨rfl, rfl⟩ := H
 obtain ⟨Ao4, co4, eo4⟩ := Kd.R_slice HO0_2.out
 subst eo4
 go_enter Tryz.func28, Tryz.ntmps28
 go_wp2_with (first | ((with_reducible refine gate_dst (N := 2) rfl ?_); refine boxS_ 2 #[.string a0_0, .int .i64 a0_1, .slice Ao4 l0_2.length co4] 42 (fun gb633 hg w5 hbox hb => ?_); have n0_ := a0_ (Kd.R_below (kR_ HO0_2.out) hb); have n1_ := a0_ (Kept.below (S := (fun k_ => P0_2_ k_)) (by repeat (first | (with_reducible first | exact HK.out | apply Kept.alloc | apply Kept.drewN | apply Kept.drew) | exact HK.out)) hb); have n2_ := a0_ (below_step bq0_ hb); have n3_ := a0_ (hbox); have n4_ := a0_ ((by rw [hg]; exact (by first | exact HK.out.1 | exact (show Kept w _ (fun k_ => P0_2_ k_) from by repeat (first | (with_reducible first | exact HK.out | apply Kept.alloc | apply Kept.drewN | apply Kept.drew) | exact HK.out)).1) : w.heap.size ≤ gb633)); have n5_ := a0_ ((by rw [hg]; exact (below_size bq0_) : w0.heap.size ≤ gb633)); clear HO0_2; clear HK; clear HB; have HO0_2 := n0_; have HK := n1_; have HB := n2_; have BK633 := n3_; have GW633 := n4_; have GE633 := n5_; clear n0_ n1_ n2_ n3_ n4_ n5_; clear hb hbox hg; obtain ⟨z6_0, z6_1, z6_2, q6_0, q6_1, q6_2⟩ := bk3_ BK633.out) | ((with_reducible refine gate_callee (f := 24) rfl ?_); refine goesL_ (some 8) rfl rfl Tryz.func24 (by kernel_rfl) rfl #[.slice Ao4 l0_2.length co4, .int .i64 a1] rfl argsS_ ?_; (with_reducible refine (laws_markRecordS.calls k (fun k_ => some k_ = (.slice Ao4 l0_2.length co4 : Value).ownBlock) (.slice Ao4 l0_2.length co4) l0_2 a1 t634 t635 w0 _ ?side1 ?side2 A3.out).mono ?_); (case side1 => repeat (first | (with_reducible first | exact HB.out | apply below_alloc | apply pw_below_drewN | apply below_drew1 | refine below_set ?_ GE633.out) | exact HB.out)); (case side2 => exact Kd.R_tight rfl HO0_2.out); rintro e w7 ⟨rfl, hy0, hb, hkp⟩; refine ⟨_, rfl, ?_⟩; have n0_ := a0_ (Kd.R_reok rfl hy0 (fun k_ e_ => HO0_2.out.1 k_ e_)); have n1_ := a0_ (blk_kept (kB_ BK633.out) hkp (fun hs_ => (fun e_ => (Kd.R_ne HO0_2.out BK633.out (by decide)) e_) hs_)); have n2_ := a0_ (Kept.then_ (S := (fun k_ => P0_2_ k_)) (by repeat (first | (with_reducible first | exact HK.out | apply Kept.alloc | apply Kept.drewN | apply Kept.drew | refine Kept.setCell ?_ (.inr GW633.out) _) | exact HK.out)) hkp (fun k_ hs_ => (fun e_ => (HO0_2.out.1 k_ e_.symm)) hs_)); have n3_ := a0_ (hb); clear HO0_2; clear BK633; clear HK; clear HB; have HO0_2 := n0_; have BK633 := n1_; have HK := n2_; have HB := n3_; clear n0_ n1_ n2_ n3_; (try clear hb); (try clear hkp); (try clear hy0)))
 go_ret
 exact ⟨rr_, by (with_reducible repeat (first | apply Kd.R_alloc | apply Kd.R_drewN | apply Kd.R_drew)); exact HO0_2.out, bq1_, by repeat (first | (with_reducible first | exact HK.out | apply Kept.alloc | apply Kept.drewN | apply Kept.drew | refine Kept.setCell ?_ (.inr GW633.out) _) | exact HK.out)⟩
def laws_szZone.f (k : Nat) (a0_0 : ByteArray) (a0_1 : Int) (l0_2 : List (S71)) (a1 : Int) : Option (Int) := if (wrap64 (a1 - (a0_0.size : Int))) < 0 then (some (-1)) else ((laws_szRecordS.f k l0_2 (wrap64 (a1 - (a0_0.size : Int)))).bind fun t735 => (if t735 < 0 then (some (-1)) else (some t735)))
set_option maxHeartbeats 8000000 in
set_option maxRecDepth 100000 in
theorem laws_szZone.calls (k : Nat) (a0_0 : ByteArray) (a0_1 : Int) (A0_2 : Option Addr) (c0_2 : Nat) (l0_2 : List (S71)) (a1 : Int) (r : Int) (w : World) (hr0_2 : Kd.C k71 w A0_2 l0_2.length l0_2) (hc0_2 : l0_2.length ≤ c0_2) (h : laws_szZone.f k a0_0 a0_1 l0_2 a1 = some r) :
 Calls Tryz.prog 32 #[.agg #[.string a0_0, .int .i64 a0_1, .slice A0_2 l0_2.length c0_2], .int .i64 a1] w fun e w' => e = .returned (.int .i64 r) ∧ Below w.heap.size w w' := by
 have hu51 := Tryz.underlying51
 have HR0_2 := a0_ hr0_2
 have HC0_2 := a0_ hc0_2
 clear hr0_2 hc0_2
 have HB := a0_ (Below.refl w.heap.size w)
 have H : (if (wrap64 (a1 - (a0_0.size : Int))) < 0 then (some (-1)) else ((laws_szRecordS.f k l0_2 (wrap64 (a1 - (a0_0.size : Int)))).bind fun t735 => (if t735 < 0 then (some (-1)) else (some t735)))) = some r := h
 clear h
 by_cases c3 : (wrap64 (a1 - (a0_0.size : Int))) < 0
 case pos =>
  rw [if_pos c3] at H
  have c3b0 := decide_eq_true c3
  clear c3
  obtain rfl := Option.some.inj H
  go_enter Tryz.func32, Tryz.ntmps32
  go_wp2_with (first | ((with_reducible refine gate_dst (N := 2) rfl ?_); refine boxS_ 2 #[.string a0_0, .int .i64 a0_1, .slice A0_2 l0_2.length c0_2] 51 (fun gb734 hg w4 hbox hb => ?_); have n0_ := a0_ (below_step bq0_ hb); have n1_ := a0_ (hbox); have n2_ := a0_ (gw_ hg : w.heap.size ≤ gb734); have n3_ := n2_; clear HB; have HB := n0_; have BK734 := n1_; have GW734 := n2_; have GE734 := n3_; clear n0_ n1_ n2_ n3_; clear hb hbox hg; obtain ⟨z5_0, z5_1, z5_2, q5_0, q5_1, q5_2⟩ := bk3_ BK734.out))
  go_ret
  exact ⟨rr_, bq1_⟩
 rw [if_neg c3] at H
 have c3b0 := decide_eq_false c3
 clear c3
 obtain ⟨t735, A60, H⟩ := Option.bind_eq_some_iff.mp H
 have A6 := a0_ A60
 clear A60
 by_cases c7 : t735 < 0
 case neg =>
  rw [if_neg c7] at H
  have c7b0 := decide_eq_false c7
  clear c7
  obtain rfl := Option.some.inj H
  go_enter Tryz.func32, Tryz.ntmps32
  go_wp2_with (first | ((with_reducible refine gate_dst (N := 2) rfl ?_); refine boxS_ 2 #[.string a0_0, .int .i64 a0_1, .slice A0_2 l0_2.length c0_2] 51 (fun gb734 hg w11 hbox hb => ?_); have n0_ := a0_ (below_step bq0_ hb); have n1_ := a0_ (hbox); have n2_ := a0_ (gw_ hg : w.heap.size ≤ gb734); have n3_ := n2_; clear HB; have HB := n0_; have BK734 := n1_; have GW734 := n2_; have GE734 := n3_; clear n0_ n1_ n2_ n3_; clear hb hbox hg; obtain ⟨z12_0, z12_1, z12_2, q12_0, q12_1, q12_2⟩ := bk3_ BK734.out) | ((with_reducible refine gate_callee (f := 18) rfl ?_); refine goesL_ (some 15) rfl rfl Tryz.func18 (by kernel_rfl) rfl #[.slice A0_2 l0_2.length c0_2, .int .i64 (wrap64 (a1 - (a0_0.size : Int)))] rfl argsS_ ?_; (with_reducible refine (laws_szRecordS.calls k _ _ l0_2 (wrap64 (a1 - (a0_0.size : Int))) t735 _ ?side1 ?side2 A6.out).mono ?_); (case side1 => exact kC_ HR0_2.out HB.out); (case side2 => exact HC0_2.out); rintro e w13 ⟨rfl, hb⟩; refine ⟨_, rfl, ?_⟩; replace BK734 := a0_ (bkB_ BK734 hb); replace HB := a0_ (below_step bq1_ hb); (try clear hb); (try clear hb2); (try clear hk); (try clear hi)))
  go_ret
  exact ⟨rr_, bq1_⟩
 rw [if_pos c7] at H
 have c7b0 := decide_eq_true c7
 clear c7
 obtain rfl := Option.some.inj H
 go_enter Tryz.func32, Tryz.ntmps32
 go_wp2_with (first | ((with_reducible refine gate_dst (N := 2) rfl ?_); refine boxS_ 2 #[.string a0_0, .int .i64 a0_1, .slice A0_2 l0_2.length c0_2] 51 (fun gb734 hg w8 hbox hb => ?_); have n0_ := a0_ (below_step bq0_ hb); have n1_ := a0_ (hbox); have n2_ := a0_ (gw_ hg : w.heap.size ≤ gb734); have n3_ := n2_; clear HB; have HB := n0_; have BK734 := n1_; have GW734 := n2_; have GE734 := n3_; clear n0_ n1_ n2_ n3_; clear hb hbox hg; obtain ⟨z9_0, z9_1, z9_2, q9_0, q9_1, q9_2⟩ := bk3_ BK734.out) | ((with_reducible refine gate_callee (f := 18) rfl ?_); refine goesL_ (some 15) rfl rfl Tryz.func18 (by kernel_rfl) rfl #[.slice A0_2 l0_2.length c0_2, .int .i64 (wrap64 (a1 - (a0_0.size : Int)))] rfl argsS_ ?_; (with_reducible refine (laws_szRecordS.calls k _ _ l0_2 (wrap64 (a1 - (a0_0.size : Int))) t735 _ ?side1 ?side2 A6.out).mono ?_); (case side1 => exact kC_ HR0_2.out HB.out); (case side2 => exact HC0_2.out); rintro e w10 ⟨rfl, hb⟩; refine ⟨_, rfl, ?_⟩; replace BK734 := a0_ (bkB_ BK734 hb); replace HB := a0_ (below_step bq1_ hb); (try clear hb); (try clear hb2); (try clear hk); (try clear hi)))
 go_ret
 exact ⟨rr_, bq1_⟩
def laws_toZone.f (k : Nat) (a0_0 : ByteArray) (a0_1 : Int) (l0_2 : List (S71)) : Option (ByteArray × Int × (List (S72))) := (laws_toRecordS.f k l0_2).bind fun t754 => (some (a0_0, a0_1, t754))
set_option maxHeartbeats 8000000 in
set_option maxRecDepth 100000 in
theorem laws_toZone.calls (k : Nat) (a0_0 : ByteArray) (a0_1 : Int) (A0_2 : Option Addr) (c0_2 : Nat) (l0_2 : List (S71)) (r1 : ByteArray) (r2 : Int) (r3 : List (S72)) (w : World) (hr0_2 : Kd.C k71 w A0_2 l0_2.length l0_2) (hc0_2 : l0_2.length ≤ c0_2) (h : laws_toZone.f k a0_0 a0_1 l0_2 = some (r1, r2, r3)) :
 Calls Tryz.prog 34 #[.agg #[.string a0_0, .int .i64 a0_1, .slice A0_2 l0_2.length c0_2]] w fun e w' => ∃ v2_ : Value, e = .returned (.agg #[.string r1, .int .i64 r2, v2_]) ∧ Kd.R k72 72 w' w.heap.size (fun _ => True) v2_ r3 ∧ Below w.heap.size w w' := by
 have hu51 := Tryz.underlying51
 have hu42 := Tryz.underlying42
 have HR0_2 := a0_ hr0_2
 have HC0_2 := a0_ hc0_2
 clear hr0_2 hc0_2
 have HB := a0_ (Below.refl w.heap.size w)
 have H : ((laws_toRecordS.f k l0_2).bind fun t754 => (some (a0_0, a0_1, t754))) = some (r1, r2, r3) := h
 clear h
 obtain ⟨t754, A20, H⟩ := Option.bind_eq_some_iff.mp H
 have A2 := a0_ A20
 clear A20
 simp only [Option.some.injEq, Prod.mk.injEq] at H
 obtain ⟨rfl, rfl, rfl⟩ := H
 go_enter Tryz.func34, Tryz.ntmps34
 go_wp2_with (first | ((with_reducible refine gate_dst (N := 1) rfl ?_); refine boxS_ 1 #[.string a0_0, .int .i64 a0_1, .slice A0_2 l0_2.length c0_2] 51 (fun gb751 hg w3 hbox hb => ?_); have n0_ := a0_ (below_step bq0_ hb); have n1_ := a0_ (hbox); have n2_ := a0_ (gw_ hg : w.heap.size ≤ gb751); have n3_ := n2_; clear HB; have HB := n0_; have BK751 := n1_; have GW751 := n2_; have GE751 := n3_; clear n0_ n1_ n2_ n3_; clear hb hbox hg) | ((with_reducible refine gate_dst (N := 2) rfl ?_); refine boxS_ 2 #[.string (⟨#[]⟩ : ByteArray), .int .i64 0, .slice none 0 0] 42 (fun gb752 hg w4 hbox hb => ?_); have n0_ := a0_ (bkB_ BK751 hb); have n1_ := a0_ (below_step bq1_ hb); have n2_ := a0_ (hbox); have n3_ := a0_ (gw_ hg (below_size bq1_) : w.heap.size ≤ gb752); have n4_ := n3_; have n5_ := a0_ ((by rw [hg]; exact Nat.ne_of_lt (blk_lt (g := gb751) (o := .cells #[.string a0_0, .int .i64 a0_1, .slice A0_2 l0_2.length c0_2] 51 (0, 0)) (kB_ BK751.out)) : gb751 ≠ gb752)); have n6_ := a0_ ((by rw [hg]; exact Nat.ne_of_gt (blk_lt (g := gb751) (o := .cells #[.string a0_0, .int .i64 a0_1, .slice A0_2 l0_2.length c0_2] 51 (0, 0)) (kB_ BK751.out)) : gb752 ≠ gb751)); clear BK751; clear HB; have BK751 := n0_; have HB := n1_; have BK752 := n2_; have GW752 := n3_; have GE752 := n4_; have NB751_752 := n5_; have NB752_751 := n6_; clear n0_ n1_ n2_ n3_ n4_ n5_ n6_; clear hb hbox hg) | ((with_reducible refine gate_dst (N := 3) rfl ?_); refine boxS_ 3 #[.string (⟨#[]⟩ : ByteArray), .int .i64 0, .slice none 0 0] 42 (fun gb753 hg w5 hbox hb => ?_); have n0_ := a0_ (bkB_ BK751 hb); have n1_ := a0_ (bkB_ BK752 hb); have n2_ := a0_ (below_step bq1_ hb); have n3_ := a0_ (hbox); have n4_ := a0_ (gw_ hg (below_size bq1_) : w.heap.size ≤ gb753); have n5_ := n4_; have n6_ := a0_ ((by rw [hg]; exact Nat.ne_of_lt (blk_lt (g := gb751) (o := .cells #[.string a0_0, .int .i64 a0_1, .slice A0_2 l0_2.length c0_2] 51 (0, 0)) (kB_ BK751.out)) : gb751 ≠ gb753)); have n7_ := a0_ ((by rw [hg]; exact Nat.ne_of_gt (blk_lt (g := gb751) (o := .cells #[.string a0_0, .int .i64 a0_1, .slice A0_2 l0_2.length c0_2] 51 (0, 0)) (kB_ BK751.out)) : gb753 ≠ gb751)); have n8_ := a0_ ((by rw [hg]; exact Nat.ne_of_lt (blk_lt (g := gb752) (o := .cells #[.string (⟨#[]⟩ : ByteArray), .int .i64 0, .slice none 0 0] 42 (0, 0)) (kB_ BK752.out)) : gb752 ≠ gb753)); have n9_ := a0_ ((by rw [hg]; exact Nat.ne_of_gt (blk_lt (g := gb752) (o := .cells #[.string (⟨#[]⟩ : ByteArray), .int .i64 0, .slice none 0 0] 42 (0, 0)) (kB_ BK752.out)) : gb753 ≠ gb752)); clear BK751; clear BK752; clear HB; have BK751 := n0_; have BK752 := n1_; have HB := n2_; have BK753 := n3_; have GW753 := n4_; have GE753 := n5_; have NB751_753 := n6_; have NB753_751 := n7_; have NB752_753 := n8_; have NB753_752 := n9_; clear n0_ n1_ n2_ n3_ n4_ n5_ n6_ n7_ n8_ n9_; clear hb hbox hg; have hnb6 := NB751_752.out; have hnc6 := NB752_751.out; have hnb7 := NB751_753.out; have hnc7 := NB753_751.out; obtain ⟨z8_0, z8_1, z8_2, q8_0, q8_1, q8_2⟩ := bk3_ BK751.out; have hnb9 := NB753_752.out; have hnc9 := NB752_753.out; obtain ⟨z10_0, z10_1, z10_2, q10_0, q10_1, q10_2⟩ := bk3_ BK753.out) | ((with_reducible refine gate_callee (f := 21) rfl ?_); refine goesL_ (some 12) rfl rfl Tryz.func21 (by kernel_rfl) rfl #[.slice A0_2 l0_2.length c0_2] rfl argsS_ ?_; (with_reducible refine (laws_toRecordS.calls k _ _ l0_2 t754 _ ?side1 ?side2 A2.out).mono ?_); (case side1 => exact Kd.C_below HR0_2.out bq1_); (case side2 => exact HC0_2.out); rintro e w11 ⟨v755, rfl, ho0, hb⟩; refine ⟨_, rfl, ?_⟩; have HO756 := a0_ (Kd.R_lower ho0 (below_size bq1_)); replace BK751 := a0_ (blk_below (g := gb751) (o := .cells #[.string a0_0, .int .i64 a0_1, .slice A0_2 l0_2.length c0_2] 51 (0, 0)) (bfar2_ NB751_753.out BK751.out) hb); replace BK752 := a0_ (blk_below (g := gb752) (o := .cells #[.string (⟨#[]⟩ : ByteArray), .int .i64 0, .slice none 0 0] 42 (0, 0)) (bfar2_ NB752_753.out BK752.out) hb); replace BK753 := a0_ (blk_below (g := gb753) (o := .cells #[.string a0_0, .int .i64 a0_1, .slice none 0 0] 42 (0, 0)) (by (with_reducible repeat (first | refine blk_drewN ?_ _ | refine blk_drew ?_ | refine blk_alloc ?_ _)); refine blk_put (cs := #[.string a0_0, .int .i64 0, .slice none 0 0]) ?_ 1 _ rfl; (with_reducible repeat (first | refine blk_drewN ?_ _ | refine blk_drew ?_ | refine blk_alloc ?_ _)); refine blk_put (cs := #[.string (⟨#[]⟩ : ByteArray), .int .i64 0, .slice none 0 0]) ?_ 0 _ rfl; (with_reducible repeat (first | refine blk_drewN ?_ _ | refine blk_drew ?_ | refine blk_alloc ?_ _)); exact BK753.out) hb); replace HB := a0_ (below_step bq1_ hb); (try clear hb); (try clear hb2); (try clear hk); (try clear hi); (try clear ho0); obtain ⟨Ao12, co12, eo12⟩ := Kd.R_slice HO756.out; subst eo12; obtain ⟨z13_0, z13_1, z13_2, q13_0, q13_1, q13_2⟩ := bk3_ BK753.out; obtain ⟨z14_0, z14_1, z14_2, q14_0, q14_1, q14_2⟩ := bk3_ BK752.out))
 refine bodyPost_ret (results_cell_row rfl _ _ gb752 42 #[.string a0_0, .int .i64 a0_1, .slice Ao12 t754.length co12] (0, 0) _ rfl (by (with_reducible repeat (first | refine blk_drewN ?_ _ | refine blk_drew ?_ | refine blk_alloc ?_ _)); refine blk_put (cs := #[.string a0_0, .int .i64 a0_1, .slice none 0 0]) ?_ 2 _ rfl; (with_reducible repeat (first | refine blk_drewN ?_ _ | refine blk_drew ?_ | refine blk_alloc ?_ _)); refine blk_put (cs := #[.string a0_0, .int .i64 0, .slice none 0 0]) ?_ 1 _ rfl; (with_reducible repeat (first | refine blk_drewN ?_ _ | refine blk_drew ?_ | refine blk_alloc ?_ _)); refine blk_put (cs := #[.string (⟨#[]⟩ : ByteArray), .int .i64 0, .slice none 0 0]) ?_ 0 _ rfl; (with_reducible repeat (first | refine blk_drewN ?_ _ | refine blk_drew ?_ | refine blk_alloc ?_ _)); refine blk_far ?_ NB752_753.out _; (with_reducible repeat (first | refine blk_drewN ?_ _ | refine blk_drew ?_ | refine blk_alloc ?_ _)); exact BK752.out) Tryz.underlying42 rfl (by kernel_rfl)) rfl ?_
 exact ⟨_, rr_, by (with_reducible repeat (first | apply Kd.R_alloc | apply Kd.R_drewN | apply Kd.R_drew)); exact Kd.R_mono (Kd.R_far (p := ⟨gb752, 2, none⟩) (Kd.R_far (p := ⟨gb752, 1, none⟩) (Kd.R_far (p := ⟨gb752, 0, none⟩) (Kd.R_far (p := ⟨gb753, 2, none⟩) (Kd.R_types (Kd.R_types HO756.out BK753.out (by decide)) BK752.out (by decide)) (fun _ hk => hk.1.2) (.slice Ao12 t754.length co12)) (fun _ hk => hk.2) (.string a0_0)) (fun _ hk => hk.2) (.int .i64 a0_1)) (fun _ hk => hk.2) (.slice Ao12 t754.length co12)) (fun _ hk => trivial), bq1_⟩
def spec_l1Labels.l0 : Nat → ByteArray → List ByteArray → List ByteArray → Int → Int → Option (List ByteArray × Bool)
 | 0, _, _, _, _, _ => none
 | k + 1, x0, x4, x11, x12, x13 => if x13 < x12 then (if 0 ≤ x13 then (if x13 < (x11.length : Int) then ((spec_l1Label.f k (rdOf ByteArray.empty x11 x13)).bind fun t112 => (if t112 = true then (spec_l1Labels.l0 k x0 x4 x11 x12 (wrap64 (x13 + 1))) else (some (([] : List ByteArray), false)))) else (none)) else (none)) else (if (x0.size : Int) ≤ 60 then (some (x4, decide ((x4.length : Int) ≤ 8))) else (some (x4, false)))
def spec_l1Labels.f (k : Nat) (a0 : ByteArray) : Option (List ByteArray × Bool) := if a0.toList = ([] : List UInt8) then (some (([] : List ByteArray), true)) else ((spec_l1Split.f k a0 46).bind fun t108 => (spec_l1Labels.l0 k a0 t108 t108 (t108.length : Int) 0))
theorem spec_l1Labels.mono_l : ∀ k, (∀ y0 y1 y2 y3 y4, LeO (spec_l1Labels.l0 k y0 y1 y2 y3 y4) (spec_l1Labels.l0 (k + 1) y0 y1 y2 y3 y4))
 | 0 => fun _ _ _ _ _ r h => by simp [spec_l1Labels.l0] at h
 | k + 1 => by
  have ih0 := spec_l1Labels.mono_l k
  · intro y0 y1 y2 y3 y4
    unfold spec_l1Labels.l0
    repeat' first
    | (with_reducible exact ih0 _ _ _ _ _)
    | (with_reducible exact spec_l1Label.mono _ _)
    | (with_reducible exact spec_l1Split.mono _ _ _)
    | (with_reducible exact LeO.refl _)
    | (with_reducible exact LeO.none _)
    | (with_reducible refine LeO.ite ?_ ?_)
    | (with_reducible refine LeO.bind ?_ (fun _ => ?_))
    | exact ih0 _ _ _ _ _
    | exact spec_l1Label.mono _ _
    | exact spec_l1Split.mono _ _ _
    | exact LeO.none _
    | refine LeO.ite ?_ ?_
    | refine LeO.bind ?_ (fun _ => ?_)
theorem spec_l1Labels.mono : ∀ a0 k, LeO (spec_l1Labels.f k a0) (spec_l1Labels.f (k + 1) a0) := by
 intro a0 k
 have ih0 := spec_l1Labels.mono_l k
 unfold spec_l1Labels.f
 repeat' first
  | (with_reducible exact ih0 _ _ _ _ _)
  | (with_reducible exact spec_l1Label.mono _ _)
  | (with_reducible exact spec_l1Split.mono _ _ _)
  | (with_reducible exact LeO.refl _)
  | (with_reducible exact LeO.none _)
  | (with_reducible refine LeO.ite ?_ ?_)
  | (with_reducible refine LeO.bind ?_ (fun _ => ?_))
  | exact ih0 _ _ _ _ _
  | exact spec_l1Label.mono _ _
  | exact spec_l1Split.mono _ _ _
  | exact LeO.none _
  | refine LeO.ite ?_ ?_
  | refine LeO.bind ?_ (fun _ => ?_)
set_option maxHeartbeats 8000000 in
set_option maxRecDepth 100000 in
theorem spec_l1Labels.calls (k : Nat) (a0 : ByteArray) (r1 : List ByteArray) (r2 : Bool) (w : World) (h : spec_l1Labels.f k a0 = some (r1, r2)) :
 Calls Tryz.prog 81 #[.string a0] w fun e w' => ∃ v0_ : Value, e = .returned (.tuple #[v0_, .bool r2]) ∧ Kd.R Kd.string 9 w' w.heap.size (fun _ => True) v0_ r1 ∧ Below w.heap.size w w' := by
 have HB := a0_ (Below.refl w.heap.size w)
 have H : (if a0.toList = ([] : List UInt8) then (some (([] : List ByteArray), true)) else ((spec_l1Split.f k a0 46).bind fun t108 => (spec_l1Labels.l0 k a0 t108 t108 (t108.length : Int) 0))) = some (r1, r2) := h
 clear h
 by_cases c2 : a0.toList = ([] : List UInt8)
 case pos =>
  rw [if_pos c2] at H
  have c2b0 := beq_iff_eq.mpr c2
  have c2b1 := bne_eq_false_iff_eq.mpr c2
  clear c2
  simp only [Option.some.injEq, Prod.mk.injEq] at H
  obtain ⟨rfl, rfl⟩ := H
  go_enter Tryz.func81, Tryz.ntmps81
  go_wp2
  go_ret2
  exact ⟨_, rr_, by first | exact Kd.R_nil _ _ _ _ _ | exact Kd.N_nil _ _ _ _ _ | exact Kd.V_nil _ _ _ _ _ | exact Kd.Q_nil _ _ _ _ _ | exact Kd.S_nil _ _ _ _ _, bq0_⟩
 rw [if_neg c2] at H
 have c2b0 := beq_eq_false_iff_ne.mpr c2
 have c2b1 := bne_iff_ne.mpr c2
 obtain ⟨t108, A30, H⟩ := Option.bind_eq_some_iff.mp H
 have A3 := a0_ A30
 clear A30
 have H' := a0_ H
 clear H
 go_enter Tryz.func81, Tryz.ntmps81
 go_wp2_with (first | ((with_reducible refine gate_callee (f := 107) rfl ?_); refine goesL_ (some 10) rfl rfl Tryz.func107 (by kernel_rfl) rfl #[.string a0, .int .u8 46] rfl argsS_ ?_; (with_reducible refine (spec_l1Split.calls k a0 46 t108 _ A3.out).mono ?_); rintro e w4 ⟨v109, rfl, ho0, hb⟩; refine ⟨_, rfl, ?_⟩; have HO110 := a0_ (Kd.R_lower ho0 (below_size bq0_)); replace HB := a0_ (below_step bq0_ hb); (try clear hb); (try clear hb2); (try clear hk); (try clear hi); (try clear ho0); obtain ⟨Ao5, co5, eo5⟩ := Kd.R_slice HO110.out; subst eo5))
 go_loopg [13] k (fun kq v13 w' => ∃ (x13_1 : Int), v13 = .int .i64 x13_1 ∧ Aside0 (spec_l1Labels.l0 kq a0 t108 t108 (t108.length : Int) x13_1 = some (r1, r2)) ∧ Aside0 (kq ≤ k) ∧ Aside0 (Kd.R Kd.string 9 w' w.heap.size (fun _ => True) (.slice Ao5 t108.length co5) t108) ∧ Aside0 (Kd.R Kd.string 9 w' w.heap.size (fun _ => True) (.slice Ao5 t108.length co5) t108) ∧ Aside0 (Below w.heap.size w w'))
 case atStart => exact ⟨(0), rs_, H', ⟨Nat.le_refl _⟩, ⟨by (with_reducible repeat (first | apply Kd.R_alloc | apply Kd.R_drewN | apply Kd.R_drew)); exact HO110.out⟩, ⟨by (with_reducible repeat (first | apply Kd.R_alloc | apply Kd.R_drewN | apply Kd.R_drew)); exact HO110.out⟩, ⟨bq0_⟩⟩
 case round =>
  clear H'
  try clear c1
  try clear c2
  try clear c2b0
  try clear c2b1
  try clear p2
  obtain ⟨x13_1, rfl, HA, HK1, HO_4, HO_11, HB⟩ := hrel
  cases gk with
  | zero => exact absurd HA.out (by simp [spec_l1Labels.l0])
  | succ k1 =>
   have H := HA.out
   clear HA
   simp only [spec_l1Labels.l0] at H
   by_cases c6 : x13_1 < (t108.length : Int)
   case neg =>
    rw [if_neg c6] at H
    have c6b0 := decide_eq_false c6
    clear c6
    by_cases c11 : (a0.size : Int) ≤ 60
    case neg =>
     rw [if_neg c11] at H
     have c11b0 := decide_eq_false c11
     have c11b1 : decide (a0.size ≤ 60) = false := decide_eq_false (by omega)
     clear c11
     simp only [Option.some.injEq, Prod.mk.injEq] at H
     obtain ⟨rfl, rfl⟩ := H
     go_wp2
     go_ret2
     exact ⟨_, rr_, by (with_reducible repeat (first | apply Kd.R_alloc | apply Kd.R_drewN | apply Kd.R_drew)); exact HO_4.out, bq0_⟩
    rw [if_pos c11] at H
    have c11b0 := decide_eq_true c11
    have c11b1 : decide (a0.size ≤ 60) = true := decide_eq_true (by omega)
    clear c11
    simp only [Option.some.injEq, Prod.mk.injEq] at H
    obtain ⟨rfl, rfl⟩ := H
    go_wp2
    go_ret2
    exact ⟨_, rr_, by (with_reducible repeat (first | apply Kd.R_alloc | apply Kd.R_drewN | apply Kd.R_drew)); exact HO_4.out, bq0_⟩
   rw [if_pos c6] at H
   have c6b0 := decide_eq_true c6
   clear c6
   by_cases c7 : 0 ≤ x13_1
   case neg =>
    rw [if_neg c7] at H
    exact absurd H (by simp)
   rw [if_pos c7] at H
   have c7b0 := decide_eq_true c7
   clear c7
   by_cases c8 : x13_1 < (t108.length : Int)
   case neg =>
    rw [if_neg c8] at H
    exact absurd H (by simp)
   rw [if_pos c8] at H
   have c8b0 := decide_eq_true c8
   clear c8
   obtain ⟨t112, A90, H⟩ := Option.bind_eq_some_iff.mp H
   have A9 := a0_ A90
   clear A90
   by_cases c10 : t112 = true
   case neg =>
    replace c10 := Bool.eq_false_iff.mpr c10
    subst c10
    rw [if_neg (show ¬ (false = true) by decide)] at H
    simp only [Option.some.injEq, Prod.mk.injEq] at H
    obtain ⟨rfl, rfl⟩ := H
    have p111 : 0 ≤ (x13_1 : Int) := dec_
    have q111 : x13_1 < (t108.length : Int) := dec_
    obtain ⟨ad111, e111, hx111_0⟩ := Kd.at_string (Kd.R_reads' HO_11.out).2.2 x13_1 p111 q111
    cases e111
    replace p111 := eq_true p111
    replace q111 := eq_true q111
    go_wp2_with (first | ((with_reducible refine gate_callee (f := 108) rfl ?_); refine goesL_ (some 18) rfl rfl Tryz.func108 (by kernel_rfl) rfl #[.string (rdOf ByteArray.empty t108 x13_1)] rfl argsS_ ?_; (with_reducible refine (spec_l1Label.calls k1 (rdOf ByteArray.empty t108 x13_1) false _ A9.out).mono ?_); rintro e w' ⟨rfl, ⟨nd, rfl⟩⟩; refine ⟨_, rfl, ?_⟩))
    go_ret2
    exact ⟨_, rr_, by first | exact Kd.R_nil _ _ _ _ _ | exact Kd.N_nil _ _ _ _ _ | exact Kd.V_nil _ _ _ _ _ | exact Kd.Q_nil _ _ _ _ _ | exact Kd.S_nil _ _ _ _ _, bq0_⟩
   subst c10
   rw [if_pos rfl] at H
   have H' := a0_ H
   clear H
   have p111 : 0 ≤ (x13_1 : Int) := dec_
   have q111 : x13_1 < (t108.length : Int) := dec_
   obtain ⟨ad111, e111, hx111_0⟩ := Kd.at_string (Kd.R_reads' HO_11.out).2.2 x13_1 p111 q111
   cases e111
   replace p111 := eq_true p111
   replace q111 := eq_true q111
   go_wp2_with (first | ((with_reducible refine gate_callee (f := 108) rfl ?_); refine goesL_ (some 18) rfl rfl Tryz.func108 (by kernel_rfl) rfl #[.string (rdOf ByteArray.empty t108 x13_1)] rfl argsS_ ?_; (with_reducible refine (spec_l1Label.calls k1 (rdOf ByteArray.empty t108 x13_1) true _ A9.out).mono ?_); rintro e w' ⟨rfl, ⟨nd, rfl⟩⟩; refine ⟨_, rfl, ?_⟩))
   go_roundg k1
   case measure => have := HK1.out; omega
   case rel => exact ⟨(wrap64 (x13_1 + 1)), rs_, H', ⟨by have := HK1.out; omega⟩, ⟨by (with_reducible repeat (first | apply Kd.R_alloc | apply Kd.R_drewN | apply Kd.R_drew)); exact HO_4.out⟩, ⟨by (with_reducible repeat (first | apply Kd.R_alloc | apply Kd.R_drewN | apply Kd.R_drew)); exact HO_11.out⟩, ⟨bq0_⟩⟩
end Go.Proofs.YtkpkfallgjdkmaaGreatDoor.P
