/- FnExactNamesIn: part 28 of 30 of my texts for this claim, joined; the theorem stands in the last. Conditions: none beyond the statement's. -/
import Derived.Test.YtkpkfallgjdkmaaGreatDoorMFnExactNamesInx3
import Derived.Test.YtkpkfallgjdkmaaGreatDoorMFnExactNamesInx7
import Derived.Test.YtkpkfallgjdkmaaGreatDoorMFnExactNamesInx10
import Derived.Test.YtkpkfallgjdkmaaGreatDoorMFnExactNamesInx15
import Derived.Test.YtkpkfallgjdkmaaGreatDoorMFnExactNamesInx26
import Derived.Test.YtkpkfallgjdkmaaGreatDoorMFnExactNamesInx5
import Derived.Test.YtkpkfallgjdkmaaGreatDoorMFnExactNamesInx24
import Derived.Test.YtkpkfallgjdkmaaGreatDoorMFnExactNamesInx21
import Derived.Test.YtkpkfallgjdkmaaGreatDoorMFnExactNamesInx4
import Derived.Test.YtkpkfallgjdkmaaGreatDoorMFnExactNamesInx22
import Derived.Test.YtkpkfallgjdkmaaGreatDoorMFnExactNamesInx12
namespace Go.Proofs.YtkpkfallgjdkmaaGreatDoor.P
open Go.RowKit Go.Proofs.YtkpkfallgjdkmaaGreatDoorW.PrintWords Go.Proofs.YtkpkfallgjdkmaaGreatDoorW.PrintLast Go.Proofs.YtkpkfallgjdkmaaGreatDoorW.PrintMore
attribute [local go_sem] max2_int min2_int max_two min_two max_three min_three max_four min_four
set_option linter.unusedVariables false
set_option linter.unusedSimpArgs false
def impl_GoodZone.f (k : Nat) (a0_0 : ByteArray) (a0_1 : Int) (l0_2 : List (S72)) : Option (Bool) := (impl_isCounter.f a0_1).bind fun t617 => (if t617 = true then ((impl_RuleOf.f k a0_0 l0_2).bind fun t618 => (if t618 = 0 then ((impl_at.f k l0_2 a0_0 6).bind fun t619 => (if 0 < (t619.length : Int) then ((impl_serialText.f a0_1).bind fun t623 => (some (((rd_T72 t619 0).f3).toList == t623.toList))) else (none))) else (some false))) else (some false))
def impl_GoodZone.T1 : Bool × List (List Nat × List Nat) := (true, [([], []), ([0], [0]), ([1], [1]), ([2, 2], [2]), ([3], [3]), ([4, 3], [3, 4]), ([3], [3]), ([6, 3], [3, 6]), ([5, 7, 3, 3], [3, 5, 7]), ([8, 3], [3, 8]), ([3, 9], [3, 9]), ([10, 8], [10]), ([11], [11]), ([12, 11], [11, 12]), ([11], [11]), ([14, 11], [11, 14]), ([13, 15, 11, 11], [11, 13, 15]), ([16, 11], [11, 16]), ([17, 11], [11, 17]), ([18, 11], [11, 18]), ([11], [11]), ([20, 11], [11, 20]), ([21, 16, 11], [11, 21]), ([19, 22, 11], [11, 19, 22]), ([11, 23], [11, 23]), ([24, 22, 0, 1, 2, 3, 4, 5, 6, 7, 8, 9, 10, 11, 12, 13, 14, 15, 16, 17, 18, 19, 20, 21, 22, 23, 24], [24])])
def impl_GoodZone.B1 : List Nat := [0, 1, 3, 7, 15, 31, 15, 79, 255, 511, 1023, 2047, 4095, 8191, 4095, 20479, 65535, 131071, 262143, 524287, 4095, 1052671, 3276799, 8388607, 16777215, 33554431]
theorem impl_GoodZone.tab1 : rtab .any (opsOf Tryz.f35 1) = impl_GoodZone.T1 := by kernel_rfl
theorem impl_GoodZone.bits1 : waitsOk impl_GoodZone.T1.2 impl_GoodZone.B1 = true := by kernel_rfl
set_option maxHeartbeats 8000000 in
set_option maxRecDepth 100000 in
theorem impl_GoodZone.calls (k : Nat) (a0_0 : ByteArray) (a0_1 : Int) (A0_2 : Option Addr) (c0_2 : Nat) (l0_2 : List (S72)) (r : Bool) (w : World) (hr0_2 : Kd.C k72 w A0_2 l0_2.length l0_2) (hc0_2 : l0_2.length ≤ c0_2) (h : impl_GoodZone.f k a0_0 a0_1 l0_2 = some r) (hv_ : Vars w := by exact vv_) :
 Calls Tryz.prog 35 #[.agg #[.string a0_0, .int .i64 a0_1, .slice A0_2 l0_2.length c0_2]] w fun e w' => e = .returned (.bool r) ∧ Below w.heap.size w w' := by
 have HV_ := a0_ hv_
 clear hv_
 have hu42 := Tryz.underlying42
 have HR0_2 := a0_ hr0_2
 have HC0_2 := a0_ hc0_2
 clear hr0_2 hc0_2
 have HB := a0_ (Below.refl w.heap.size w)
 have H : ((impl_isCounter.f a0_1).bind fun t617 => (if t617 = true then ((impl_RuleOf.f k a0_0 l0_2).bind fun t618 => (if t618 = 0 then ((impl_at.f k l0_2 a0_0 6).bind fun t619 => (if 0 < (t619.length : Int) then ((impl_serialText.f a0_1).bind fun t623 => (some (((rd_T72 t619 0).f3).toList == t623.toList))) else (none))) else (some false))) else (some false))) = some r := h
 clear h
 obtain ⟨t617, A20, H⟩ := Option.bind_eq_some_iff.mp H
 have A2 := a0_ A20
 clear A20
 by_cases c3 : t617 = true
 case neg =>
  replace c3 := Bool.eq_false_iff.mpr c3
  subst c3
  rw [if_neg (show ¬ (false = true) by decide)] at H
  obtain rfl := Option.some.inj H
  go_enter Tryz.func35, Tryz.ntmps35
  try go_wp2_with (first | ((with_reducible refine gate_dst (N := 1) rfl ?_); refine boxS_ 1 #[.string a0_0, .int .i64 a0_1, .slice A0_2 l0_2.length c0_2] 42 (fun gb616 hg w18 hbox hb => ?_); have n0_ := a0_ (below_step bq0_ hb); have n1_ := a0_ (hbox); have n2_ := a0_ (gw_ hg : w.heap.size ≤ gb616); have n3_ := n2_; clear HB; have HB := n0_; have BK616 := n1_; have GW616 := n2_; have GE616 := n3_; clear n0_ n1_ n2_ n3_; clear hb hbox hg))
  replace BK616 := a0_ (blk_drew BK616.out)
  replace HB := a0_ (below_drew1 HB.out)
  refine start_ (n := 26) (S := fun w' => w'.cell? ⟨gb616, 0, none⟩ = some (.string a0_0) ∧ w'.cell? ⟨gb616, 1, none⟩ = some (.int .i64 a0_1) ∧ w'.cell? ⟨gb616, 2, none⟩ = some (.slice A0_2 l0_2.length c0_2)) (ds := []) #[false, false, false, false, false, false, false, false, false, false, false, false, false, false, false, false, false, false, false, false, false, false, false, false, false, false] (by kernel_rfl) rfl rfl ⟨(blk_cell BK616.out 0).trans rfl, (blk_cell BK616.out 1).trans rfl, (blk_cell BK616.out 2).trans rfl⟩ (fun hHeld => ?_); refine with_tabW impl_GoodZone.tab1 impl_GoodZone.bits1 (fun HT_ HW_ => ?_)
  generalize w18.drew = w19 at BK616 HB hHeld ⊢
  refine pureS_ 0 (some 3) ?_
  refine takeS_ 1 (some 4) ?_
  refine oneS_ 2 (some 5) (fun K hK => ?_)
  refine goes_ Tryz.func65 (by kernel_rfl) rfl #[.int .i64 a0_1] (by rfl) rfl rfl argsS_ ?_
  with_reducible refine (impl_isCounter.calls a0_1 false _ A2.out).mono ?_
  rintro e w' ⟨rfl, ⟨nd, rfl⟩⟩
  refine ⟨_, rfl, ?_⟩
  refine hK.out _ _ ⟨(blk_cell BK616.out 0).trans rfl, (blk_cell BK616.out 1).trans rfl, (blk_cell BK616.out 2).trans rfl⟩ (fun hHeld => ?_)
  clear hK K
  refine normS_ ?_
  refine pureS_ 3 (some 6) ?_
  refine skipS_ 4 (some 7) ?_
  refine skipS_ 5 (some 8) ?_
  refine skipS_ 6 (some 9) ?_
  refine skipS_ 7 (some 10) ?_
  refine skipS_ 8 (some 11) ?_
  refine skipS_ 9 (some 12) ?_
  refine pureS_ 10 (some 13) ?_
  refine pureS_ 11 (some 14) ?_
  refine skipS_ 12 (some 15) ?_
  refine skipS_ 13 (some 16) ?_
  refine skipS_ 14 (some 17) ?_
  refine skipS_ 15 (some 18) ?_
  refine skipS_ 16 (some 19) ?_
  refine skipS_ 17 (some 20) ?_
  refine skipS_ 18 (some 21) ?_
  refine skipS_ 19 (some 22) ?_
  refine skipS_ 20 (some 23) ?_
  refine skipS_ 21 (some 24) ?_
  refine skipS_ 22 (some 25) ?_
  refine skipS_ 23 (some 26) ?_
  refine pureS_ 24 (some 27) ?_
  refine pureS_ 25 (some 2) ?_
  refine done_ (done_of HT_.out (by kernel_rfl)) ?_
  try go_wp2
  go_ret
  exact ⟨rr_, bq1_⟩
 subst c3
 rw [if_pos rfl] at H
 obtain ⟨t618, A40, H⟩ := Option.bind_eq_some_iff.mp H
 have A4 := a0_ A40
 clear A40
 by_cases c5 : t618 = 0
 case neg =>
  rw [if_neg c5] at H
  have c5b0 := beq_eq_false_iff_ne.mpr c5
  have c5b1 := bne_iff_ne.mpr c5
  obtain rfl := Option.some.inj H
  go_enter Tryz.func35, Tryz.ntmps35
  try go_wp2_with (first | ((with_reducible refine gate_dst (N := 1) rfl ?_); refine boxS_ 1 #[.string a0_0, .int .i64 a0_1, .slice A0_2 l0_2.length c0_2] 42 (fun gb616 hg w15 hbox hb => ?_); have n0_ := a0_ (below_step bq0_ hb); have n1_ := a0_ (hbox); have n2_ := a0_ (gw_ hg : w.heap.size ≤ gb616); have n3_ := n2_; clear HB; have HB := n0_; have BK616 := n1_; have GW616 := n2_; have GE616 := n3_; clear n0_ n1_ n2_ n3_; clear hb hbox hg))
  replace BK616 := a0_ (blk_drew BK616.out)
  replace HB := a0_ (below_drew1 HB.out)
  refine start_ (n := 26) (S := fun w' => w'.cell? ⟨gb616, 0, none⟩ = some (.string a0_0) ∧ w'.cell? ⟨gb616, 1, none⟩ = some (.int .i64 a0_1) ∧ w'.cell? ⟨gb616, 2, none⟩ = some (.slice A0_2 l0_2.length c0_2)) (ds := []) #[false, false, false, false, false, false, false, false, false, false, false, false, false, false, false, false, false, false, false, false, false, false, false, false, false, false] (by kernel_rfl) rfl rfl ⟨(blk_cell BK616.out 0).trans rfl, (blk_cell BK616.out 1).trans rfl, (blk_cell BK616.out 2).trans rfl⟩ (fun hHeld => ?_); refine with_tabW impl_GoodZone.tab1 impl_GoodZone.bits1 (fun HT_ HW_ => ?_)
  generalize w15.drew = w16 at BK616 HB hHeld ⊢
  refine pureS_ 0 (some 3) ?_
  refine takeS_ 1 (some 4) ?_
  refine oneS_ 2 (some 5) (fun K hK => ?_)
  refine goes_ Tryz.func65 (by kernel_rfl) rfl #[.int .i64 a0_1] (by rfl) rfl rfl argsS_ ?_
  with_reducible refine (impl_isCounter.calls a0_1 true _ A2.out).mono ?_
  rintro e w' ⟨rfl, ⟨nd, rfl⟩⟩
  refine ⟨_, rfl, ?_⟩
  refine hK.out _ _ ⟨(blk_cell BK616.out 0).trans rfl, (blk_cell BK616.out 1).trans rfl, (blk_cell BK616.out 2).trans rfl⟩ (fun hHeld => ?_)
  clear hK K
  refine normS_ ?_
  refine pureS_ 3 (some 6) ?_
  refine pureS_ 4 (some 7) ?_
  refine pureS_ 6 (some 9) ?_
  refine takeS_ 5 (some 8) ?_
  refine takeS_ 7 (some 10) ?_
  refine oneS_ 8 (some 11) (fun K hK => ?_)
  refine goes_ Tryz.func31 (by kernel_rfl) rfl #[.string a0_0, .slice A0_2 l0_2.length c0_2] (by rfl) rfl rfl argsS_ ?_
  with_reducible refine (impl_RuleOf.calls k a0_0 _ _ l0_2 t618 _ ?side1 ?side2 A4.out).mono ?_
  (case side1 => exact kC_ HR0_2.out bq1_)
  (case side2 => exact HC0_2.out)
  rintro e w17 ⟨rfl, hb⟩
  refine ⟨_, rfl, ?_⟩
  replace BK616 := a0_ (bkB_ BK616 hb)
  replace HB := a0_ (below_step bq1_ hb)
  (try clear hb)
  (try clear hb2)
  (try clear hk)
  (try clear hi)
  refine hK.out _ _ ⟨(blk_cell BK616.out 0).trans rfl, (blk_cell BK616.out 1).trans rfl, (blk_cell BK616.out 2).trans rfl⟩ (fun hHeld => ?_)
  clear hK K
  refine normS_ ?_
  refine pureS_ 9 (some 12) ?_
  refine pureS_ 10 (some 13) ?_
  refine pureS_ 11 (some 14) ?_
  refine skipS_ 12 (some 15) ?_
  refine skipS_ 13 (some 16) ?_
  refine skipS_ 14 (some 17) ?_
  refine skipS_ 15 (some 18) ?_
  refine skipS_ 16 (some 19) ?_
  refine skipS_ 17 (some 20) ?_
  refine skipS_ 18 (some 21) ?_
  refine skipS_ 19 (some 22) ?_
  refine skipS_ 20 (some 23) ?_
  refine skipS_ 21 (some 24) ?_
  refine skipS_ 22 (some 25) ?_
  refine skipS_ 23 (some 26) ?_
  refine pureS_ 24 (some 27) ?_
  refine pureS_ 25 (some 2) ?_
  refine done_ (done_of HT_.out (by kernel_rfl)) ?_
  try go_wp2
  go_ret
  exact ⟨rr_, bq1_⟩
 rw [if_pos c5] at H
 have c5b0 := beq_iff_eq.mpr c5
 have c5b1 := bne_eq_false_iff_eq.mpr c5
 clear c5
 obtain ⟨t619, A60, H⟩ := Option.bind_eq_some_iff.mp H
 have A6 := a0_ A60
 clear A60
 by_cases c7 : 0 < (t619.length : Int)
 case neg =>
  rw [if_neg c7] at H
  exact absurd H (by simp)
 rw [if_pos c7] at H
 have c7b0 := decide_eq_true c7
 have c7b1 : decide (0 < t619.length) = true := decide_eq_true (by omega)
 clear c7
 obtain ⟨t623, A80, H⟩ := Option.bind_eq_some_iff.mp H
 have A8 := a0_ A80
 clear A80
 obtain rfl := Option.some.inj H
 go_enter Tryz.func35, Tryz.ntmps35
 try go_wp2_with (first | ((with_reducible refine gate_dst (N := 1) rfl ?_); refine boxS_ 1 #[.string a0_0, .int .i64 a0_1, .slice A0_2 l0_2.length c0_2] 42 (fun gb616 hg w9 hbox hb => ?_); have n0_ := a0_ (below_step bq0_ hb); have n1_ := a0_ (hbox); have n2_ := a0_ (gw_ hg : w.heap.size ≤ gb616); have n3_ := n2_; clear HB; have HB := n0_; have BK616 := n1_; have GW616 := n2_; have GE616 := n3_; clear n0_ n1_ n2_ n3_; clear hb hbox hg))
 replace BK616 := a0_ (blk_drew BK616.out)
 replace HB := a0_ (below_drew1 HB.out)
 refine start_ (n := 26) (S := fun w' => w'.cell? ⟨gb616, 0, none⟩ = some (.string a0_0) ∧ w'.cell? ⟨gb616, 1, none⟩ = some (.int .i64 a0_1) ∧ w'.cell? ⟨gb616, 2, none⟩ = some (.slice A0_2 l0_2.length c0_2)) (ds := []) #[false, false, false, false, false, false, false, false, false, false, false, false, false, false, false, false, false, false, false, false, false, false, false, false, false, false] (by kernel_rfl) rfl rfl ⟨(blk_cell BK616.out 0).trans rfl, (blk_cell BK616.out 1).trans rfl, (blk_cell BK616.out 2).trans rfl⟩ (fun hHeld => ?_); refine with_tabW impl_GoodZone.tab1 impl_GoodZone.bits1 (fun HT_ HW_ => ?_)
 generalize w9.drew = w10 at BK616 HB hHeld ⊢
 refine pureS_ 0 (some 3) ?_
 refine takeS_ 1 (some 4) ?_
 refine oneS_ 2 (some 5) (fun K hK => ?_)
 refine goes_ Tryz.func65 (by kernel_rfl) rfl #[.int .i64 a0_1] (by rfl) rfl rfl argsS_ ?_
 with_reducible refine (impl_isCounter.calls a0_1 true _ A2.out).mono ?_
 rintro e w' ⟨rfl, ⟨nd, rfl⟩⟩
 refine ⟨_, rfl, ?_⟩
 refine hK.out _ _ ⟨(blk_cell BK616.out 0).trans rfl, (blk_cell BK616.out 1).trans rfl, (blk_cell BK616.out 2).trans rfl⟩ (fun hHeld => ?_)
 clear hK K
 refine normS_ ?_
 refine pureS_ 3 (some 6) ?_
 refine pureS_ 4 (some 7) ?_
 refine pureS_ 6 (some 9) ?_
 refine takeS_ 5 (some 8) ?_
 refine takeS_ 7 (some 10) ?_
 refine oneS_ 8 (some 11) (fun K hK => ?_)
 refine goes_ Tryz.func31 (by kernel_rfl) rfl #[.string a0_0, .slice A0_2 l0_2.length c0_2] (by rfl) rfl rfl argsS_ ?_
 with_reducible refine (impl_RuleOf.calls k a0_0 _ _ l0_2 t618 _ ?side1 ?side2 A4.out).mono ?_
 (case side1 => exact kC_ HR0_2.out bq1_)
 (case side2 => exact HC0_2.out)
 rintro e w11 ⟨rfl, hb⟩
 refine ⟨_, rfl, ?_⟩
 replace BK616 := a0_ (bkB_ BK616 hb)
 replace HB := a0_ (below_step bq1_ hb)
 (try clear hb)
 (try clear hb2)
 (try clear hk)
 (try clear hi)
 refine hK.out _ _ ⟨(blk_cell BK616.out 0).trans rfl, (blk_cell BK616.out 1).trans rfl, (blk_cell BK616.out 2).trans rfl⟩ (fun hHeld => ?_)
 clear hK K
 refine normS_ ?_
 refine pureS_ 9 (some 12) ?_
 refine pureS_ 10 (some 13) ?_
 refine pureS_ 11 (some 14) ?_
 refine pureS_ 12 (some 15) ?_
 refine pureS_ 14 (some 17) ?_
 refine pureS_ 20 (some 23) ?_
 refine takeS_ 13 (some 16) ?_
 refine takeS_ 15 (some 18) ?_
 refine takeS_ 21 (some 24) ?_
 refine oneS_ 16 (some 19) (fun K hK => ?_)
 refine goes_ Tryz.func62 (by kernel_rfl) rfl #[.slice A0_2 l0_2.length c0_2, .string a0_0, .int .i64 6] (by rfl) rfl rfl argsS_ ?_
 with_reducible refine (impl_at.calls k _ _ l0_2 a0_0 6 t619 _ ?side1 ?side2 A6.out).mono ?_
 (case side1 => exact kC_ HR0_2.out HB.out)
 (case side2 => exact HC0_2.out)
 rintro e w12 ⟨v620, rfl, ho0, hb⟩
 refine ⟨_, rfl, ?_⟩
 have HO621 := a0_ (Kd.R_lower ho0 (below_size bq1_))
 replace BK616 := a0_ (bkB_ BK616 hb)
 replace HB := a0_ (below_step bq1_ hb)
 (try clear hb)
 (try clear hb2)
 (try clear hk)
 (try clear hi)
 (try clear ho0)
 obtain ⟨Ao13, co13, eo13⟩ := Kd.R_slice HO621.out
 (first | subst eo13 | (injection eo13 with f1_ f2_ f3_; have f4_ := f1_.symm; have f5_ := f3_.symm; clear f1_ f2_ f3_; subst f4_; subst f5_))
 have p622 : 0 ≤ (0 : Int) := (by omega)
 have q622 : 0 < (t619.length : Int) := dec_
 obtain ⟨ad622, e622, hx622_0, hx622_1, hx622_2, hx622_3⟩ := at_T72 (Kd.R_reads' HO621.out).2.2 0 p622 q622
 cases e622
 have qi622 : (0 < t619.length) = True := eq_true (by omega)
 (try rw [show ((0 : Int)).toNat = 0 from rfl] at hx622_0)
 (try rw [show 0 * 4 = 0 from rfl] at hx622_0)
 (try rw [Addr.add_zero'] at hx622_0)
 (try rw [show ((0 : Int)).toNat = 0 from rfl] at hx622_1)
 (try rw [show 0 * 4 = 0 from rfl] at hx622_1)
 (try rw [Addr.add_zero'] at hx622_1)
 (try rw [show ((0 : Int)).toNat = 0 from rfl] at hx622_2)
 (try rw [show 0 * 4 = 0 from rfl] at hx622_2)
 (try rw [Addr.add_zero'] at hx622_2)
 (try rw [show ((0 : Int)).toNat = 0 from rfl] at hx622_3)
 (try rw [show 0 * 4 = 0 from rfl] at hx622_3)
 (try rw [Addr.add_zero'] at hx622_3)
 replace p622 := eq_true p622
 replace q622 := eq_true q622
 refine hK.out _ _ ⟨(blk_cell BK616.out 0).trans rfl, (blk_cell BK616.out 1).trans rfl, (blk_cell BK616.out 2).trans rfl⟩ (fun hHeld => ?_)
 clear hK K
 refine grow_ (S' := fun w' => w'.cell? ⟨gb616, 0, none⟩ = some (.string a0_0) ∧ w'.cell? ⟨gb616, 1, none⟩ = some (.int .i64 a0_1) ∧ w'.cell? ⟨gb616, 2, none⟩ = some (.slice A0_2 l0_2.length c0_2) ∧ w'.cell? ad622 = some (.string ((rd_T72 t619 0).f0)) ∧ w'.cell? ⟨ad622.block, ad622.off + 1, none⟩ = some (.int .i64 ((rd_T72 t619 0).f1)) ∧ w'.cell? ⟨ad622.block, ad622.off + 2, none⟩ = some (.int .i64 ((rd_T72 t619 0).f2)) ∧ w'.cell? ⟨ad622.block, ad622.off + 3, none⟩ = some (.string ((rd_T72 t619 0).f3))) ⟨hHeld.1, hHeld.2.1, hHeld.2.2, hx622_0, hx622_1, hx622_2, hx622_3⟩ (fun w' h_ => ⟨h_.1, h_.2.1, h_.2.2.1⟩) ?_
 replace hHeld := And.intro hHeld.1 (And.intro hHeld.2.1 (And.intro hHeld.2.2 (And.intro hx622_0 (And.intro hx622_1 (And.intro hx622_2 hx622_3)))))
 refine normS_ ?_
 refine pureS_ 17 (some 20) ?_
 refine pureS_ 18 (some 21) ?_
 refine takeS_ 19 (some 22) ?_
 refine oneS_ 22 (some 25) (fun K hK => ?_)
 refine goes_ Tryz.func66 (by kernel_rfl) rfl #[.int .i64 a0_1] (by rfl) rfl rfl argsS_ ?_
 with_reducible refine (impl_serialText.calls a0_1 t623 _ A8.out).mono ?_
 rintro e w14 ⟨rfl, hb⟩
 have HS3_ := (hb.cell (World.block_lt_of_cell? _ _ (hHeld.2.2.2.1))).trans (hHeld.2.2.2.1)
 have HS4_ := (hb.cell (World.block_lt_of_cell? _ _ (hHeld.2.2.2.2.1))).trans (hHeld.2.2.2.2.1)
 have HS5_ := (hb.cell (World.block_lt_of_cell? _ _ (hHeld.2.2.2.2.2.1))).trans (hHeld.2.2.2.2.2.1)
 have HS6_ := (hb.cell (World.block_lt_of_cell? _ _ (hHeld.2.2.2.2.2.2))).trans (hHeld.2.2.2.2.2.2)
 refine ⟨_, rfl, ?_⟩
 replace HO621 := a0_ (Kd.R_below (kR_ HO621.out) hb)
 replace BK616 := a0_ (bkB_ BK616 hb)
 replace HB := a0_ (below_step bq1_ hb)
 (try clear hb)
 (try clear hb2)
 (try clear hk)
 (try clear hi)
 refine hK.out _ _ ⟨(blk_cell BK616.out 0).trans rfl, (blk_cell BK616.out 1).trans rfl, (blk_cell BK616.out 2).trans rfl, HS3_, HS4_, HS5_, HS6_⟩ (fun hHeld => ?_)
 clear hK K
 refine normS_ ?_
 refine pureS_ 23 (some 26) ?_
 refine pureS_ 24 (some 27) ?_
 refine pureS_ 25 (some 2) ?_
 refine done_ (done_of HT_.out (by kernel_rfl)) ?_
 try go_wp2
 go_ret
 exact ⟨rr_, bq1_⟩
end Go.Proofs.YtkpkfallgjdkmaaGreatDoor.P
namespace Go.Proofs.YtkpkfallgjdkmaaGreatDoor.Pure
open Go.RowKit Go.Proofs.YtkpkfallgjdkmaaGreatDoor.P Go.Proofs.YtkpkfallgjdkmaaGreatDoorW.PrintWords Go.Proofs.YtkpkfallgjdkmaaGreatDoorW.PrintLast Go.Proofs.YtkpkfallgjdkmaaGreatDoorW.PrintMore
set_option linter.unusedVariables false
set_option linter.unusedSimpArgs false
def apexL (l : List UInt8) : Bool := goodL l && !l.contains 42
theorem apex_impl (s : ByteArray) : impl_isApex.f s = some (apexL s.data.toList) := by
 unfold impl_isApex.f impl_GoodName.f apexL
 rw [contains_eq]
 cases goodL s.data.toList with
 | true => rfl
 | false => rfl
theorem apex_loop (l : List ByteArray) (hl : l.length < 1099511627776) : ∀ (m i : Nat) (ok : Bool), i + m = l.length →
 Ev (fun k => spec_l6Apex.l0 k ok l (l.length : Int) (i : Int)) (ok && (l.drop i).all (fun x => decide (x.data.toList ≠ [42])))
 | 0, i, ok, him => by
  rw [List.drop_of_length_le (by omega), List.all_nil, Bool.and_true]
  refine Ev.step (f := fun _ => some ok) (fun k => ?_) (Ev.now _)
  show spec_l6Apex.l0 (k + 1) ok l (l.length : Int) (i : Int) = _
  rw [spec_l6Apex.l0, if_neg (by omega)]
 | m + 1, i, ok, him => by
  have hi : i < l.length := by omega
  have ih := apex_loop l hl m (i + 1) (ok && decide (l[i].data.toList ≠ [42])) (by omega)
  rw [List.drop_eq_getElem_cons hi, List.all_cons, ← Bool.and_assoc]
  refine Ev.step (fun k => ?_) ih
  show spec_l6Apex.l0 (k + 1) ok l (l.length : Int) (i : Int) = _
  rw [spec_l6Apex.l0, if_pos (by omega), if_pos (by omega), if_pos (by omega), td_rd l i hi, w64n (by omega), Lib.toList_data]
  cases ok with
  | true =>
   rw [if_pos rfl, Bool.true_and]
   congr 1
   by_cases h : l[i].data.toList = [42]
   · rw [h]; simp
   · rw [decide_eq_true h, bne_iff_ne.mpr h]
  | false => rfl
theorem apex_spec (s : ByteArray) (hs : s.size ≤ 1048576) : Ev (fun k => spec_l6Apex.f k s) (apexL s.data.toList) := by
 obtain ⟨r, e1, e2, e3⟩ := labels_ev s (by omega)
 have hlen : r.1.length < 1099511627776 := by
  by_cases h : r.2 = true
  · rw [e3 h, List.length_map]
    have := (good_all (e2.symm.trans h)).1
    omega
  · exact labels_short s hs r e1
 refine Ev.congr (fun k => rfl) (Ev.bind e1 ?_)
 have := apex_loop r.1 hlen r.1.length 0 r.2 (by omega)
 rw [List.drop_zero] at this
 have et : (r.2 && r.1.all (fun x => decide (x.data.toList ≠ [42]))) = apexL s.data.toList := by
  unfold apexL
  rw [e2]
  cases hg : goodL s.data.toList with
  | false => simp
  | true =>
   rw [e3 (e2.trans hg), Bool.true_and, Bool.true_and]
   have h1 := star_label hg
   rw [Bool.eq_iff_iff, List.all_eq_true, Bool.not_eq_true', Bool.eq_false_iff]
   constructor
   · intro h2 h3
     obtain ⟨p, hp, rfl⟩ := h1.1 h3
     exact of_decide_eq_true (h2 (mkB [42]) (List.mem_map.2 ⟨_, hp, rfl⟩)) (mkB_data _)
   · intro h2 x hx
     refine decide_eq_true fun h3 => ?_
     obtain ⟨p, hp, rfl⟩ := List.mem_map.1 hx
     rw [mkB_data] at h3
     exact h2 (h1.2 ⟨p, hp, h3⟩)
 rw [et] at this
 exact this
open Classical in
noncomputable def kB (r : ZRec) : List UInt8 := if h : ∃ x : ByteArray, Ev (fun k => spec_l3Bytes.f k r.f1 r.f3) (x, true) then h.choose.data.toList else []
theorem kB_eq {r : ZRec} {x : ByteArray} (h : Ev (fun k => spec_l3Bytes.f k r.f1 r.f3) (x, true)) : kB r = x.data.toList := by
 have hex : ∃ x : ByteArray, Ev (fun k => spec_l3Bytes.f k r.f1 r.f3) (x, true) := ⟨x, h⟩
 unfold kB
 rw [dif_pos hex]
 rw [(Prod.mk.inj (Ev.unique hex.choose_spec h)).1]
noncomputable def goodRB (r : ZRec) : Bool := @decide (Ev (fun k => impl_GoodRecord.f k r.f0 r.f1 r.f2 r.f3) true) (Classical.propDecidable _)
theorem goodR_true {r : ZRec} (h : goodRB r = true) : Ev (fun k => impl_GoodRecord.f k r.f0 r.f1 r.f2 r.f3) true := by
 unfold goodRB at h
 exact @of_decide_eq_true _ (Classical.propDecidable _) h
theorem goodR_both (r : ZRec) (hr : Small r.f0 ∧ Small r.f3) : Ev (fun k => spec_GoodRecord.f k r.f0 r.f1 r.f2 r.f3) (goodRB r) ∧ Ev (fun k => impl_GoodRecord.f k r.f0 r.f1 r.f2 r.f3) (goodRB r) := by
 obtain ⟨b, _, r1, r2, _⟩ := goodrec_both r.f0 r.f1 r.f2 r.f3 hr.1 hr.2
 have e : goodRB r = b := by
  unfold goodRB
  cases b with
  | true => exact @decide_eq_true _ (Classical.propDecidable _) r2
  | false => exact @decide_eq_false _ (Classical.propDecidable _) fun h => by have := Ev.unique h r2; cases this
 rw [e]
 exact ⟨r1, r2⟩
theorem good_of {r : ZRec} (hr : Small r.f0 ∧ Small r.f3) (h : goodRB r = true) : r.f0.size ≤ 60 ∧ goodL r.f0.data.toList = true ∧ (1 ≤ r.f1 ∧ r.f1 ≤ 16) ∧ (0 ≤ r.f2 ∧ r.f2 ≤ 100000) ∧ r.f3.size ≤ 100 :=
 good_parts r.f0 r.f1 r.f2 r.f3 hr.1 hr.2 (goodR_true h)
theorem cmp_both (r s : ZRec) (hr : Small r.f0 ∧ Small r.f3) (hs : Small s.f0 ∧ Small s.f3) (gr : goodRB r = true) (gs : goodRB s = true) :
 Ev (fun k => spec_l3Compare.f k r.f0 r.f1 r.f2 r.f3 s.f0 s.f1 s.f2 s.f3) (recO kB r s) ∧ Ev (fun k => impl_compareRecords.f k r.f0 r.f1 r.f2 r.f3 s.f0 s.f1 s.f2 s.f3) (recO kB r s) := by
 obtain ⟨x, x1, x2⟩ := good_bytes r.f1 r.f3 r.f0 r.f2 hr.1 hr.2 (goodR_true gr)
 obtain ⟨y, y1, y2⟩ := good_bytes s.f1 s.f3 s.f0 s.f2 hs.1 hs.2 (goodR_true gs)
 have e : recO kB r s = ordR r.f0.data.toList r.f1 r.f2 x.data.toList s.f0.data.toList s.f1 s.f2 y.data.toList := by
  unfold recO
  rw [kB_eq x1, kB_eq y1]
  rfl
 rw [e]
 exact ⟨specOrd_ev _ _ _ _ _ _ _ _ _ _ hr.1 hs.1 (good_of hr gr).2.1 (good_of hs gs).2.1 x1 y1, implOrd_ev _ _ _ _ _ _ _ _ _ _ hr.1 hs.1 x2 y2⟩
noncomputable def riseFrom : ZRec → List ZRec → Bool
 | _, [] => true
 | p, r :: l => goodRB r && (decide (recO kB p r < 0) && riseFrom r l)
noncomputable def riseB : List ZRec → Bool
 | [] => true
 | r :: l => goodRB r && riseFrom r l
theorem rise_loops (L : List ZRec) (hL : L.length < 1099511627776) (hs : ∀ r ∈ L, Small r.f0 ∧ Small r.f3) : ∀ (m i : Nat), i + m = L.length → ∀ (hi : 1 ≤ i) (hp : i - 1 < L.length), goodRB L[i - 1] = true →
 Ev (fun k => impl_areRising.l0 k L L (L.length : Int) (i : Int)) (riseFrom L[i - 1] (L.drop i)) ∧ Ev (fun k => spec_l6List.l0 k L L (L.length : Int) (i : Int)) (riseFrom L[i - 1] (L.drop i) && decide ((L.length : Int) ≤ 40))
 | 0, i, h, hi, hp, hg => by
  rw [List.drop_of_length_le (by omega), riseFrom, Bool.true_and]
  refine ⟨Ev.step (f := fun _ => some true) (fun k => ?_) (Ev.now _), Ev.step (f := fun _ => some (decide ((L.length : Int) ≤ 40))) (fun k => ?_) (Ev.now _)⟩
  · show impl_areRising.l0 (k + 1) L L (L.length : Int) (i : Int) = _
    rw [impl_areRising.l0, if_neg (by omega)]
  · show spec_l6List.l0 (k + 1) L L (L.length : Int) (i : Int) = _
    rw [spec_l6List.l0, if_neg (by omega)]
 | m + 1, i, h, hi, hp, hg => by
  have hlt : i < L.length := by omega
  have wp : wrap64 ((i : Int) - 1) = ((i - 1 : Nat) : Int) := by unfold wrap64; omega
  obtain ⟨g1, g2⟩ := goodR_both L[i] (hs _ (List.getElem_mem hlt))
  have e1 : ∀ k, impl_areRising.l0 (k + 1) L L (L.length : Int) (i : Int) = (impl_GoodRecord.f k L[i].f0 L[i].f1 L[i].f2 L[i].f3).bind fun t598 => (if t598 = true then ((impl_compareRecords.f k L[i - 1].f0 L[i - 1].f1 L[i - 1].f2 L[i - 1].f3 L[i].f0 L[i].f1 L[i].f2 L[i].f3).bind fun t600 => (if t600 ≥ 0 then (some false) else (impl_areRising.l0 k L L (L.length : Int) ((i + 1 : Nat) : Int)))) else (some false)) := fun k => by
   rw [impl_areRising.l0, if_pos (by omega), if_pos (by omega), if_pos (by omega)]
   simp only [if_pos (show (i : Int) > 0 by omega), wp, if_pos (show (0 : Int) ≤ ((i - 1 : Nat) : Int) by omega), if_pos (show ((i - 1 : Nat) : Int) < (L.length : Int) by omega), rdI L i hlt, rdI L (i - 1) hp, w64n (show i < 4611686018427387904 by omega)]
  have e2 : ∀ k, spec_l6List.l0 (k + 1) L L (L.length : Int) (i : Int) = (spec_GoodRecord.f k L[i].f0 L[i].f1 L[i].f2 L[i].f3).bind fun t598 => (if t598 = true then ((spec_l3Compare.f k L[i - 1].f0 L[i - 1].f1 L[i - 1].f2 L[i - 1].f3 L[i].f0 L[i].f1 L[i].f2 L[i].f3).bind fun t600 => (if t600 ≥ 0 then (some false) else (spec_l6List.l0 k L L (L.length : Int) ((i + 1 : Nat) : Int)))) else (some false)) := fun k => by
   rw [spec_l6List.l0, if_pos (by omega), if_pos (by omega), if_pos (by omega)]
   simp only [if_pos (show (i : Int) > 0 by omega), wp, if_pos (show (0 : Int) ≤ ((i - 1 : Nat) : Int) by omega), if_pos (show ((i - 1 : Nat) : Int) < (L.length : Int) by omega), rdI L i hlt, rdI L (i - 1) hp, w64n (show i < 4611686018427387904 by omega)]
  rw [List.drop_eq_getElem_cons hlt, riseFrom]
  cases hgi : goodRB L[i] with
  | false =>
   rw [hgi] at g1 g2
   exact ⟨Ev.step e1 (Ev.bind g2 (Ev.now _)), Ev.step e2 (Ev.bind g1 (Ev.now _))⟩
  | true =>
   rw [hgi] at g1 g2
   obtain ⟨c1, c2⟩ := cmp_both L[i - 1] L[i] (hs _ (List.getElem_mem hp)) (hs _ (List.getElem_mem hlt)) hg hgi
   have ih := rise_loops L hL hs m (i + 1) (by omega) (by omega) (by simpa using hlt) hgi
   rw [Bool.true_and]
   have ih : Ev (fun k => impl_areRising.l0 k L L (L.length : Int) ((i + 1 : Nat) : Int)) (riseFrom L[i] (L.drop (i + 1))) ∧ Ev (fun k => spec_l6List.l0 k L L (L.length : Int) ((i + 1 : Nat) : Int)) (riseFrom L[i] (L.drop (i + 1)) && decide ((L.length : Int) ≤ 40)) := ih
   by_cases hc : recO kB L[i - 1] L[i] < 0
   · rw [decide_eq_true hc, Bool.true_and]
     refine ⟨Ev.step e1 (Ev.bind g2 ?_), Ev.step e2 (Ev.bind g1 ?_)⟩
     · simp only [if_true]
       refine Ev.bind c2 ?_
       simp only [if_neg (show ¬ recO kB L[i - 1] L[i] ≥ 0 by omega)]
       exact ih.1
     · simp only [if_true]
       refine Ev.bind c1 ?_
       simp only [if_neg (show ¬ recO kB L[i - 1] L[i] ≥ 0 by omega)]
       exact ih.2
   · rw [decide_eq_false hc, Bool.false_and, Bool.false_and]
     refine ⟨Ev.step e1 (Ev.bind g2 ?_), Ev.step e2 (Ev.bind g1 ?_)⟩
     · simp only [if_true]
       refine Ev.bind c2 ?_
       simp only [if_pos (show recO kB L[i - 1] L[i] ≥ 0 by omega)]
       exact Ev.now _
     · simp only [if_true]
       refine Ev.bind c1 ?_
       simp only [if_pos (show recO kB L[i - 1] L[i] ≥ 0 by omega)]
       exact Ev.now _
theorem rise_both (L : List ZRec) (hL : L.length < 1099511627776) (hs : ∀ r ∈ L, Small r.f0 ∧ Small r.f3) : Ev (fun k => impl_areRising.f k L) (riseB L) ∧ Ev (fun k => spec_l6List.f k L) (riseB L && decide ((L.length : Int) ≤ 40)) := by
 cases L with
 | nil =>
  refine ⟨Ev.congr (fun k => rfl) (Ev.step (f := fun _ => some true) (fun k => ?_) (Ev.now _)), Ev.congr (fun k => rfl) (Ev.step (f := fun _ => some (decide ((([] : List ZRec).length : Int) ≤ 40))) (fun k => ?_) (Ev.now _))⟩
  · show impl_areRising.l0 (k + 1) [] [] ((([] : List ZRec).length : Nat) : Int) 0 = _
    rw [impl_areRising.l0, if_neg (by decide)]
  · show spec_l6List.l0 (k + 1) [] [] ((([] : List ZRec).length : Nat) : Int) 0 = _
    rw [spec_l6List.l0, if_neg (by decide)]
 | cons x l =>
  obtain ⟨g1, g2⟩ := goodR_both x (hs _ List.mem_cons_self)
  have e1 : ∀ k, impl_areRising.l0 (k + 1) (x :: l) (x :: l) ((x :: l).length : Int) 0 = (impl_GoodRecord.f k x.f0 x.f1 x.f2 x.f3).bind fun t598 => (if t598 = true then (impl_areRising.l0 k (x :: l) (x :: l) ((x :: l).length : Int) ((1 : Nat) : Int)) else (some false)) := fun k => by
   have hlen : (0 : Int) < ((x :: l).length : Int) := by rw [List.length_cons]; omega
   rw [impl_areRising.l0, if_pos hlen, if_pos (by decide), if_pos hlen]
   simp only [if_neg (show ¬ (0 : Int) > 0 by decide), show wrap64 (0 + 1) = ((1 : Nat) : Int) by unfold wrap64; omega, show rd_T72 (x :: l) 0 = x from rfl]
  have e2 : ∀ k, spec_l6List.l0 (k + 1) (x :: l) (x :: l) ((x :: l).length : Int) 0 = (spec_GoodRecord.f k x.f0 x.f1 x.f2 x.f3).bind fun t598 => (if t598 = true then (spec_l6List.l0 k (x :: l) (x :: l) ((x :: l).length : Int) ((1 : Nat) : Int)) else (some false)) := fun k => by
   have hlen : (0 : Int) < ((x :: l).length : Int) := by rw [List.length_cons]; omega
   rw [spec_l6List.l0, if_pos hlen, if_pos (by decide), if_pos hlen]
   simp only [if_neg (show ¬ (0 : Int) > 0 by decide), show wrap64 (0 + 1) = ((1 : Nat) : Int) by unfold wrap64; omega, show rd_T72 (x :: l) 0 = x from rfl]
  rw [show riseB (x :: l) = (goodRB x && riseFrom x l) from rfl]
  cases hg : goodRB x with
  | false =>
   rw [hg] at g1 g2
   exact ⟨Ev.congr (fun k => rfl) (Ev.step e1 (Ev.bind g2 (Ev.now _))), Ev.congr (fun k => rfl) (Ev.step e2 (Ev.bind g1 (Ev.now _)))⟩
  | true =>
   rw [hg] at g1 g2
   have h := rise_loops (x :: l) hL hs l.length 1 (by rw [List.length_cons]; omega) (Nat.le_refl _) (by rw [List.length_cons]; omega) hg
   have h : Ev (fun k => impl_areRising.l0 k (x :: l) (x :: l) ((x :: l).length : Int) ((1 : Nat) : Int)) (riseFrom x l) ∧ Ev (fun k => spec_l6List.l0 k (x :: l) (x :: l) ((x :: l).length : Int) ((1 : Nat) : Int)) (riseFrom x l && decide (((x :: l).length : Int) ≤ 40)) := h
   rw [Bool.true_and]
   exact ⟨Ev.congr (fun k => rfl) (Ev.step e1 (Ev.bind g2 (by simp only [if_true]; exact h.1))), Ev.congr (fun k => rfl) (Ev.step e2 (Ev.bind g1 (by simp only [if_true]; exact h.2)))⟩
theorem riseFrom_true : ∀ (l : List ZRec) (p : ZRec), riseFrom p l = true → (∀ r ∈ l, goodRB r = true) ∧ (∀ r ∈ l, recO kB p r < 0) ∧ Rise kB l
 | [], p, h => ⟨fun r hr => (by cases hr), fun r hr => (by cases hr), List.Pairwise.nil⟩
 | x :: l, p, h => by
  unfold riseFrom at h
  rw [Bool.and_eq_true, Bool.and_eq_true, decide_eq_true_eq] at h
  obtain ⟨h1, h2, h3⟩ := riseFrom_true l x h.2.2
  refine ⟨fun r hr => ?_, fun r hr => ?_, List.pairwise_cons.2 ⟨h2, h3⟩⟩
  · rcases List.mem_cons.1 hr with rfl | hr
    · exact h.1
    · exact h1 r hr
  · rcases List.mem_cons.1 hr with rfl | hr
    · exact h.2.1
    · exact recO_trans kB h.2.1 (h2 r hr)
theorem riseB_true (L : List ZRec) (h : riseB L = true) : (∀ r ∈ L, goodRB r = true) ∧ Rise kB L := by
 cases L with
 | nil => exact ⟨fun r hr => (by cases hr), List.Pairwise.nil⟩
 | cons x l =>
  unfold riseB at h
  rw [Bool.and_eq_true] at h
  obtain ⟨h1, h2, h3⟩ := riseFrom_true l x h.2
  refine ⟨fun r hr => ?_, List.pairwise_cons.2 ⟨h2, h3⟩⟩
  rcases List.mem_cons.1 hr with rfl | hr
  · exact h.1
  · exact h1 r hr
noncomputable def wholeB (apex : ByteArray) (L : List ZRec) : Bool := apexL apex.data.toList && (decide ((L.length : Int) ≤ 40) && riseB L)
noncomputable def ruleT (apex : ByteArray) (L : List ZRec) : Int := if wholeB apex L = true then ruleS apex L else 9
theorem rule_both (apex : ByteArray) (L : List ZRec) (ha : apex.size ≤ 1048576) (hL : L.length ≤ 1048576) (hs : ∀ r ∈ L, Small r.f0 ∧ Small r.f3) : Ev (fun k => spec_RuleOf.f k apex L) (ruleT apex L) ∧ Ev (fun k => impl_RuleOf.f k apex L) (ruleT apex L) := by
 obtain ⟨r1, r2⟩ := rise_both L (by omega) hs
 have hz : SizeOk apex L := ⟨ha, hL, fun r hr => (hs r hr).1⟩
 unfold ruleT wholeB
 constructor
 · refine Ev.congr (fun k => rfl) (Ev.bind (apex_spec apex ha) ?_)
   cases apexL apex.data.toList with
   | false => exact Ev.now _
   | true =>
    simp only [if_true, Bool.true_and]
    refine Ev.bind r2 ?_
    rw [Bool.and_comm]
    cases (decide ((L.length : Int) ≤ 40) && riseB L) with
    | false => exact Ev.now _
    | true =>
     simp only [if_true]
     exact Ev.bind (specRule_ev apex L ha (by omega) fun r hr => (hs r hr).1) (Ev.now _)
 · have hw : Ev (fun k => impl_isWhole.f k apex L) (apexL apex.data.toList && (decide ((L.length : Int) ≤ 40) && riseB L)) := by
    refine Ev.congr (f := fun k => if apexL apex.data.toList = true then (if (L.length : Int) ≤ 40 then ((impl_areRising.f k L).bind fun t602 => (some t602)) else (some false)) else (some false)) (fun k => by unfold impl_isWhole.f; rw [apex_impl, Option.bind_some]) ?_
    cases apexL apex.data.toList with
    | false => exact Ev.now _
    | true =>
     simp only [if_true, Bool.true_and]
     by_cases h40 : (L.length : Int) ≤ 40
     · simp only [if_pos h40, decide_eq_true h40, Bool.true_and]
       exact Ev.bind r1 (Ev.now _)
     · simp only [if_neg h40, decide_eq_false h40, Bool.false_and]
       exact Ev.now _
   refine Ev.congr (f := fun k => (impl_isWhole.f k apex L).bind fun t => (if t = true then some (firstI apex L 6 1) else some 9)) (fun k => by unfold impl_RuleOf.f; rw [if_pos hz]) (Ev.bind hw ?_)
   cases hw2 : (apexL apex.data.toList && (decide ((L.length : Int) ≤ 40) && riseB L)) with
   | false => exact Ev.now _
   | true =>
    simp only [if_true]
    rw [Bool.and_eq_true, Bool.and_eq_true] at hw2
    obtain ⟨g, ri⟩ := riseB_true L hw2.2.2
    rw [rule_same kB apex L ri fun r hr => (good_of (hs r hr) (g r hr)).2.2.1.1]
    exact Ev.now _
end Go.Proofs.YtkpkfallgjdkmaaGreatDoor.Pure
namespace Go.Proofs.YtkpkfallgjdkmaaGreatDoor.P
open Go.RowKit Go.Proofs.YtkpkfallgjdkmaaGreatDoorW.PrintWords Go.Proofs.YtkpkfallgjdkmaaGreatDoorW.PrintLast Go.Proofs.YtkpkfallgjdkmaaGreatDoorW.PrintMore
attribute [local go_sem] max2_int min2_int max_two min_two max_three min_three max_four min_four
set_option linter.unusedVariables false
set_option linter.unusedSimpArgs false
def impl_NamesIn.f (k : Nat) (a0_0 : ByteArray) (a0_1 : Int) (l0_2 : List (S72)) : Option (List ByteArray × Bool) := (impl_GoodZone.f k a0_0 a0_1 l0_2).bind fun t979 => (if t979 = true then ((impl_namesIn.f k l0_2).bind fun t980 => (some (t980, true))) else (some (([] : List ByteArray), false)))
set_option maxHeartbeats 8000000 in
set_option maxRecDepth 100000 in
theorem impl_NamesIn.calls (k : Nat) (a0_0 : ByteArray) (a0_1 : Int) (A0_2 : Option Addr) (c0_2 : Nat) (l0_2 : List (S72)) (r1 : List ByteArray) (r2 : Bool) (w : World) (hr0_2 : Kd.C k72 w A0_2 l0_2.length l0_2) (hc0_2 : l0_2.length ≤ c0_2) (h : impl_NamesIn.f k a0_0 a0_1 l0_2 = some (r1, r2)) (hv_ : Vars w := by exact vv_) :
 Calls Tryz.prog 44 #[.agg #[.string a0_0, .int .i64 a0_1, .slice A0_2 l0_2.length c0_2]] w fun e w' => ∃ v0_ : Value, e = .returned (.tuple #[v0_, .bool r2]) ∧ Kd.R Kd.string 9 w' w.heap.size (fun _ => True) v0_ r1 ∧ Below w.heap.size w w' := by
 have HV_ := a0_ hv_
 clear hv_
 have hu42 := Tryz.underlying42
 have HR0_2 := a0_ hr0_2
 have HC0_2 := a0_ hc0_2
 clear hr0_2 hc0_2
 have HB := a0_ (Below.refl w.heap.size w)
 have H : ((impl_GoodZone.f k a0_0 a0_1 l0_2).bind fun t979 => (if t979 = true then ((impl_namesIn.f k l0_2).bind fun t980 => (some (t980, true))) else (some (([] : List ByteArray), false)))) = some (r1, r2) := h
 clear h
 obtain ⟨t979, A20, H⟩ := Option.bind_eq_some_iff.mp H
 have A2 := a0_ A20
 clear A20
 by_cases c3 : t979 = true
 case neg =>
  replace c3 := Bool.eq_false_iff.mpr c3
  subst c3
  rw [if_neg (show ¬ (false = true) by decide)] at H
  simp only [Option.some.injEq, Prod.mk.injEq] at H
  obtain ⟨rfl, rfl⟩ := H
  go_enter Tryz.func44, Tryz.ntmps44
  go_wp2_with (first | ((with_reducible refine gate_dst (N := 1) rfl ?_); refine boxS_ 1 #[.string a0_0, .int .i64 a0_1, .slice A0_2 l0_2.length c0_2] 42 (fun gb978 hg w10 hbox hb => ?_); have n0_ := a0_ (below_step bq0_ hb); have n1_ := a0_ (hbox); have n2_ := a0_ (gw_ hg : w.heap.size ≤ gb978); have n3_ := n2_; clear HB; have HB := n0_; have BK978 := n1_; have GW978 := n2_; have GE978 := n3_; clear n0_ n1_ n2_ n3_; clear hb hbox hg; obtain ⟨z11_0, z11_1, z11_2, q11_0, q11_1, q11_2⟩ := bk3_ BK978.out) | ((with_reducible refine gate_callee (f := 35) rfl ?_); refine goesL_ (some 5) rfl rfl Tryz.func35 (by kernel_rfl) rfl #[.agg #[.string a0_0, .int .i64 a0_1, .slice A0_2 l0_2.length c0_2]] rfl argsS_ ?_; (with_reducible refine (impl_GoodZone.calls k a0_0 a0_1 _ _ l0_2 false _ ?side1 ?side2 A2.out).mono ?_); (case side1 => exact kC_ HR0_2.out HB.out); (case side2 => exact HC0_2.out); rintro e w12 ⟨rfl, hb⟩; refine ⟨_, rfl, ?_⟩; replace BK978 := a0_ (bkB_ BK978 hb); replace HB := a0_ (below_step bq1_ hb); (try clear hb); (try clear hb2); (try clear hk); (try clear hi)))
  go_ret2
  exact ⟨_, rr_, by first | exact Kd.R_nil _ _ _ _ _ | exact Kd.N_nil _ _ _ _ _ | exact Kd.V_nil _ _ _ _ _ | exact Kd.Q_nil _ _ _ _ _ | exact Kd.S_nil _ _ _ _ _, bq1_⟩
 subst c3
 rw [if_pos rfl] at H
 obtain ⟨t980, A40, H⟩ := Option.bind_eq_some_iff.mp H
 have A4 := a0_ A40
 clear A40
 simp only [Option.some.injEq, Prod.mk.injEq] at H
 obtain ⟨rfl, rfl⟩ := H
 go_enter Tryz.func44, Tryz.ntmps44
 go_wp2_with (first | ((with_reducible refine gate_dst (N := 1) rfl ?_); refine boxS_ 1 #[.string a0_0, .int .i64 a0_1, .slice A0_2 l0_2.length c0_2] 42 (fun gb978 hg w5 hbox hb => ?_); have n0_ := a0_ (below_step bq0_ hb); have n1_ := a0_ (hbox); have n2_ := a0_ (gw_ hg : w.heap.size ≤ gb978); have n3_ := n2_; clear HB; have HB := n0_; have BK978 := n1_; have GW978 := n2_; have GE978 := n3_; clear n0_ n1_ n2_ n3_; clear hb hbox hg; obtain ⟨z6_0, z6_1, z6_2, q6_0, q6_1, q6_2⟩ := bk3_ BK978.out) | ((with_reducible refine gate_callee (f := 35) rfl ?_); refine goesL_ (some 5) rfl rfl Tryz.func35 (by kernel_rfl) rfl #[.agg #[.string a0_0, .int .i64 a0_1, .slice A0_2 l0_2.length c0_2]] rfl argsS_ ?_; (with_reducible refine (impl_GoodZone.calls k a0_0 a0_1 _ _ l0_2 true _ ?side1 ?side2 A2.out).mono ?_); (case side1 => exact kC_ HR0_2.out HB.out); (case side2 => exact HC0_2.out); rintro e w7 ⟨rfl, hb⟩; refine ⟨_, rfl, ?_⟩; replace BK978 := a0_ (bkB_ BK978 hb); replace HB := a0_ (below_step bq1_ hb); (try clear hb); (try clear hb2); (try clear hk); (try clear hi); obtain ⟨z8_0, z8_1, z8_2, q8_0, q8_1, q8_2⟩ := bk3_ BK978.out) | ((with_reducible refine gate_callee (f := 75) rfl ?_); refine goesL_ (some 9) rfl rfl Tryz.func75 (by kernel_rfl) rfl #[.slice A0_2 l0_2.length c0_2] rfl argsS_ ?_; (with_reducible refine (impl_namesIn.calls k _ _ l0_2 t980 _ ?side1 ?side2 A4.out).mono ?_); (case side1 => exact kC_ HR0_2.out HB.out); (case side2 => exact HC0_2.out); rintro e w9 ⟨v981, rfl, ho0, hb⟩; refine ⟨_, rfl, ?_⟩; have HO982 := a0_ (Kd.R_lower ho0 (below_size bq1_)); replace BK978 := a0_ (bkB_ BK978 hb); replace HB := a0_ (below_step bq1_ hb); (try clear hb); (try clear hb2); (try clear hk); (try clear hi); (try clear ho0)))
 go_ret2
 exact ⟨_, rr_, by (with_reducible repeat (first | apply Kd.R_alloc | apply Kd.R_drewN | apply Kd.R_drew)); exact HO982.out, bq1_⟩
end Go.Proofs.YtkpkfallgjdkmaaGreatDoor.P
namespace Go.Proofs.YtkpkfallgjdkmaaGreatDoor.Pure
open Go.RowKit Go.Proofs.YtkpkfallgjdkmaaGreatDoor.P Go.Proofs.YtkpkfallgjdkmaaGreatDoorW.PrintWords Go.Proofs.YtkpkfallgjdkmaaGreatDoorW.PrintLast Go.Proofs.YtkpkfallgjdkmaaGreatDoorW.PrintMore
set_option linter.unusedVariables false
set_option linter.unusedSimpArgs false
theorem num_it (n : Int) (h0 : 0 ≤ n) (h1 : n < 9223372036854775807) : Ev (fun k => spec_l1Num.f k n) (itB n) := by
 have := num_ev n.toNat n.toNat (Nat.le_refl _) (by omega)
 rwa [show ((n.toNat : Nat) : Int) = n by omega] at this
theorem itoa_it (n : Int) (h0 : 0 ≤ n) (h1 : n < 9223372036854775807) : strconv_Itoa.f n = some (itB n) := by
 unfold strconv_Itoa.f itB Lib.itoa
 rw [if_pos (by omega), if_neg (by omega)]
 rfl
def serT (c : Int) : ByteArray := itB (Int.tmod c 4294967296)
theorem ser_range {c : Int} (h : 0 ≤ c) : 0 ≤ Int.tmod c 4294967296 ∧ Int.tmod c 4294967296 < 9223372036854775807 := by
 rw [Int.tmod_eq_emod_of_nonneg h]
 omega
theorem soa_ev (apex : ByteArray) (c : Int) (L : List ZRec) (h : 0 ≤ c) : Ev (fun k => spec_l6Soa.f k apex c L) (serT c) :=
 Ev.congr (fun k => rfl) (Ev.bind (num_it _ (ser_range h).1 (ser_range h).2) (Ev.now _))
theorem ser_impl (c : Int) (h : 0 ≤ c) : impl_serialText.f c = some (serT c) := by
 unfold impl_serialText.f
 rw [itoa_it _ (ser_range h).1 (ser_range h).2]
 rfl
theorem gz_loop (apex : ByteArray) (c : Int) (L : List ZRec) (hc : 0 ≤ c) (hL : L.length < 1099511627776) : ∀ (m i : Nat), i + m = L.length →
 Ev (fun k => spec_GoodZone.l0 k L (L.length : Int) (i : Int) apex c L) ((L.drop i).all fun r => !decide (r.f1 = 6) || decide (r.f3 = serT c))
 | 0, i, h => by
  rw [List.drop_of_length_le (by omega), List.all_nil]
  refine Ev.step (f := fun _ => some true) (fun k => ?_) (Ev.now _)
  show spec_GoodZone.l0 (k + 1) L (L.length : Int) (i : Int) apex c L = _
  rw [spec_GoodZone.l0, if_neg (by omega)]
 | m + 1, i, h => by
  have hi : i < L.length := by omega
  have ih := gz_loop apex c L hc hL m (i + 1) (by omega)
  have es : ∀ k, spec_GoodZone.l0 (k + 1) L (L.length : Int) (i : Int) apex c L = (if L[i].f1 = 6 then ((spec_l6Soa.f k apex c L).bind fun t750 => (if L[i].f3.toList = t750.toList then (spec_GoodZone.l0 k L (L.length : Int) ((i + 1 : Nat) : Int) apex c L) else (some false))) else (spec_GoodZone.l0 k L (L.length : Int) ((i + 1 : Nat) : Int) apex c L)) := fun k => by
   rw [spec_GoodZone.l0, if_pos (by omega), if_pos (by omega), if_pos (by omega), rdI L i hi, w64n (by omega)]
  rw [List.drop_eq_getElem_cons hi, List.all_cons]
  refine Ev.step es ?_
  by_cases h6 : L[i].f1 = 6
  · rw [decide_eq_true h6, Bool.not_true, Bool.false_or]
    simp only [if_pos h6]
    refine Ev.bind (soa_ev apex c L hc) ?_
    by_cases hs : L[i].f3 = serT c
    · rw [decide_eq_true hs, Bool.true_and]
      exact Ev.congr (fun k => if_pos ((tl_eq _ _).2 hs)) ih
    · rw [decide_eq_false hs, Bool.false_and]
      exact Ev.congr (fun k => if_neg (fun e => hs ((tl_eq _ _).1 e))) (Ev.now _)
  · rw [decide_eq_false h6, Bool.not_false, Bool.true_or, Bool.true_and]
    simp only [if_neg h6]
    exact ih
theorem soa_one {apex : ByteArray} {L : List ZRec} (h : ruleS apex L = 0) : (atL L apex 6).length = 1 ∧ ∀ r ∈ L, r.f1 = 6 → r.f0 = apex := by
 unfold ruleS at h
 by_cases h1 : (L.any fun r => !belowL (nmL r) apex.data.toList) = true
 · rw [if_pos h1] at h; cases h
 · rw [if_neg h1] at h
   by_cases h2 : soaW apex L ≠ 1
   · rw [if_pos h2] at h; cases h
   · have h3 : soaW apex L = 1 := Decidable.not_not.1 h2
     rw [soa_parts] at h3
     have h4 : (L.filter fun r => decide (r.f1 = 6) && decide (r.f0 ≠ apex)).length = 0 := by omega
     refine ⟨by omega, fun r hr h6 => ?_⟩
     apply Decidable.byContradiction
     intro hne
     have : r ∈ L.filter fun r => decide (r.f1 = 6) && decide (r.f0 ≠ apex) := List.mem_filter.2 ⟨hr, by simp [h6, hne]⟩
     rw [List.length_eq_zero_iff.1 h4] at this
     cases this
theorem soa_all {apex : ByteArray} {L : List ZRec} (h : ruleS apex L = 0) (T : ByteArray) : (L.all fun r => !decide (r.f1 = 6) || decide (r.f3 = T)) = (atL L apex 6).all fun r => decide (r.f3 = T) := by
 have h1 := (soa_one h).2
 rw [Bool.eq_iff_iff, List.all_eq_true, List.all_eq_true]
 unfold atL
 constructor
 · intro hh r hr
   obtain ⟨h2, h3⟩ := List.mem_filter.1 hr
   have h4 : r.f1 = 6 := by simpa using (Bool.and_eq_true_iff.1 h3).2
   have := hh r h2
   rw [decide_eq_true h4, Bool.not_true, Bool.false_or] at this
   exact this
 · intro hh r hr
   by_cases h6 : r.f1 = 6
   · rw [decide_eq_true h6, Bool.not_true, Bool.false_or]
     exact hh r (List.mem_filter.2 ⟨hr, by simp [h6, h1 r hr h6]⟩)
   · rw [decide_eq_false h6, Bool.not_false, Bool.true_or]
noncomputable def zoneB (apex : ByteArray) (c : Int) (L : List ZRec) : Bool := decide (0 ≤ c ∧ c ≤ 1152921504606846976) && (decide (ruleT apex L = 0) && (atL L apex 6).all fun r => decide (r.f3 = serT c))
theorem ruleT_zero {apex : ByteArray} {L : List ZRec} (h : ruleT apex L = 0) : wholeB apex L = true ∧ ruleS apex L = 0 := by
 unfold ruleT at h
 by_cases hw : wholeB apex L = true
 · rw [if_pos hw] at h; exact ⟨hw, h⟩
 · rw [if_neg hw] at h; cases h
theorem zone_both (apex : ByteArray) (c : Int) (L : List ZRec) (ha : apex.size ≤ 1048576) (hL : L.length ≤ 1048576) (hs : ∀ r ∈ L, Small r.f0 ∧ Small r.f3) : Ev (fun k => spec_GoodZone.f k apex c L) (zoneB apex c L) ∧ Ev (fun k => impl_GoodZone.f k apex c L) (zoneB apex c L) := by
 obtain ⟨r1, r2⟩ := rule_both apex L ha hL hs
 unfold zoneB
 constructor
 · refine Ev.congr (f := fun k => if decide (0 ≤ c ∧ c ≤ 1152921504606846976) = true then ((spec_RuleOf.f k apex L).bind fun t747 => (spec_GoodZone.j0 k (t747 != 0) apex c L)) else (spec_GoodZone.j0 k true apex c L)) (fun k => by unfold spec_GoodZone.f; rw [within_spec, Option.bind_some]) ?_
   have jb : Ev (fun k => spec_GoodZone.j0 k true apex c L) false := Ev.step (f := fun _ => some false) (fun k => by rw [spec_GoodZone.j0, if_pos rfl]) (Ev.now _)
   by_cases hc : 0 ≤ c ∧ c ≤ 1152921504606846976
   · simp only [decide_eq_true hc, if_true, Bool.true_and]
     refine Ev.bind r1 ?_
     by_cases h0 : ruleT apex L = 0
     · rw [decide_eq_true h0, Bool.true_and, ← soa_all (ruleT_zero h0).2, show (ruleT apex L != 0) = false from bne_eq_false_iff_eq.mpr h0]
       have := gz_loop apex c L hc.1 (by omega) L.length 0 (by omega)
       rw [List.drop_zero] at this
       exact Ev.step (fun k => by rw [spec_GoodZone.j0, if_neg (by decide)]; rfl) this
     · rw [decide_eq_false h0, Bool.false_and, show (ruleT apex L != 0) = true from bne_iff_ne.mpr h0]
       exact jb
   · simp only [decide_eq_false hc, Bool.false_eq_true, if_false, Bool.false_and]
     exact jb
 · have hcnt : impl_isCounter.f c = some (decide (0 ≤ c ∧ c ≤ 1152921504606846976)) := by
    unfold impl_isCounter.f
    rw [within_eq]
    rfl
   refine Ev.congr (f := fun k => if decide (0 ≤ c ∧ c ≤ 1152921504606846976) = true then ((impl_RuleOf.f k apex L).bind fun t618 => (if t618 = 0 then ((impl_at.f k L apex 6).bind fun t619 => (if 0 < (t619.length : Int) then ((impl_serialText.f c).bind fun t623 => (some (((rd_T72 t619 0).f3).toList == t623.toList))) else (none))) else (some false))) else (some false)) (fun k => by unfold impl_GoodZone.f; rw [hcnt, Option.bind_some]) ?_
   by_cases hc : 0 ≤ c ∧ c ≤ 1152921504606846976
   · simp only [decide_eq_true hc, if_true, Bool.true_and]
     refine Ev.bind r2 ?_
     by_cases h0 : ruleT apex L = 0
     · simp only [if_pos h0, decide_eq_true h0, Bool.true_and]
       have h1 := (soa_one (ruleT_zero h0).2).1
       refine Ev.bind (at_ev apex 6 L hL) ?_
       obtain ⟨x, hx⟩ := List.length_eq_one_iff.1 h1
       rw [hx, ser_impl c hc.1]
       simp only [Option.bind_some, if_pos (show (0 : Int) < (([x] : List ZRec).length : Int) by rw [List.length_singleton]; decide), List.all_cons, List.all_nil, Bool.and_true]
       rw [show rd_T72 [x] 0 = x from rfl]
       have e : (x.f3.toList == (serT c).toList) = decide (x.f3 = serT c) := by
        rw [Bool.eq_iff_iff, beq_iff_eq, decide_eq_true_eq]; exact tl_eq _ _
       rw [e]
       exact Ev.now _
     · simp only [if_neg h0, decide_eq_false h0, Bool.false_and]
       exact Ev.now _
   · simp only [decide_eq_false hc, Bool.false_eq_true, if_false, Bool.false_and]
     exact Ev.now _
theorem zone_parts {apex : ByteArray} {c : Int} {L : List ZRec} (h : zoneB apex c L = true) : (0 ≤ c ∧ c ≤ 1152921504606846976) ∧ apexL apex.data.toList = true ∧ L.length ≤ 40 ∧ (∀ r ∈ L, goodRB r = true) ∧ Rise kB L := by
 unfold zoneB at h
 rw [Bool.and_eq_true, Bool.and_eq_true, decide_eq_true_eq, decide_eq_true_eq] at h
 have hw := (ruleT_zero h.2.1).1
 unfold wholeB at hw
 rw [Bool.and_eq_true, Bool.and_eq_true, decide_eq_true_eq] at hw
 obtain ⟨g, ri⟩ := riseB_true L hw.2.2
 exact ⟨h.1, hw.1, by omega, g, ri⟩
theorem szZ_ev (a : ByteArray) (c : Int) (l : List LRec) (ha : a.size ≤ maxLen) (hm : l.length ≤ maxLen) (hw : ∀ y ∈ l, y.f0.size ≤ maxLen ∧ y.f3.size ≤ maxLen) : ∃ t, Ev (fun k => laws_szZone.f k a c l 1048576) t ∧ (0 ≤ t → a.size ≤ 1048576 ∧ l.length ≤ 1048576 ∧ ∀ y ∈ l, Small y.f0 ∧ Small y.f3) := by
 have h2 : wrap64 (1048576 - (a.size : Int)) = 1048576 - (a.size : Int) := by simp only [maxLen] at ha; unfold wrap64; omega
 by_cases hn : 1048576 - (a.size : Int) < 0
 · refine ⟨-1, Ev.congr (f := fun _ => some (-1)) (fun k => ?_) (Ev.now _), fun h => absurd h (by omega)⟩
   unfold laws_szZone.f
   rw [h2, if_pos hn]
 · obtain ⟨t, e, q⟩ := szRS_ev l (1048576 - (a.size : Int)) (by omega) (by omega) hm hw
   have hf : ∀ k, laws_szZone.f k a c l 1048576 = ((laws_szRecordS.f k l (1048576 - (a.size : Int))).bind fun t735 => (if t735 < 0 then (some (-1)) else (some t735))) := fun k => by
    unfold laws_szZone.f
    rw [h2, if_neg hn]
   by_cases ht : t < 0
   · refine ⟨-1, Ev.congr hf (Ev.bind e ?_), fun h => absurd h (by omega)⟩
     simp only [if_pos ht]; exact Ev.now _
   · obtain ⟨q1, q2, q3⟩ := q (by omega)
     refine ⟨t, Ev.congr hf (Ev.bind e ?_), fun h => ⟨by omega, q2, q3⟩⟩
     simp only [if_neg ht]; exact Ev.now _
theorem toZ_ev (a : ByteArray) (c : Int) (l : List LRec) (hl : l.length ≤ 1048576) : Ev (fun k => laws_toZone.f k a c l) (a, c, l.map conv) := Ev.congr (fun k => rfl) (Ev.bind (toRS_ev l hl) (Ev.now _))
theorem eqZ_ev (a : ByteArray) (c : Int) (L : List IRec) (hl : L.length ≤ 1048576) : Ev (fun k => laws_eqZone.f k a c L a c L) true := by
 unfold laws_eqZone.f
 simp only [if_true]
 exact Ev.bind (eqRS_ev L hl) (Ev.now _)
end Go.Proofs.YtkpkfallgjdkmaaGreatDoor.Pure
