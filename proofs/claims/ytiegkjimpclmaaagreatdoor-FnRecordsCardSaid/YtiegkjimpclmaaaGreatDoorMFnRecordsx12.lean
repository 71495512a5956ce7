/- FnRecords: part 13 of 29 of my texts for this claim, joined; the theorem stands in the last. Conditions: none beyond the statement's. -/
import Derived.Test.YtiegkjimpclmaaaGreatDoorMFnRecordsx10
namespace Go.Proofs.YtiegkjimpclmaaaGreatDoor.P
open Go.RowKit Go.Proofs.YtiegkjimpclmaaaGreatDoorW.PrintWords Go.Proofs.YtiegkjimpclmaaaGreatDoorW.PrintLast Go.Proofs.YtiegkjimpclmaaaGreatDoorW.PrintMore
attribute [local go_sem] max2_int min2_int max_two min_two max_three min_three max_four min_four
set_option linter.unusedVariables false
set_option linter.unusedSimpArgs false
def impl_recordText.f (a0_0 : ByteArray) (a0_1 : Int) (a0_2 : Int) (a0_3 : ByteArray) : Option (ByteArray) := (impl_told.f a0_0).bind fun t688 => (if t688.size + 1 ≤ 9223372036854775807 then ((strconv_Itoa.f a0_2).bind fun t689 => (if (t688 ++ (⟨#[32]⟩ : ByteArray)).size + t689.size ≤ 9223372036854775807 then (if ((t688 ++ (⟨#[32]⟩ : ByteArray)) ++ t689).size + 1 ≤ 9223372036854775807 then ((strconv_Itoa.f a0_1).bind fun t690 => (if (((t688 ++ (⟨#[32]⟩ : ByteArray)) ++ t689) ++ (⟨#[32]⟩ : ByteArray)).size + t690.size ≤ 9223372036854775807 then (if ((((t688 ++ (⟨#[32]⟩ : ByteArray)) ++ t689) ++ (⟨#[32]⟩ : ByteArray)) ++ t690).size + 1 ≤ 9223372036854775807 then (if (((((t688 ++ (⟨#[32]⟩ : ByteArray)) ++ t689) ++ (⟨#[32]⟩ : ByteArray)) ++ t690) ++ (⟨#[32]⟩ : ByteArray)).size + a0_3.size ≤ 9223372036854775807 then (some ((((((t688 ++ (⟨#[32]⟩ : ByteArray)) ++ t689) ++ (⟨#[32]⟩ : ByteArray)) ++ t690) ++ (⟨#[32]⟩ : ByteArray)) ++ a0_3)) else (none)) else (none)) else (none))) else (none)) else (none))) else (none))
def impl_recordText.T1 : Bool × List (List Nat × List Nat) := (true, [([], []), ([0], [0]), ([1], [1]), ([2], [2]), ([], []), ([4], [4]), ([5, 2], [5]), ([3, 6], [3, 6]), ([7], [7]), ([], []), ([9], [9]), ([10, 6], [10]), ([8, 11], [8, 11]), ([12], [12]), ([], []), ([14], [14]), ([13, 15], [13, 15]), ([16, 11, 0, 1, 2, 3, 4, 5, 6, 7, 8, 9, 10, 11, 12, 13, 14, 15, 16], [16])])
def impl_recordText.B1 : List Nat := [0, 1, 3, 7, 0, 16, 55, 127, 255, 0, 512, 1655, 4095, 8191, 0, 16384, 65535, 131071]
theorem impl_recordText.tab1 : rtab .any (opsOf Tryz.f81 1) = impl_recordText.T1 := by kernel_rfl
theorem impl_recordText.bits1 : waitsOk impl_recordText.T1.2 impl_recordText.B1 = true := by kernel_rfl
set_option maxHeartbeats 8000000 in
set_option maxRecDepth 100000 in
theorem impl_recordText.calls (a0_0 : ByteArray) (a0_1 : Int) (a0_2 : Int) (a0_3 : ByteArray) (r : ByteArray) (w : World) (h : impl_recordText.f a0_0 a0_1 a0_2 a0_3 = some r) (hv_ : Vars w := by exact vv_) :
 Calls Tryz.prog 81 #[.agg #[.string a0_0, .int .i64 a0_1, .int .i64 a0_2, .string a0_3]] w fun e w' => e = .returned (.string r) ∧ Below w.heap.size w w' := by
 have HV_ := a0_ hv_
 clear hv_
 have hu45 := Tryz.underlying45
 have HB := a0_ (Below.refl w.heap.size w)
 have H := h
 clear h
 unfold impl_recordText.f at H
 obtain ⟨t688, A20, H⟩ := Option.bind_eq_some_iff.mp H
 have A2 := a0_ A20
 clear A20
 by_cases c3 : t688.size + 1 ≤ 9223372036854775807
 case neg =>
  rw [if_neg c3] at H
  exact absurd H (by simp)
 rw [if_pos c3] at H
 have c3b0 := eq_true c3
 have c3b1 := decide_eq_true c3
 try have c3b2 : (9223372036854775807 < t688.size + 1) = False := eq_false (Nat.not_lt.2 c3)
 obtain ⟨t689, A40, H⟩ := Option.bind_eq_some_iff.mp H
 have A4 := a0_ A40
 clear A40
 by_cases c5 : (t688 ++ (⟨#[32]⟩ : ByteArray)).size + t689.size ≤ 9223372036854775807
 case neg =>
  rw [if_neg c5] at H
  exact absurd H (by simp)
 rw [if_pos c5] at H
 have c5b0 := eq_true c5
 have c5b1 := decide_eq_true c5
 try have c5b2 : (9223372036854775807 < (t688 ++ (⟨#[32]⟩ : ByteArray)).size + t689.size) = False := eq_false (Nat.not_lt.2 c5)
 (try (have c5b7 := c5b2; simp only [ByteArray.size_append, show (⟨#[32]⟩ : ByteArray).size = 1 from rfl, Nat.reduceAdd] at c5b7))
 by_cases c6 : ((t688 ++ (⟨#[32]⟩ : ByteArray)) ++ t689).size + 1 ≤ 9223372036854775807
 case neg =>
  rw [if_neg c6] at H
  exact absurd H (by simp)
 rw [if_pos c6] at H
 have c6b0 := eq_true c6
 have c6b1 := decide_eq_true c6
 try have c6b2 : (9223372036854775807 < ((t688 ++ (⟨#[32]⟩ : ByteArray)) ++ t689).size + 1) = False := eq_false (Nat.not_lt.2 c6)
 (try (have c6b7 := c6b2; simp only [ByteArray.size_append, show (⟨#[32]⟩ : ByteArray).size = 1 from rfl, Nat.reduceAdd] at c6b7))
 obtain ⟨t690, A70, H⟩ := Option.bind_eq_some_iff.mp H
 have A7 := a0_ A70
 clear A70
 by_cases c8 : (((t688 ++ (⟨#[32]⟩ : ByteArray)) ++ t689) ++ (⟨#[32]⟩ : ByteArray)).size + t690.size ≤ 9223372036854775807
 case neg =>
  rw [if_neg c8] at H
  exact absurd H (by simp)
 rw [if_pos c8] at H
 have c8b0 := eq_true c8
 have c8b1 := decide_eq_true c8
 try have c8b2 : (9223372036854775807 < (((t688 ++ (⟨#[32]⟩ : ByteArray)) ++ t689) ++ (⟨#[32]⟩ : ByteArray)).size + t690.size) = False := eq_false (Nat.not_lt.2 c8)
 (try (have c8b7 := c8b2; simp only [ByteArray.size_append, show (⟨#[32]⟩ : ByteArray).size = 1 from rfl, Nat.reduceAdd] at c8b7))
 by_cases c9 : ((((t688 ++ (⟨#[32]⟩ : ByteArray)) ++ t689) ++ (⟨#[32]⟩ : ByteArray)) ++ t690).size + 1 ≤ 9223372036854775807
 case neg =>
  rw [if_neg c9] at H
  exact absurd H (by simp)
 rw [if_pos c9] at H
 have c9b0 := eq_true c9
 have c9b1 := decide_eq_true c9
 try have c9b2 : (9223372036854775807 < ((((t688 ++ (⟨#[32]⟩ : ByteArray)) ++ t689) ++ (⟨#[32]⟩ : ByteArray)) ++ t690).size + 1) = False := eq_false (Nat.not_lt.2 c9)
 (try (have c9b7 := c9b2; simp only [ByteArray.size_append, show (⟨#[32]⟩ : ByteArray).size = 1 from rfl, Nat.reduceAdd] at c9b7))
 by_cases c10 : (((((t688 ++ (⟨#[32]⟩ : ByteArray)) ++ t689) ++ (⟨#[32]⟩ : ByteArray)) ++ t690) ++ (⟨#[32]⟩ : ByteArray)).size + a0_3.size ≤ 9223372036854775807
 case neg =>
  rw [if_neg c10] at H
  exact absurd H (by simp)
 rw [if_pos c10] at H
 have c10b0 := eq_true c10
 have c10b1 := decide_eq_true c10
 try have c10b2 : (9223372036854775807 < (((((t688 ++ (⟨#[32]⟩ : ByteArray)) ++ t689) ++ (⟨#[32]⟩ : ByteArray)) ++ t690) ++ (⟨#[32]⟩ : ByteArray)).size + a0_3.size) = False := eq_false (Nat.not_lt.2 c10)
 (try (have c10b7 := c10b2; simp only [ByteArray.size_append, show (⟨#[32]⟩ : ByteArray).size = 1 from rfl, Nat.reduceAdd] at c10b7))
 obtain rfl := Option.some.inj H
 go_enter Tryz.func81, Tryz.ntmps81
 try go_wp2_with (first | ((with_reducible refine gate_dst (N := 1) rfl ?_); refine boxS_ 1 #[.string a0_0, .int .i64 a0_1, .int .i64 a0_2, .string a0_3] 45 (fun gb687 hg w11 hbox hb => ?_); have n0_ := a0_ (below_step bq0_ hb); have n1_ := a0_ (hbox); have n2_ := a0_ (gw_ hg : w.heap.size ≤ gb687); have n3_ := n2_; clear HB; have HB := n0_; have BK687 := n1_; have GW687 := n2_; have GE687 := n3_; clear n0_ n1_ n2_ n3_; clear hb hbox hg))
 replace BK687 := a0_ (blk_drew BK687.out)
 replace HB := a0_ (below_drew1 HB.out)
 refine start_ (n := 18) (S := fun w' => w'.cell? ⟨gb687, 0, none⟩ = some (.string a0_0) ∧ w'.cell? ⟨gb687, 1, none⟩ = some (.int .i64 a0_1) ∧ w'.cell? ⟨gb687, 2, none⟩ = some (.int .i64 a0_2) ∧ w'.cell? ⟨gb687, 3, none⟩ = some (.string a0_3)) (ds := []) #[false, false, false, false, false, false, false, false, false, false, false, false, false, false, false, false, false, false] (by kernel_rfl) rfl rfl ⟨(blk_cell BK687.out 0).trans rfl, (blk_cell BK687.out 1).trans rfl, (blk_cell BK687.out 2).trans rfl, (blk_cell BK687.out 3).trans rfl⟩ (fun hHeld => ?_); refine with_tabW impl_recordText.tab1 impl_recordText.bits1 (fun HT_ HW_ => ?_)
 generalize w11.drew = w12 at BK687 HB hHeld ⊢
 refine pureS_ 0 (some 3) ?_
 refine pureS_ 4 (some 7) ?_
 refine pureS_ 9 (some 12) ?_
 refine pureS_ 14 (some 17) ?_
 refine takeS_ 1 (some 4) ?_
 refine takeS_ 5 (some 8) ?_
 refine takeS_ 10 (some 13) ?_
 refine takeS_ 15 (some 18) ?_
 refine oneS_ 2 (some 5) (fun K hK => ?_)
 refine goes_ Tryz.func143 (by kernel_rfl) rfl #[.string a0_0] (by rfl) rfl rfl argsS_ ?_
 with_reducible refine (impl_told.calls a0_0 t688 _ A2.out).mono ?_
 rintro e w' ⟨rfl, ⟨nd, rfl⟩⟩
 refine ⟨_, rfl, ?_⟩
 refine hK.out _ _ ⟨(blk_cell BK687.out 0).trans rfl, (blk_cell BK687.out 1).trans rfl, (blk_cell BK687.out 2).trans rfl, (blk_cell BK687.out 3).trans rfl⟩ (fun hHeld => ?_)
 clear hK K
 refine normS_ ?_
 refine pureS_ 3 (some 6) ?_
 refine oneS_ 6 (some 9) (fun K hK => ?_)
 refine goes_ Tryz.func56 (by kernel_rfl) rfl #[.int .i64 a0_2] (by rfl) rfl rfl argsS_ ?_
 with_reducible refine (strconv_Itoa.calls a0_2 t689 _ A4.out).mono ?_
 rintro e w13 ⟨rfl, hb⟩
 refine ⟨_, rfl, ?_⟩
 replace BK687 := a0_ (bkB_ BK687 hb)
 replace HB := a0_ (below_step bq1_ hb)
 (try clear hb)
 (try clear hb2)
 (try clear hk)
 (try clear hi)
 refine hK.out _ _ ⟨(blk_cell BK687.out 0).trans rfl, (blk_cell BK687.out 1).trans rfl, (blk_cell BK687.out 2).trans rfl, (blk_cell BK687.out 3).trans rfl⟩ (fun hHeld => ?_)
 clear hK K
 refine normS_ ?_
 refine pureS_ 7 (some 10) ?_
 refine pureS_ 8 (some 11) ?_
 refine oneS_ 11 (some 14) (fun K hK => ?_)
 refine goes_ Tryz.func56 (by kernel_rfl) rfl #[.int .i64 a0_1] (by rfl) rfl rfl argsS_ ?_
 with_reducible refine (strconv_Itoa.calls a0_1 t690 _ A7.out).mono ?_
 rintro e w14 ⟨rfl, hb⟩
 refine ⟨_, rfl, ?_⟩
 replace BK687 := a0_ (bkB_ BK687 hb)
 replace HB := a0_ (below_step bq1_ hb)
 (try clear hb)
 (try clear hb2)
 (try clear hk)
 (try clear hi)
 refine hK.out _ _ ⟨(blk_cell BK687.out 0).trans rfl, (blk_cell BK687.out 1).trans rfl, (blk_cell BK687.out 2).trans rfl, (blk_cell BK687.out 3).trans rfl⟩ (fun hHeld => ?_)
 clear hK K
 refine normS_ ?_
 refine pureS_ 12 (some 15) ?_
 refine pureS_ 13 (some 16) ?_
 refine pureS_ 16 (some 19) ?_
 refine pureS_ 17 (some 2) ?_
 refine done_ (done_of HT_.out (by kernel_rfl)) ?_
 try go_wp2
 go_ret
 exact ⟨rr_, bq1_⟩
def impl_compareKeys.f (k : Nat) (a0_0 : ByteArray) (a0_1 : Int) (a0_2 : Int) (a0_3 : ByteArray) (a1_0 : ByteArray) (a1_1 : Int) (a1_2 : Int) (a1_3 : ByteArray) : Option (Int) := (impl_compareNames.f k a0_0 a1_0).bind fun t391 => ((cmp_Compare_int.f a0_1 a1_1).bind fun t392 => ((cmp_Or_int.f k (([t391, t392] : List Int))).bind fun t396 => (some t396)))
def impl_compareKeys.T1 : Bool × List (List Nat × List Nat) := (true, [([], []), ([0], [0]), ([], []), ([2], [2]), ([1, 3], [1, 3]), ([], []), ([5], [5]), ([], []), ([7], [7]), ([6, 8, 4], [6, 8]), ([4, 9], [4, 9]), ([10, 9], [10]), ([11, 11, 0, 1, 2, 3, 4, 5, 6, 7, 8, 9, 10, 11], [11])])
def impl_compareKeys.B1 : List Nat := [0, 1, 0, 4, 15, 0, 32, 0, 128, 511, 1023, 2047, 4095]
theorem impl_compareKeys.tab1 : rtab .any (opsOf Tryz.f65 1) = impl_compareKeys.T1 := by kernel_rfl
theorem impl_compareKeys.bits1 : waitsOk impl_compareKeys.T1.2 impl_compareKeys.B1 = true := by kernel_rfl
set_option maxHeartbeats 8000000 in
set_option maxRecDepth 100000 in
theorem impl_compareKeys.calls (k : Nat) (a0_0 : ByteArray) (a0_1 : Int) (a0_2 : Int) (a0_3 : ByteArray) (a1_0 : ByteArray) (a1_1 : Int) (a1_2 : Int) (a1_3 : ByteArray) (r : Int) (w : World) (h : impl_compareKeys.f k a0_0 a0_1 a0_2 a0_3 a1_0 a1_1 a1_2 a1_3 = some r) :
 Calls Tryz.prog 65 #[.agg #[.string a0_0, .int .i64 a0_1, .int .i64 a0_2, .string a0_3], .agg #[.string a1_0, .int .i64 a1_1, .int .i64 a1_2, .string a1_3]] w fun e w' => e = .returned (.int .i64 r) ∧ Below w.heap.size w w' := by
 have hu45 := Tryz.underlying45
 have HB := a0_ (Below.refl w.heap.size w)
 have H := h
 clear h
 unfold impl_compareKeys.f at H
 obtain ⟨t391, A30, H⟩ := Option.bind_eq_some_iff.mp H
 have A3 := a0_ A30
 clear A30
 obtain ⟨t392, A40, H⟩ := Option.bind_eq_some_iff.mp H
 have A4 := a0_ A40
 clear A40
 obtain ⟨y393, hy393⟩ : ∃ y_ : List Int, y_ = (([t391, t392] : List Int)) := ⟨_, rfl⟩
 replace H : ((cmp_Or_int.f k y393).bind fun t396 => (some t396)) = some r := by first | (rw [hy393]; with_reducible exact H) | (have H2_ := (Option.bind_some _ _).symm.trans H; rw [hy393]; with_reducible exact H2_) | (have H2_ := (Option.bind_some _ _).symm.trans H; with_reducible exact H2_) | with_reducible exact H | (rw [hy393]; exact H) | exact H
 have Ny393 := a0_ hy393
 clear hy393
 obtain ⟨t396, A50, H⟩ := Option.bind_eq_some_iff.mp H
 have A5 := a0_ A50
 clear A50
 obtain rfl := Option.some.inj H
 go_enter Tryz.func65, Tryz.ntmps65
 try go_wp2_with (first | ((with_reducible refine gate_dst (N := 2) rfl ?_); refine boxS_ 2 #[.string a0_0, .int .i64 a0_1, .int .i64 a0_2, .string a0_3] 45 (fun gb389 hg w6 hbox hb => ?_); have n0_ := a0_ (below_step bq0_ hb); have n1_ := a0_ (hbox); have n2_ := a0_ (gw_ hg : w.heap.size ≤ gb389); have n3_ := n2_; clear HB; have HB := n0_; have BK389 := n1_; have GW389 := n2_; have GE389 := n3_; clear n0_ n1_ n2_ n3_; clear hb hbox hg) | ((with_reducible refine gate_dst (N := 3) rfl ?_); refine boxS_ 3 #[.string a1_0, .int .i64 a1_1, .int .i64 a1_2, .string a1_3] 45 (fun gb390 hg w7 hbox hb => ?_); have n0_ := a0_ (bkB_ BK389 hb); have n1_ := a0_ (below_step bq1_ hb); have n2_ := a0_ (hbox); have n3_ := a0_ (gw_ hg (below_size bq1_) : w.heap.size ≤ gb390); have n4_ := n3_; have n5_ := a0_ ((by rw [hg]; exact Nat.ne_of_lt (blk_lt (g := gb389) (o := .cells #[.string a0_0, .int .i64 a0_1, .int .i64 a0_2, .string a0_3] 45 (0, 0)) (kB_ BK389.out)) : gb389 ≠ gb390)); have n6_ := a0_ ((by rw [hg]; exact Nat.ne_of_gt (blk_lt (g := gb389) (o := .cells #[.string a0_0, .int .i64 a0_1, .int .i64 a0_2, .string a0_3] 45 (0, 0)) (kB_ BK389.out)) : gb390 ≠ gb389)); clear BK389; clear HB; have BK389 := n0_; have HB := n1_; have BK390 := n2_; have GW390 := n3_; have GE390 := n4_; have NB389_390 := n5_; have NB390_389 := n6_; clear n0_ n1_ n2_ n3_ n4_ n5_ n6_; clear hb hbox hg))
 replace BK389 := a0_ (blk_drew BK389.out)
 replace BK390 := a0_ (blk_drew BK390.out)
 replace HB := a0_ (below_drew1 HB.out)
 refine start_ (n := 13) (S := fun w' => w'.cell? ⟨gb389, 0, none⟩ = some (.string a0_0) ∧ w'.cell? ⟨gb389, 1, none⟩ = some (.int .i64 a0_1) ∧ w'.cell? ⟨gb389, 2, none⟩ = some (.int .i64 a0_2) ∧ w'.cell? ⟨gb389, 3, none⟩ = some (.string a0_3) ∧ w'.cell? ⟨gb390, 0, none⟩ = some (.string a1_0) ∧ w'.cell? ⟨gb390, 1, none⟩ = some (.int .i64 a1_1) ∧ w'.cell? ⟨gb390, 2, none⟩ = some (.int .i64 a1_2) ∧ w'.cell? ⟨gb390, 3, none⟩ = some (.string a1_3)) (ds := []) #[false, false, false, false, false, false, false, false, false, false, false, false, false] (by kernel_rfl) rfl rfl ⟨(blk_cell BK389.out 0).trans rfl, (blk_cell BK389.out 1).trans rfl, (blk_cell BK389.out 2).trans rfl, (blk_cell BK389.out 3).trans rfl, (blk_cell BK390.out 0).trans rfl, (blk_cell BK390.out 1).trans rfl, (blk_cell BK390.out 2).trans rfl, (blk_cell BK390.out 3).trans rfl⟩ (fun hHeld => ?_); refine with_tabW impl_compareKeys.tab1 impl_compareKeys.bits1 (fun HT_ HW_ => ?_)
 generalize w7.drew = w8 at BK389 BK390 HB hHeld ⊢
 refine pureS_ 0 (some 5) ?_
 refine pureS_ 2 (some 7) ?_
 refine pureS_ 5 (some 10) ?_
 refine pureS_ 7 (some 12) ?_
 refine takeS_ 1 (some 6) ?_
 refine takeS_ 3 (some 8) ?_
 refine takeS_ 6 (some 11) ?_
 refine takeS_ 8 (some 13) ?_
 refine oneS_ 4 (some 9) (fun K hK => ?_)
 refine goes_ Tryz.func132 (by kernel_rfl) rfl #[.string a0_0, .string a1_0] (by rfl) rfl rfl argsS_ ?_
 with_reducible refine (impl_compareNames.calls k a0_0 a1_0 t391 _ A3.out).mono ?_
 rintro e w9 ⟨rfl, hb⟩
 refine ⟨_, rfl, ?_⟩
 replace BK389 := a0_ (bkB_ BK389 hb)
 replace BK390 := a0_ (bkB_ BK390 hb)
 replace HB := a0_ (below_step bq1_ hb)
 (try clear hb)
 (try clear hb2)
 (try clear hk)
 (try clear hi)
 refine hK.out _ _ ⟨(blk_cell BK389.out 0).trans rfl, (blk_cell BK389.out 1).trans rfl, (blk_cell BK389.out 2).trans rfl, (blk_cell BK389.out 3).trans rfl, (blk_cell BK390.out 0).trans rfl, (blk_cell BK390.out 1).trans rfl, (blk_cell BK390.out 2).trans rfl, (blk_cell BK390.out 3).trans rfl⟩ (fun hHeld => ?_)
 clear hK K
 refine normS_ ?_
 refine oneS_ 9 (some 14) (fun K hK => ?_)
 refine goes_ Tryz.func133 (by kernel_rfl) rfl #[.int .i64 a0_1, .int .i64 a1_1] (by rfl) rfl rfl argsS_ ?_
 with_reducible refine (cmp_Compare_int.calls a0_1 a1_1 t392 _ A4.out).mono ?_
 rintro e w' ⟨rfl, ⟨nd, rfl⟩⟩
 refine ⟨_, rfl, ?_⟩
 refine hK.out _ _ ⟨(blk_cell BK389.out 0).trans rfl, (blk_cell BK389.out 1).trans rfl, (blk_cell BK389.out 2).trans rfl, (blk_cell BK389.out 3).trans rfl, (blk_cell BK390.out 0).trans rfl, (blk_cell BK390.out 1).trans rfl, (blk_cell BK390.out 2).trans rfl, (blk_cell BK390.out 3).trans rfl⟩ (fun hHeld => ?_)
 clear hK K
 refine normS_ ?_
 refine oneS_ 10 (some 15) (fun K hK => ?_)
 refine Kd.R_lit_step (Kd.int .i64) _ 3 ?hg (N := 15) ?hd (xs := ([t391, t392] : List Int)) (inner := [.int .i64 t391, .int .i64 t392]) (ok := fun _ => True) (okp := fun _ => True) ?hr ?hp (fun _ hk => hk) trivial (Below.refl _ _) (Nat.le_refl _) (by simp) ?_; (case hd => rfl); (case hg => rfl); (case hr => first | (go_simp; done) | (go_simp; rfl)); (case hp => exact (Reps.one (show Kd.M (Kd.int .i64) _ _ _ t391 [.int .i64 t391] from rfl) (Reps.one (show Kd.M (Kd.int .i64) _ _ _ t392 [.int .i64 t392] from rfl) (Reps.none _ _))))
 intro v394 w10 ho11 hb hg_ hnew_
 clear hg_ hnew_
 (first | rw [← Ny393.out] at ho11 | (simp only [Int.reduceToNat] at ho11; rw [← Ny393.out] at ho11))
 have HO395 := a0_ (Kd.R_lower ho11 (below_size bq1_))
 replace BK389 := a0_ (bkB_ BK389 hb)
 replace BK390 := a0_ (bkB_ BK390 hb)
 replace HB := a0_ (below_step bq1_ hb)
 clear hb ho11
 obtain ⟨Ao12, co12, eo12⟩ := Kd.R_slice HO395.out
 (first | subst eo12 | (injection eo12 with f1_ f2_ f3_; have f4_ := f1_.symm; have f5_ := f3_.symm; clear f1_ f2_ f3_; subst f4_; subst f5_))
 refine hK.out _ _ ⟨(blk_cell BK389.out 0).trans rfl, (blk_cell BK389.out 1).trans rfl, (blk_cell BK389.out 2).trans rfl, (blk_cell BK389.out 3).trans rfl, (blk_cell BK390.out 0).trans rfl, (blk_cell BK390.out 1).trans rfl, (blk_cell BK390.out 2).trans rfl, (blk_cell BK390.out 3).trans rfl⟩ (fun hHeld => ?_)
 clear hK K
 refine normS_ ?_
 refine oneS_ 11 (some 16) (fun K hK => ?_)
 refine goes_ Tryz.func131 (by kernel_rfl) rfl #[.slice Ao12 y393.length co12] (by rfl) rfl rfl argsS_ ?_
 with_reducible refine (cmp_Or_int.calls k _ _ y393 t396 _ ?side1 ?side2 A5.out).mono ?_
 (case side1 => exact kD_ (Kd.R_reads' HO395.out).2.2)
 (case side2 => exact (Kd.R_reads' HO395.out).2.1)
 rintro e w' ⟨rfl, ⟨nd, rfl⟩⟩
 refine ⟨_, rfl, ?_⟩
 refine hK.out _ _ ⟨(blk_cell BK389.out 0).trans rfl, (blk_cell BK389.out 1).trans rfl, (blk_cell BK389.out 2).trans rfl, (blk_cell BK389.out 3).trans rfl, (blk_cell BK390.out 0).trans rfl, (blk_cell BK390.out 1).trans rfl, (blk_cell BK390.out 2).trans rfl, (blk_cell BK390.out 3).trans rfl⟩ (fun hHeld => ?_)
 clear hK K
 refine normS_ ?_
 refine pureS_ 12 (some 4) ?_
 refine done_ (done_of HT_.out (by kernel_rfl)) ?_
 try go_wp2
 go_ret
 exact ⟨rr_, bq1_⟩
end Go.Proofs.YtiegkjimpclmaaaGreatDoor.P
namespace Go.Proofs.YtiegkjimpclmaaaGreatDoor.P
open Go.RowKit Go.Proofs.YtiegkjimpclmaaaGreatDoorW.PrintWords Go.Proofs.YtiegkjimpclmaaaGreatDoorW.PrintLast Go.Proofs.YtiegkjimpclmaaaGreatDoorW.PrintMore
attribute [local go_sem] max2_int min2_int max_two min_two max_three min_three max_four min_four
set_option linter.unusedVariables false
set_option linter.unusedSimpArgs false
attribute [local go_sem] gtr_less
mutual
def spec_l1Compare.l0 : Nat → List ByteArray → List ByteArray → Int → Option (Int)
 | 0, _, _, _ => none
 | k + 1, x5, x7, x9 => if x9 ≤ (x5.length : Int) then (spec_l1Compare.j1 k x5 x7 x9 (decide (x9 ≤ (x7.length : Int)))) else (spec_l1Compare.j1 k x5 x7 x9 false)
def spec_l1Compare.j1 : Nat → List ByteArray → List ByteArray → Int → Bool → Option (Int)
 | 0, _, _, _, _ => none
 | k + 1, x5, x7, x9, x31 => if x31 = true then (if 0 ≤ (wrap64 ((x5.length : Int) - x9)) then (if (wrap64 ((x5.length : Int) - x9)) < (x5.length : Int) then (if 0 ≤ (wrap64 ((x7.length : Int) - x9)) then (if (wrap64 ((x7.length : Int) - x9)) < (x7.length : Int) then (if (Op.bytesLess ((rdOf ByteArray.empty x5 (wrap64 ((x5.length : Int) - x9))).toList) ((rdOf ByteArray.empty x7 (wrap64 ((x7.length : Int) - x9))).toList)) = true then (some (-1)) else (if (Op.bytesLess ((rdOf ByteArray.empty x7 (wrap64 ((x7.length : Int) - x9))).toList) ((rdOf ByteArray.empty x5 (wrap64 ((x5.length : Int) - x9))).toList)) = true then (some 1) else (spec_l1Compare.l0 k x5 x7 (wrap64 (x9 + 1))))) else (none)) else (none)) else (none)) else (none)) else (if (x5.length : Int) < (x7.length : Int) then (some (-1)) else (if (x5.length : Int) > (x7.length : Int) then (some 1) else (some 0)))
end
def spec_l1Compare.f (k : Nat) (a0 : ByteArray) (a1 : ByteArray) : Option (Int) := (spec_l1Labels.f k a0).bind fun bt296 => ((spec_l1Labels.f k a1).bind fun bt300 => (spec_l1Compare.l0 k bt296.1 bt300.1 1))
set_option maxHeartbeats 8000000 in
set_option maxRecDepth 100000 in
theorem spec_l1Compare.calls (k : Nat) (a0 : ByteArray) (a1 : ByteArray) (r : Int) (w : World) (h : spec_l1Compare.f k a0 a1 = some r) :
 Calls Tryz.prog 128 #[.string a0, .string a1] w fun e w' => e = .returned (.int .i64 r) ∧ Below w.heap.size w w' := by
 have HB := a0_ (Below.refl w.heap.size w)
 have H := h
 clear h
 unfold spec_l1Compare.f at H
 obtain ⟨⟨t296, t297⟩, A30, H⟩ := Option.bind_eq_some_iff.mp H
 have A3 := a0_ A30
 clear A30
 obtain ⟨⟨t300, t301⟩, A40, H⟩ := Option.bind_eq_some_iff.mp H
 have A4 := a0_ A40
 clear A40
 have H' := a0_ H
 clear H
 go_enter Tryz.func128, Tryz.ntmps128
 go_wp2_with (first | ((with_reducible refine gate_callee (f := 171) rfl ?_); refine goesL_ (some 14) rfl rfl Tryz.func171 (by kernel_rfl) rfl #[.string a0] rfl argsS_ ?_; (with_reducible refine (spec_l1Labels.calls k a0 t296 t297 _ A3.out).mono ?_); rintro e w5 ⟨v298, rfl, ho0, hb⟩; refine ⟨_, rfl, ?_⟩; have HO299 := a0_ (Kd.R_lower ho0 (below_size bq0_)); replace HB := a0_ (below_step bq0_ hb); clear hb; (try clear ho0)) | ((with_reducible refine gate_callee (f := 171) rfl ?_); refine goesL_ (some 19) rfl rfl Tryz.func171 (by kernel_rfl) rfl #[.string a1] rfl argsS_ ?_; (with_reducible refine (spec_l1Labels.calls k a1 t300 t301 _ A4.out).mono ?_); rintro e w6 ⟨v302, rfl, ho0, hb⟩; refine ⟨_, rfl, ?_⟩; have n0_ := a0_ (Kd.R_elder' (kR_ HO299.out) (Kd.R_base ho0) hb); have n1_ := a0_ (Kd.R_lower (Kd.R_new' ho0 (Kd.R_lt (kR_ HO299.out))) (below_size bq0_)); have n2_ := a0_ (below_step bq0_ hb); clear HO299; clear HB; have HO299 := n0_; have HO303 := n1_; have HB := n2_; clear n0_ n1_ n2_; clear hb; (try clear ho0)))
 go_loopg [9] k (fun kq v9 w' => ∃ (x9_1 : Int), v9 = .int .i64 x9_1 ∧ Aside0 (spec_l1Compare.l0 kq t296 t300 x9_1 = some r) ∧ Aside0 (kq ≤ k) ∧ Aside0 (Kd.R Kd.string 9 w' w.heap.size (fun k_ => some k_ ≠ (v302 : Value).ownBlock) v298 t296) ∧ Aside0 (Kd.R Kd.string 9 w' w.heap.size (fun k_ => some k_ ≠ (v298 : Value).ownBlock) v302 t300) ∧ Aside0 (Below w.heap.size w w'))
 case atStart => exact ⟨(1), rs_, H', ⟨Nat.le_refl _⟩, ⟨by (with_reducible repeat (first | apply Kd.R_alloc | apply Kd.R_drewN | apply Kd.R_drew)); exact Kd.R_mono HO299.out (fun _ hk => hk.2)⟩, ⟨by (with_reducible repeat (first | apply Kd.R_alloc | apply Kd.R_drewN | apply Kd.R_drew)); exact Kd.R_mono HO303.out (fun _ hk => hk.2)⟩, ⟨bq0_⟩⟩
 case round =>
  clear H'
  obtain ⟨x9_1, rfl, HA, HK1, HO_5, HO_7, HB⟩ := hrel
  cases gk with
  | zero => exact absurd HA.out (by simp [spec_l1Compare.l0])
  | succ k1 =>
   have H := HA.out
   clear HA
   simp only [spec_l1Compare.l0] at H
   have HC7 := a0_ H
   clear H
   go_upto_region 4 with (fail)
   go_cut [31] (fun v31 wc => ∃ (kq : Nat) (x31_6 : Bool), v31 = .bool x31_6 ∧ Aside0 (spec_l1Compare.j1 kq t296 t300 x9_1 x31_6 = some r) ∧ Aside0 (kq ≤ k1) ∧ Aside0 (Kd.R Kd.string 9 wc w.heap.size (fun k_ => some k_ ≠ (v302 : Value).ownBlock) v298 t296) ∧ Aside0 (Kd.R Kd.string 9 wc w.heap.size (fun k_ => some k_ ≠ (v298 : Value).ownBlock) v302 t300) ∧ Aside0 (Below w.heap.size w wc))
   case first =>
    have H := HC7.out
    clear HC7
    by_cases c8 : x9_1 ≤ (t296.length : Int)
    case neg =>
     rw [if_neg c8] at H
     have c8b0 := decide_eq_false c8
     clear c8
     (first | rw [c8b0] | (simp only [i64_w, i32_w]; rw [c8b0]) | skip)
     have H' := a0_ H
     clear H
     obtain ⟨Ao11, co11, eo11⟩ := Kd.R_slice HO_5.out
     subst eo11
     go_wp2
     go_meet
     case rel => exact ⟨_, (false), rs_, H', ⟨by have := HK1.out; first | omega | exact Nat.le_refl _⟩, ⟨by (with_reducible repeat (first | apply Kd.R_alloc | apply Kd.R_drewN | apply Kd.R_drew)); exact HO_5.out⟩, ⟨by (with_reducible repeat (first | apply Kd.R_alloc | apply Kd.R_drewN | apply Kd.R_drew)); exact HO_7.out⟩, ⟨bq0_⟩⟩
    rw [if_pos c8] at H
    have c8b0 := decide_eq_true c8
    clear c8
    (first | rw [c8b0] | (simp only [i64_w, i32_w]; rw [c8b0]) | skip)
    have H' := a0_ H
    clear H
    obtain ⟨Ao9, co9, eo9⟩ := Kd.R_slice HO_5.out
    subst eo9
    obtain ⟨Ao10, co10, eo10⟩ := Kd.R_slice HO_7.out
    subst eo10
    go_wp2
    go_meet
    case rel => exact ⟨_, (decide (x9_1 ≤ (t300.length : Int))), rs_, H', ⟨by have := HK1.out; first | omega | exact Nat.le_refl _⟩, ⟨by (with_reducible repeat (first | apply Kd.R_alloc | apply Kd.R_drewN | apply Kd.R_drew)); exact HO_5.out⟩, ⟨by (with_reducible repeat (first | apply Kd.R_alloc | apply Kd.R_drewN | apply Kd.R_drew)); exact HO_7.out⟩, ⟨bq0_⟩⟩
   case rest =>
    clear HC7
    try clear c1
    try clear p2
    try clear p2
    obtain ⟨kq, x31_6, rfl, HA, HJ6, HO_5, HO_7, HB⟩ := hcut
    cases kq with
    | zero => exact absurd HA.out (by simp [spec_l1Compare.j1])
    | succ kj6 =>
     have H := HA.out
     clear HA
     simp only [spec_l1Compare.j1] at H
     by_cases c12 : x31_6 = true
     case neg =>
      replace c12 := Bool.eq_false_iff.mpr c12
      subst c12
      rw [if_neg (show ¬ (false = true) by decide)] at H
      by_cases c27 : (t296.length : Int) < (t300.length : Int)
      case pos =>
       rw [if_pos c27] at H
       have c27b0 := decide_eq_true c27
       have c27b1 : decide (t296.length < t300.length) = true := decide_eq_true (Int.ofNat_lt.mp c27)
       clear c27
       obtain rfl := Option.some.inj H
       obtain ⟨Ao28, co28, eo28⟩ := Kd.R_slice HO_5.out
       subst eo28
       obtain ⟨Ao29, co29, eo29⟩ := Kd.R_slice HO_7.out
       subst eo29
       go_wp2
       go_ret
       exact ⟨rr_, bq0_⟩
      rw [if_neg c27] at H
      have c27b0 := decide_eq_false c27
      have c27b1 : decide (t296.length < t300.length) = false := decide_eq_false (fun h => c27 (Int.ofNat_lt.mpr h))
      clear c27
      by_cases c30 : (t296.length : Int) > (t300.length : Int)
      case neg =>
       rw [if_neg c30] at H
       have c30b0 := decide_eq_false c30
       have c30b1 : decide (t300.length < t296.length) = false := decide_eq_false (fun h => c30 (Int.ofNat_lt.mpr h))
       clear c30
       obtain rfl := Option.some.inj H
       obtain ⟨Ao33, co33, eo33⟩ := Kd.R_slice HO_5.out
       subst eo33
       obtain ⟨Ao34, co34, eo34⟩ := Kd.R_slice HO_7.out
       subst eo34
       go_wp2
       go_ret
       exact ⟨rr_, bq0_⟩
      rw [if_pos c30] at H
      have c30b0 := decide_eq_true c30
      have c30b1 : decide (t300.length < t296.length) = true := decide_eq_true (Int.ofNat_lt.mp c30)
      clear c30
      obtain rfl := Option.some.inj H
      obtain ⟨Ao31, co31, eo31⟩ := Kd.R_slice HO_5.out
      subst eo31
      obtain ⟨Ao32, co32, eo32⟩ := Kd.R_slice HO_7.out
      subst eo32
      go_wp2
      go_ret
      exact ⟨rr_, bq0_⟩
     subst c12
     rw [if_pos rfl] at H
     obtain ⟨ji13, hji13⟩ : ∃ j_ : Int, (wrap64 ((t296.length : Int) - x9_1)) = j_ := ⟨_, rfl⟩
     (first | rw [hji13] at H | simp only [hji13] at H)
     have hji13w : (IntKind.i64.wrap ((t296.length : Int) - x9_1)) = ji13 := (i64_w _).trans hji13
     by_cases c14 : 0 ≤ (ji13)
     case neg =>
      rw [if_neg c14] at H
      exact absurd H (by simp)
     rw [if_pos c14] at H
     have c14b0 := decide_eq_true c14
     clear c14
     by_cases c15 : (ji13) < (t296.length : Int)
     case neg =>
      rw [if_neg c15] at H
      exact absurd H (by simp)
     rw [if_pos c15] at H
     have c15b0 := decide_eq_true c15
     clear c15
     obtain ⟨ji16, hji16⟩ : ∃ j_ : Int, (wrap64 ((t300.length : Int) - x9_1)) = j_ := ⟨_, rfl⟩
     (first | rw [hji16] at H | simp only [hji16] at H)
     have hji16w : (IntKind.i64.wrap ((t300.length : Int) - x9_1)) = ji16 := (i64_w _).trans hji16
     by_cases c17 : 0 ≤ (ji16)
     case neg =>
      rw [if_neg c17] at H
      exact absurd H (by simp)
     rw [if_pos c17] at H
     have c17b0 := decide_eq_true c17
     clear c17
     by_cases c18 : (ji16) < (t300.length : Int)
     case neg =>
      rw [if_neg c18] at H
      exact absurd H (by simp)
     rw [if_pos c18] at H
     have c18b0 := decide_eq_true c18
     clear c18
     by_cases c19 : (Op.bytesLess ((rdOf ByteArray.empty t296 (ji13)).toList) ((rdOf ByteArray.empty t300 (ji16)).toList)) = true
     case pos =>
      rw [if_pos c19] at H
      have c19b0 : (Op.bytesLess ((rdOf ByteArray.empty t296 (ji13)).toList) ((rdOf ByteArray.empty t300 (ji16)).toList)) = true := c19
      clear c19
      obtain rfl := Option.some.inj H
      obtain ⟨Ao20, co20, eo20⟩ := Kd.R_slice HO_5.out
      subst eo20
      have p304 : 0 ≤ ((ji13) : Int) := dec_
      have q304 : (ji13) < (t296.length : Int) := dec_
      obtain ⟨ad304, e304, hx304_0⟩ := Kd.at_string (Kd.R_reads' HO_5.out).2.2 (ji13) p304 q304
      cases e304
      replace p304 := eq_true p304
      replace q304 := eq_true q304
      obtain ⟨Ao21, co21, eo21⟩ := Kd.R_slice HO_7.out
      subst eo21
      have p305 : 0 ≤ ((ji16) : Int) := dec_
      have q305 : (ji16) < (t300.length : Int) := dec_
      obtain ⟨ad305, e305, hx305_0⟩ := Kd.at_string (Kd.R_reads' HO_7.out).2.2 (ji16) p305 q305
      cases e305
      replace p305 := eq_true p305
      replace q305 := eq_true q305
      go_wp2
      go_ret
      exact ⟨by first | rfl | (simp [errW_none, errW_some] <;> rfl) | (simp only [← hji13, ← hji16]; first | rfl | (simp [errW_none, errW_some] <;> rfl)) | (simp [*, errW_none, errW_some] <;> rfl), bq0_⟩
     rw [if_neg c19] at H
     have c19b0 : (Op.bytesLess ((rdOf ByteArray.empty t296 (ji13)).toList) ((rdOf ByteArray.empty t300 (ji16)).toList)) = false := by simpa using c19
     clear c19
     by_cases c22 : (Op.bytesLess ((rdOf ByteArray.empty t300 (ji16)).toList) ((rdOf ByteArray.empty t296 (ji13)).toList)) = true
     case pos =>
      rw [if_pos c22] at H
      have c22b0 : (Op.bytesLess ((rdOf ByteArray.empty t300 (ji16)).toList) ((rdOf ByteArray.empty t296 (ji13)).toList)) = true := c22
      clear c22
      obtain rfl := Option.some.inj H
      obtain ⟨Ao23, co23, eo23⟩ := Kd.R_slice HO_5.out
      subst eo23
      have p304 : 0 ≤ ((ji13) : Int) := dec_
      have q304 : (ji13) < (t296.length : Int) := dec_
      obtain ⟨ad304, e304, hx304_0⟩ := Kd.at_string (Kd.R_reads' HO_5.out).2.2 (ji13) p304 q304
      cases e304
      replace p304 := eq_true p304
      replace q304 := eq_true q304
      obtain ⟨Ao24, co24, eo24⟩ := Kd.R_slice HO_7.out
      subst eo24
      have p305 : 0 ≤ ((ji16) : Int) := dec_
      have q305 : (ji16) < (t300.length : Int) := dec_
      obtain ⟨ad305, e305, hx305_0⟩ := Kd.at_string (Kd.R_reads' HO_7.out).2.2 (ji16) p305 q305
      cases e305
      replace p305 := eq_true p305
      replace q305 := eq_true q305
      go_wp2
      go_ret
      exact ⟨by first | rfl | (simp [errW_none, errW_some] <;> rfl) | (simp only [← hji13, ← hji16]; first | rfl | (simp [errW_none, errW_some] <;> rfl)) | (simp [*, errW_none, errW_some] <;> rfl), bq0_⟩
     rw [if_neg c22] at H
     have c22b0 : (Op.bytesLess ((rdOf ByteArray.empty t300 (ji16)).toList) ((rdOf ByteArray.empty t296 (ji13)).toList)) = false := by simpa using c22
     clear c22
     have H' := a0_ H
     clear H
     obtain ⟨Ao25, co25, eo25⟩ := Kd.R_slice HO_5.out
     subst eo25
     have p304 : 0 ≤ ((ji13) : Int) := dec_
     have q304 : (ji13) < (t296.length : Int) := dec_
     obtain ⟨ad304, e304, hx304_0⟩ := Kd.at_string (Kd.R_reads' HO_5.out).2.2 (ji13) p304 q304
     cases e304
     replace p304 := eq_true p304
     replace q304 := eq_true q304
     obtain ⟨Ao26, co26, eo26⟩ := Kd.R_slice HO_7.out
     subst eo26
     have p305 : 0 ≤ ((ji16) : Int) := dec_
     have q305 : (ji16) < (t300.length : Int) := dec_
     obtain ⟨ad305, e305, hx305_0⟩ := Kd.at_string (Kd.R_reads' HO_7.out).2.2 (ji16) p305 q305
     cases e305
     replace p305 := eq_true p305
     replace q305 := eq_true q305
     go_wp2
     go_roundg kj6
     case measure => have := HK1.out; have := HJ6.out; omega
     case rel => exact ⟨(wrap64 (x9_1 + 1)), rs_, H', ⟨by have := HK1.out; have := HJ6.out; omega⟩, ⟨by (with_reducible repeat (first | apply Kd.R_alloc | apply Kd.R_drewN | apply Kd.R_drew)); exact HO_5.out⟩, ⟨by (with_reducible repeat (first | apply Kd.R_alloc | apply Kd.R_drewN | apply Kd.R_drew)); exact HO_7.out⟩, ⟨bq0_⟩⟩
end Go.Proofs.YtiegkjimpclmaaaGreatDoor.P
namespace Go.Proofs.YtiegkjimpclmaaaGreatDoor.Pure
open Go.RowKit Go.Proofs.YtiegkjimpclmaaaGreatDoor.P Go.Proofs.YtiegkjimpclmaaaGreatDoorW.PrintWords Go.Proofs.YtiegkjimpclmaaaGreatDoorW.PrintLast
set_option linter.unusedVariables false
set_option linter.unusedSimpArgs false
theorem of_some {l : List Int} (hl : Bytes l) {at_ sd : Int} {n : Nat} (hc : Cur at_ n) (hn : n < 4611686018427387000) (zs : List ByteArray) (hz : 0 < zs.length) :
 ∃ x at2 sd2, spec_l1Cur_of.f l at_ sd zs = some (x, at2, sd2) ∧ x ∈ zs ∧ Cur at2 (n + 2) := by
 unfold spec_l1Cur_of.f
 obtain ⟨i, at2, sd2, e, hi, hc2⟩ := pick_some hl hc (by omega) (sd := sd) (zs.length : Int)
 rw [e]
 simp only [Option.bind_some]
 have hlt : i < (zs.length : Int) := by omega
 rw [if_pos hi.1, if_pos hlt]
 refine ⟨_, _, _, rfl, ?_, hc2⟩
 have h2 : i.toNat < zs.length := by omega
 rw [rdOf, List.getD_eq_getElem?_getD, List.getElem?_eq_getElem h2]
 exact List.getElem_mem h2
theorem size_le {zs : List ByteArray} {n : Nat} (h : zs.all (fun x => decide (x.size ≤ n)) = true) {x : ByteArray} (hx : x ∈ zs) : x.size ≤ n := by
 have := List.all_eq_true.1 h x hx
 simpa using this
theorem name_loop {l : List Int} (hl : Bytes l) : ∀ (m : Nat) (at_ sd : Int) (n : Nat) (acc : ByteArray), Cur at_ n → n + 2 * m < 4611686018427387000 → acc.size + 4 * m ≤ 1000 → m ≤ 10 →
 ∃ s at2 sd2, spec_l1Cur_name.l0 (m + 1) acc (m : Int) l at_ sd = some (s, at2, sd2) ∧ s.size ≤ acc.size + 4 * m ∧ Cur at2 (n + 2 * m)
 | 0, at_, sd, n, acc, hc, hn, ha, hm => ⟨acc, at_, sd, by unfold spec_l1Cur_name.l0; rw [if_neg (by omega)], by omega, by simpa using hc⟩
 | m + 1, at_, sd, n, acc, hc, hn, ha, hm => by
  obtain ⟨x, at2, sd2, e, hx, hc2⟩ := of_some hl hc (by omega) (sd := sd) ([(⟨#[97]⟩ : ByteArray), (⟨#[98]⟩ : ByteArray), (⟨#[119, 119, 119]⟩ : ByteArray), (⟨#[115, 117, 98]⟩ : ByteArray), (⟨#[42]⟩ : ByteArray), (⟨#[120, 49]⟩ : ByteArray), (⟨#[110, 115]⟩ : ByteArray)] : List ByteArray) (by decide)
  have hsz : x.size ≤ 3 := size_le (by decide) hx
  have h46 : (⟨#[46]⟩ : ByteArray).size = 1 := rfl
  obtain ⟨s, at3, sd3, f, hs, hc3⟩ := name_loop hl m at2 sd2 (n + 2) ((x ++ (⟨#[46]⟩ : ByteArray)) ++ acc) hc2 (by omega) (by rw [ByteArray.size_append, ByteArray.size_append, h46]; omega) (by omega)
  refine ⟨s, at3, sd3, ?_, ?_, ?_⟩
  · conv => lhs; unfold spec_l1Cur_name.l0
    rw [if_pos (by omega), e, Option.bind_some]
    dsimp only
    rw [if_pos (by omega), if_pos (by rw [ByteArray.size_append, h46]; omega), show wrap64 (((m + 1 : Nat) : Int) - 1) = (m : Int) by unfold wrap64; omega]
    exact f
  · rw [ByteArray.size_append, ByteArray.size_append, h46] at hs
    omega
  · rw [show n + 2 * (m + 1) = n + 2 + 2 * m by omega]
    exact hc3
theorem name_some {l : List Int} (hl : Bytes l) {at_ sd : Int} {n : Nat} (hc : Cur at_ n) (hn : n < 4611686018427380000) :
 ∃ s at2 sd2, Ev (fun k => spec_l1Cur_name.f k l at_ sd) (s, at2, sd2) ∧ s.size ≤ 60 ∧ Cur at2 (n + 20) := by
 have up : ∀ {a : Int} {p q : Nat}, Cur a p → p ≤ q → Cur a q := fun h k => ⟨h.1, by have := h.2; omega⟩
 obtain ⟨i, at2, sd2, e, hi, hc2⟩ := pick_some hl hc (by omega) (sd := sd) 40
 by_cases h0 : i = 0
 · obtain ⟨x, at3, sd3, e3, hx, hc3⟩ := of_some hl hc2 (by omega) (sd := sd2) ([(⟨#[]⟩ : ByteArray), (⟨#[46]⟩ : ByteArray), (⟨#[97, 46, 46, 98]⟩ : ByteArray), (⟨#[65]⟩ : ByteArray), (⟨#[97, 46]⟩ : ByteArray), (⟨#[97, 42]⟩ : ByteArray), (⟨#[97, 46, 98, 46, 99, 46, 100, 46, 101, 46, 102, 46, 103, 46, 104]⟩ : ByteArray), (⟨#[97, 46, 98, 46, 99, 46, 100, 46, 101, 46, 102, 46, 103, 46, 104, 46, 105]⟩ : ByteArray), (⟨#[97, 98, 99, 100, 101, 102, 103, 104, 105, 106, 107, 108, 109, 110, 111, 112, 113, 114, 115, 116]⟩ : ByteArray), (⟨#[97, 98, 99, 100, 101, 102, 103, 104, 105, 106, 107, 108, 109, 110, 111, 112, 113, 114, 115, 116, 117]⟩ : ByteArray)] : List ByteArray) (by decide)
   refine ⟨x, at3, sd3, Ev.congr (fun k => ?_) (Ev.now _), size_le (by decide) hx, up hc3 (by omega)⟩
   unfold spec_l1Cur_name.f
   rw [e]
   simp only [Option.bind_some]
   rw [if_pos h0, e3]
   rfl
 · by_cases h1 : i = 1
   · obtain ⟨x, at3, sd3, e3, hx, hc3⟩ := of_some hl hc2 (by omega) (sd := sd2) ([(⟨#[]⟩ : ByteArray), (⟨#[99, 111, 109]⟩ : ByteArray)] : List ByteArray) (by decide)
     refine ⟨x, at3, sd3, Ev.congr (fun k => ?_) (Ev.now _), size_le (by decide) hx, up hc3 (by omega)⟩
     unfold spec_l1Cur_name.f
     rw [e]
     simp only [Option.bind_some]
     rw [if_neg h0, if_pos h1, e3]
     rfl
   · obtain ⟨x, at3, sd3, e3, hx, hc3⟩ := of_some hl hc2 (by omega) (sd := sd2) ([(⟨#[101, 120]⟩ : ByteArray), (⟨#[99, 111, 109]⟩ : ByteArray), (⟨#[101, 120, 46, 99, 111, 109]⟩ : ByteArray), (⟨#[101, 120, 46, 99, 111, 109]⟩ : ByteArray), (⟨#[101, 120, 46, 99, 111, 109]⟩ : ByteArray)] : List ByteArray) (by decide)
     have hsz : x.size ≤ 6 := size_le (by decide) hx
     obtain ⟨j, at4, sd4, e4, hj, hc4⟩ := pick_some hl hc3 (by omega) (sd := sd3) 3
     obtain ⟨m, rfl⟩ : ∃ m : Nat, j = (m : Int) := ⟨j.toNat, by omega⟩
     obtain ⟨s, at5, sd5, e5, hs, hc5⟩ := name_loop hl m at4 sd4 _ x hc4 (by omega) (by omega) (by omega)
     refine ⟨s, at5, sd5, Ev.of (fun k => spec_l1Cur_name.mono _ _ _ _) (k := m + 1) ?_, by omega, up hc5 (by omega)⟩
     unfold spec_l1Cur_name.f
     rw [e]
     simp only [Option.bind_some]
     rw [if_neg h0, if_neg h1, e3]
     simp only [Option.bind_some]
     rw [e4]
     simp only [Option.bind_some]
     exact e5
theorem w64n {n : Nat} (h : n < 4611686018427387904) : wrap64 ((n : Int) + 1) = ((n + 1 : Nat) : Int) := by unfold wrap64; omega
theorem bt_list (s : ByteArray) (i : Nat) (h : i < s.data.toList.length) : bt s (i : Int) = ((s.data.toList[i]'h).toNat : Int) := by
 unfold bt
 have h2 : (i : Int).toNat < s.size := by rw [size_len]; omega
 rw [dif_pos h2]
 rfl
theorem ext_mkB (s : ByteArray) (a b : Nat) : s.extract a b = mkB ((s.data.toList.drop a).take (b - a)) := by
 apply ext_data
 rw [mkB_data]
 simp [ByteArray.data_extract]
theorem ext_end (s : ByteArray) (a : Nat) : s.extract a s.size = mkB (s.data.toList.drop a) := by
 rw [ext_mkB, List.take_of_length_le (by rw [List.length_drop, size_len]; omega)]
theorem split_loop (s : ByteArray) (hs : s.size < 1099511627776) : ∀ (m i a : Nat) (acc : List ByteArray), i + m = s.size → a ≤ i → (∀ x ∈ (s.data.toList.drop a).take (i - a), x ≠ 46) → acc.length ≤ a →
 spec_l1Split.l0 (m + 1) s 46 acc (a : Int) (i : Int) = some (acc ++ (splitL 46 (s.data.toList.drop a)).map mkB)
 | 0, i, a, acc, him, hai, hx, hacc => by
  unfold spec_l1Split.l0
  rw [if_neg (by omega), if_pos (by omega), if_pos (by omega), if_pos (by omega)]
  rw [List.take_of_length_le (by rw [List.length_drop, ← size_len]; omega)] at hx
  rw [splitL_none 46 _ hx, Int.toNat_natCast, ext_end]
  rfl
 | m + 1, i, a, acc, him, hai, hx, hacc => by
  have hi : i < s.data.toList.length := by rw [← size_len]; omega
  unfold spec_l1Split.l0
  rw [if_pos (by omega), if_pos (by omega), bt_list s i hi, w64n (by omega)]
  have hd : s.data.toList.drop a = (s.data.toList.drop a).take (i - a) ++ s.data.toList[i] :: s.data.toList.drop (i + 1) := by
   conv => lhs; rw [← List.take_append_drop (i - a) (s.data.toList.drop a)]
   congr 1
   rw [List.drop_drop, show a + (i - a) = i by omega, List.drop_eq_getElem_cons hi]
  by_cases h : s.data.toList[i] = 46
  · rw [if_pos (by rw [h]; rfl), if_pos (by omega), if_pos (by omega), if_pos (by omega), if_pos (by omega), Int.toNat_natCast, Int.toNat_natCast, ext_mkB]
    rw [split_loop s hs m (i + 1) (i + 1) _ (by omega) (by omega) (by simp) (by simp; omega)]
    conv => rhs; rw [hd, h, splitL_hit 46 _ _ hx]
    simp
  · rw [if_neg (by intro e; apply h; apply UInt8.toNat_inj.1; simpa using Int.ofNat.inj e)]
    refine split_loop s hs m (i + 1) a acc (by omega) (by omega) ?_ hacc
    intro x hm
    rw [show i + 1 - a = (i - a) + 1 by omega, List.take_add_one] at hm
    rcases List.mem_append.1 hm with hm | hm
    · exact hx x hm
    · rw [List.getElem?_drop, show a + (i - a) = i by omega, List.getElem?_eq_getElem hi] at hm
      obtain rfl : x = s.data.toList[i] := by simpa using hm
      exact h
theorem split_ev (s : ByteArray) (hs : s.size < 1099511627776) : Ev (fun k => spec_l1Split.f k s 46) ((splitL 46 s.data.toList).map mkB) := by
 refine Ev.of (fun k => spec_l1Split.mono _ _ _) (k := s.size + 1) ?_
 unfold spec_l1Split.f
 have := split_loop s hs s.size 0 0 [] (by omega) (by omega) (by simp) (by simp)
 simpa using this
theorem within_spec (n a b : Int) : spec_l1In.f n a b = some (decide (a ≤ n ∧ n ≤ b)) := by
 unfold spec_l1In.f
 by_cases h : n ≥ a
 · rw [if_pos h]; congr 1; rw [decide_eq_decide]; omega
 · rw [if_neg h]; congr 1; rw [eq_comm, decide_eq_false_iff_not]; omega
theorem label_loop (s : ByteArray) (hs : s.size < 1099511627776) : ∀ (m i : Nat), i + m = s.size →
 spec_l1Label.l0 (m + 1) s (i : Int) = some ((s.data.toList.drop i).all labelByte && decide (1 ≤ s.data.toList.length ∧ s.data.toList.length ≤ 20))
 | 0, i, him => by
  unfold spec_l1Label.l0
  rw [if_neg (by omega), within_spec, List.drop_of_length_le (by rw [← size_len]; omega)]
  simp only [Option.bind_some, List.all_nil, Bool.true_and]
  congr 1
  rw [decide_eq_decide, ← size_len]
  omega
 | m + 1, i, him => by
  have hi : i < s.data.toList.length := by rw [← size_len]; omega
  have ih := label_loop s hs m (i + 1) (by omega)
  unfold spec_l1Label.l0
  rw [if_pos (by omega), if_pos (by omega), w64n (by omega), ih, bt_list s i hi, List.drop_eq_getElem_cons hi, List.all_cons]
  generalize (List.drop (i + 1) s.data.toList).all labelByte = rest
  generalize decide (1 ≤ s.data.toList.length ∧ s.data.toList.length ≤ 20) = len
  generalize s.data.toList[i] = b
  have hb : labelByte b = decide ((97 ≤ (b.toNat : Int) ∧ (b.toNat : Int) ≤ 122) ∨ (48 ≤ (b.toNat : Int) ∧ (b.toNat : Int) ≤ 57) ∨ (b.toNat : Int) = 45 ∨ (b.toNat : Int) = 95) := by
   unfold labelByte
   rw [Bool.eq_iff_iff]
   have h45 : b = 45 ↔ (b.toNat : Int) = 45 := by rw [← UInt8.toNat_inj]; exact ⟨fun h => by rw [h]; rfl, fun h => Int.ofNat.inj h⟩
   have h95 : b = 95 ↔ (b.toNat : Int) = 95 := by rw [← UInt8.toNat_inj]; exact ⟨fun h => by rw [h]; rfl, fun h => Int.ofNat.inj h⟩
   simp only [Bool.or_eq_true, decide_eq_true_eq, beq_iff_eq, h45, h95]
   omega
  rw [hb]
  generalize (b.toNat : Int) = v
  by_cases hv : (97 ≤ v ∧ v ≤ 122) ∨ (48 ≤ v ∧ v ≤ 57) ∨ v = 45 ∨ v = 95
  · rw [decide_eq_true hv, Bool.true_and]
    repeat' split
    all_goals first | rfl | omega
  · rw [decide_eq_false hv, Bool.false_and, Bool.false_and]
    repeat' split
    all_goals first | rfl | omega
theorem label_ev (s : ByteArray) (hs : s.size < 1099511627776) : Ev (fun k => spec_l1Label.f k s) (isLabelL s.data.toList) := by
 refine Ev.of (fun k => spec_l1Label.mono _ _) (k := s.size + 1) ?_
 unfold spec_l1Label.f isLabelL
 rw [Lib.toList_data]
 by_cases h : s.data.toList = [42]
 · rw [if_pos h, h]; rfl
 · rw [if_neg h, show (s.data.toList == [42]) = false from beq_eq_false_iff_ne.mpr h, Bool.false_or, Bool.and_comm]
   have := label_loop s hs s.size 0 (by omega)
   simpa using this
def labsR (s : ByteArray) (parts : List ByteArray) (i : Nat) : List ByteArray × Bool :=
 if (parts.drop i).all (fun p => isLabelL p.data.toList) then (if s.size ≤ 60 then (parts, decide (parts.length ≤ 8)) else (parts, false)) else ([], false)
theorem labels_loop (s : ByteArray) (parts : List ByteArray) (hp : ∀ p ∈ parts, p.size < 1099511627776) (hl : parts.length < 1099511627776) : ∀ (m i : Nat), i + m = parts.length →
 Ev (fun k => spec_l1Labels.l0 k s parts parts (parts.length : Int) (i : Int)) (labsR s parts i)
 | 0, i, him => by
  refine Ev.step (f := fun k => some (labsR s parts i)) (fun k => ?_) (Ev.now _)
  show spec_l1Labels.l0 (k + 1) s parts parts (parts.length : Int) (i : Int) = _
  unfold spec_l1Labels.l0 labsR
  rw [if_neg (by omega), List.drop_of_length_le (by omega)]
  simp only [List.all_nil, if_true]
  by_cases h : s.size ≤ 60
  · rw [if_pos (by omega), if_pos h]
    congr 2
    rw [decide_eq_decide]; omega
  · rw [if_neg (by omega), if_neg h]
 | m + 1, i, him => by
  have hi : i < parts.length := by omega
  have ih := labels_loop s parts hp hl m (i + 1) (by omega)
  have hrd : rdOf ByteArray.empty parts (i : Int) = parts[i] := by
   unfold rdOf
   rw [Int.toNat_natCast, List.getD_eq_getElem?_getD, List.getElem?_eq_getElem hi]
   rfl
  refine Ev.step (f := fun k => (spec_l1Label.f k parts[i]).bind fun t => if t = true then spec_l1Labels.l0 k s parts parts (parts.length : Int) ((i + 1 : Nat) : Int) else some ([], false)) (fun k => ?_) ?_
  · show spec_l1Labels.l0 (k + 1) s parts parts (parts.length : Int) (i : Int) = _
    conv => lhs; unfold spec_l1Labels.l0
    rw [if_pos (by omega), if_pos (by omega), if_pos (by omega), hrd, w64n (by omega)]
  · refine Ev.bind (label_ev _ (hp _ (List.getElem_mem hi))) ?_
    have hd : labsR s parts i = if isLabelL parts[i].data.toList = true then labsR s parts (i + 1) else ([], false) := by
     unfold labsR
     rw [List.drop_eq_getElem_cons hi, List.all_cons]
     cases isLabelL parts[i].data.toList <;> simp
    rw [hd]
    by_cases h : isLabelL parts[i].data.toList = true
    · simp only [if_pos h]
      exact ih
    · simp only [if_neg h]
      exact Ev.now _
theorem splitL_len (c : UInt8) (l : List UInt8) : (splitL c l).length ≤ l.length + 1 := by
 induction l with
 | nil => simp [splitL]
 | cons x xs ih =>
  unfold splitL
  split
  · simp; omega
  · split
    · simp
    · rename_i e
      rw [e] at ih
      simp at ih ⊢
      omega
theorem splitL_part (c : UInt8) (l : List UInt8) : ∀ p ∈ splitL c l, p.length ≤ l.length := by
 induction l with
 | nil => simp [splitL]
 | cons x xs ih =>
  unfold splitL
  split
  · intro p hp
    rcases List.mem_cons.1 hp with rfl | hp
    · simp
    · have := ih p hp; simp; omega
  · split
    · simp
    · rename_i e
      rw [e] at ih
      intro p hp
      rcases List.mem_cons.1 hp with rfl | hp
      · have := ih _ List.mem_cons_self; simp; omega
      · have := ih p (List.mem_cons_of_mem _ hp); simp; omega
theorem labels_ev (s : ByteArray) (hs : s.size < 549755813888) : ∃ r, Ev (fun k => spec_l1Labels.f k s) r ∧ r.2 = goodL s.data.toList ∧ (r.2 = true → r.1 = (labelsL s.data.toList).map mkB) := by
 by_cases h : s.data.toList = []
 · refine ⟨([], true), ?_, ?_, ?_⟩
   · refine Ev.congr (fun k => ?_) (Ev.now _)
     unfold spec_l1Labels.f
     rw [if_pos (by rw [Lib.toList_data]; exact h)]
   · rw [h]; decide
   · rw [h]; intro _; rfl
 · refine ⟨labsR s ((splitL 46 s.data.toList).map mkB) 0, ?_, ?_, ?_⟩
   · refine Ev.congr (f := fun k => (spec_l1Split.f k s 46).bind fun t => spec_l1Labels.l0 k s t t (t.length : Int) 0) (fun k => ?_) (Ev.bind (split_ev s (by omega)) ?_)
     · show spec_l1Labels.f k s = _
       unfold spec_l1Labels.f
       rw [if_neg (by rw [Lib.toList_data]; exact h)]
     · have hlen : ((splitL 46 s.data.toList).map mkB).length ≤ s.size + 1 := by rw [List.length_map, size_len]; exact splitL_len _ _
       refine labels_loop s _ ?_ (by omega) _ 0 (Nat.zero_add _)
       intro p hp
       obtain ⟨q, hq, rfl⟩ := List.mem_map.1 hp
       have := splitL_part 46 _ q hq
       rw [mkB_size]
       rw [← size_len] at this
       omega
   all_goals
    unfold labsR
    try unfold goodL
    rw [show labelsL s.data.toList = splitL 46 s.data.toList by unfold labelsL; rw [if_neg h]]
    simp only [List.drop_zero, List.all_map, Function.comp_def, mkB_data, List.length_map, ← size_len]
    by_cases h1 : (splitL 46 s.data.toList).all isLabelL = true
    · simp only [show (splitL 46 s.data.toList).all (fun p => isLabelL p) = true from h1]
      by_cases h2 : s.size ≤ 60
      · simp [h1, h2]
      · simp [h1, h2]
    · simp only [show (splitL 46 s.data.toList).all (fun p => isLabelL p) = false from Bool.eq_false_iff.mpr h1]
      simp [h1]
theorem good_ev (s : ByteArray) (hs : s.size < 549755813888) : ∃ r, Ev (fun k => spec_l1Labels.f k s) r ∧ r.2 = goodL s.data.toList := by
 obtain ⟨r, h1, h2, _⟩ := labels_ev s hs
 exact ⟨r, h1, h2⟩
end Go.Proofs.YtiegkjimpclmaaaGreatDoor.Pure
