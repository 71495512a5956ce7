/- FnRecords: part 21 of 29 of my texts for this claim, joined; the theorem stands in the last. Conditions: none beyond the statement's. -/
import Derived.Test.YtiegkjimpclmaaaGreatDoorMFnRecordsx17
namespace Go.Proofs.YtiegkjimpclmaaaGreatDoor.P
open Go.RowKit Go.Proofs.YtiegkjimpclmaaaGreatDoorW.PrintWords Go.Proofs.YtiegkjimpclmaaaGreatDoorW.PrintLast Go.Proofs.YtiegkjimpclmaaaGreatDoorW.PrintMore
attribute [local go_sem] max2_int min2_int max_two min_two max_three min_three max_four min_four
set_option linter.unusedVariables false
set_option linter.unusedSimpArgs false
def impl_compareRecords.f (k : Nat) (a0_0 : ByteArray) (a0_1 : Int) (a0_2 : Int) (a0_3 : ByteArray) (a1_0 : ByteArray) (a1_1 : Int) (a1_2 : Int) (a1_3 : ByteArray) : Option (Int) := (impl_compareKeys.f k a0_0 a0_1 a0_2 a0_3 a1_0 a1_1 a1_2 a1_3).bind fun t406 => ((impl_dataBytes.f k a0_1 a0_3).bind fun t407 => ((impl_dataBytes.f k a1_1 a1_3).bind fun t408 => ((strings_Compare.f t407 t408).bind fun t409 => ((cmp_Compare_int.f a0_2 a1_2).bind fun t410 => ((cmp_Or_int.f k (([t406, t409, t410] : List Int))).bind fun t414 => (some t414))))))
def impl_compareRecords.T1 : Bool × List (List Nat × List Nat) := (true, [([], []), ([], []), ([0, 1], [0, 1]), ([], []), ([3], [3]), ([], []), ([5], [5]), ([4, 6, 2], [4, 6]), ([], []), ([8], [8]), ([], []), ([10], [10]), ([9, 11, 7], [9, 11]), ([7, 12, 12], [7, 12]), ([], []), ([14], [14]), ([], []), ([16], [16]), ([15, 17, 13], [15, 17]), ([2, 13, 18], [2, 13, 18]), ([19, 18], [19]), ([20, 20, 0, 1, 2, 3, 4, 5, 6, 7, 8, 9, 10, 11, 12, 13, 14, 15, 16, 17, 18, 19, 20], [20])])
def impl_compareRecords.B1 : List Nat := [0, 0, 3, 0, 8, 0, 32, 127, 0, 256, 0, 1024, 4095, 8191, 0, 16384, 0, 65536, 262143, 524287, 1048575, 2097151]
theorem impl_compareRecords.tab1 : rtab .any (opsOf Tryz.f77 1) = impl_compareRecords.T1 := by kernel_rfl
theorem impl_compareRecords.bits1 : waitsOk impl_compareRecords.T1.2 impl_compareRecords.B1 = true := by kernel_rfl
set_option maxHeartbeats 8000000 in
set_option maxRecDepth 100000 in
theorem impl_compareRecords.calls (k : Nat) (a0_0 : ByteArray) (a0_1 : Int) (a0_2 : Int) (a0_3 : ByteArray) (a1_0 : ByteArray) (a1_1 : Int) (a1_2 : Int) (a1_3 : ByteArray) (r : Int) (w : World) (h : impl_compareRecords.f k a0_0 a0_1 a0_2 a0_3 a1_0 a1_1 a1_2 a1_3 = some r) (hv_ : Vars w := by exact vv_) :
 Calls Tryz.prog 77 #[.agg #[.string a0_0, .int .i64 a0_1, .int .i64 a0_2, .string a0_3], .agg #[.string a1_0, .int .i64 a1_1, .int .i64 a1_2, .string a1_3]] w fun e w' => e = .returned (.int .i64 r) ∧ Below w.heap.size w w' := by
 have HV_ := a0_ hv_
 clear hv_
 have hu45 := Tryz.underlying45
 have HB := a0_ (Below.refl w.heap.size w)
 have H := h
 clear h
 unfold impl_compareRecords.f at H
 obtain ⟨t406, A30, H⟩ := Option.bind_eq_some_iff.mp H
 have A3 := a0_ A30
 clear A30
 obtain ⟨t407, A40, H⟩ := Option.bind_eq_some_iff.mp H
 have A4 := a0_ A40
 clear A40
 obtain ⟨t408, A50, H⟩ := Option.bind_eq_some_iff.mp H
 have A5 := a0_ A50
 clear A50
 obtain ⟨t409, A60, H⟩ := Option.bind_eq_some_iff.mp H
 have A6 := a0_ A60
 clear A60
 obtain ⟨t410, A70, H⟩ := Option.bind_eq_some_iff.mp H
 have A7 := a0_ A70
 clear A70
 obtain ⟨y411, hy411⟩ : ∃ y_ : List Int, y_ = (([t406, t409, t410] : List Int)) := ⟨_, rfl⟩
 replace H : ((cmp_Or_int.f k y411).bind fun t414 => (some t414)) = some r := by first | (rw [hy411]; with_reducible exact H) | (have H2_ := (Option.bind_some _ _).symm.trans H; rw [hy411]; with_reducible exact H2_) | (have H2_ := (Option.bind_some _ _).symm.trans H; with_reducible exact H2_) | with_reducible exact H | (rw [hy411]; exact H) | exact H
 have Ny411 := a0_ hy411
 clear hy411
 obtain ⟨t414, A80, H⟩ := Option.bind_eq_some_iff.mp H
 have A8 := a0_ A80
 clear A80
 obtain rfl := Option.some.inj H
 go_enter Tryz.func77, Tryz.ntmps77
 try go_wp2_with (first | ((with_reducible refine gate_dst (N := 2) rfl ?_); refine boxS_ 2 #[.string a0_0, .int .i64 a0_1, .int .i64 a0_2, .string a0_3] 45 (fun gb404 hg w9 hbox hb => ?_); have n0_ := a0_ (below_step bq0_ hb); have n1_ := a0_ (hbox); have n2_ := a0_ (gw_ hg : w.heap.size ≤ gb404); have n3_ := n2_; clear HB; have HB := n0_; have BK404 := n1_; have GW404 := n2_; have GE404 := n3_; clear n0_ n1_ n2_ n3_; clear hb hbox hg) | ((with_reducible refine gate_dst (N := 3) rfl ?_); refine boxS_ 3 #[.string a1_0, .int .i64 a1_1, .int .i64 a1_2, .string a1_3] 45 (fun gb405 hg w10 hbox hb => ?_); have n0_ := a0_ (bkB_ BK404 hb); have n1_ := a0_ (below_step bq1_ hb); have n2_ := a0_ (hbox); have n3_ := a0_ (gw_ hg (below_size bq1_) : w.heap.size ≤ gb405); have n4_ := n3_; have n5_ := a0_ ((by rw [hg]; exact Nat.ne_of_lt (blk_lt (g := gb404) (o := .cells #[.string a0_0, .int .i64 a0_1, .int .i64 a0_2, .string a0_3] 45 (0, 0)) (kB_ BK404.out)) : gb404 ≠ gb405)); have n6_ := a0_ ((by rw [hg]; exact Nat.ne_of_gt (blk_lt (g := gb404) (o := .cells #[.string a0_0, .int .i64 a0_1, .int .i64 a0_2, .string a0_3] 45 (0, 0)) (kB_ BK404.out)) : gb405 ≠ gb404)); clear BK404; clear HB; have BK404 := n0_; have HB := n1_; have BK405 := n2_; have GW405 := n3_; have GE405 := n4_; have NB404_405 := n5_; have NB405_404 := n6_; clear n0_ n1_ n2_ n3_ n4_ n5_ n6_; clear hb hbox hg))
 replace BK404 := a0_ (blk_drew BK404.out)
 replace BK405 := a0_ (blk_drew BK405.out)
 replace HB := a0_ (below_drew1 HB.out)
 refine start_ (n := 22) (S := fun w' => w'.cell? ⟨gb404, 0, none⟩ = some (.string a0_0) ∧ w'.cell? ⟨gb404, 1, none⟩ = some (.int .i64 a0_1) ∧ w'.cell? ⟨gb404, 2, none⟩ = some (.int .i64 a0_2) ∧ w'.cell? ⟨gb404, 3, none⟩ = some (.string a0_3) ∧ w'.cell? ⟨gb405, 0, none⟩ = some (.string a1_0) ∧ w'.cell? ⟨gb405, 1, none⟩ = some (.int .i64 a1_1) ∧ w'.cell? ⟨gb405, 2, none⟩ = some (.int .i64 a1_2) ∧ w'.cell? ⟨gb405, 3, none⟩ = some (.string a1_3)) (ds := []) #[false, false, false, false, false, false, false, false, false, false, false, false, false, false, false, false, false, false, false, false, false, false] (by kernel_rfl) rfl rfl ⟨(blk_cell BK404.out 0).trans rfl, (blk_cell BK404.out 1).trans rfl, (blk_cell BK404.out 2).trans rfl, (blk_cell BK404.out 3).trans rfl, (blk_cell BK405.out 0).trans rfl, (blk_cell BK405.out 1).trans rfl, (blk_cell BK405.out 2).trans rfl, (blk_cell BK405.out 3).trans rfl⟩ (fun hHeld => ?_); refine with_tabW impl_compareRecords.tab1 impl_compareRecords.bits1 (fun HT_ HW_ => ?_)
 generalize w10.drew = w11 at BK404 BK405 HB hHeld ⊢
 refine pureS_ 3 (some 8) ?_
 refine pureS_ 5 (some 10) ?_
 refine pureS_ 8 (some 13) ?_
 refine pureS_ 10 (some 15) ?_
 refine pureS_ 14 (some 19) ?_
 refine pureS_ 16 (some 21) ?_
 refine takeS_ 0 (some 5) ?_
 refine takeS_ 1 (some 6) ?_
 refine takeS_ 4 (some 9) ?_
 refine takeS_ 6 (some 11) ?_
 refine takeS_ 9 (some 14) ?_
 refine takeS_ 11 (some 16) ?_
 refine takeS_ 15 (some 20) ?_
 refine takeS_ 17 (some 22) ?_
 refine oneS_ 2 (some 7) (fun K hK => ?_)
 refine goes_ Tryz.func65 (by kernel_rfl) rfl #[.agg #[.string a0_0, .int .i64 a0_1, .int .i64 a0_2, .string a0_3], .agg #[.string a1_0, .int .i64 a1_1, .int .i64 a1_2, .string a1_3]] (by rfl) rfl rfl argsS_ ?_
 with_reducible refine (impl_compareKeys.calls k a0_0 a0_1 a0_2 a0_3 a1_0 a1_1 a1_2 a1_3 t406 _ A3.out).mono ?_
 rintro e w12 ⟨rfl, hb⟩
 refine ⟨_, rfl, ?_⟩
 replace BK404 := a0_ (bkB_ BK404 hb)
 replace BK405 := a0_ (bkB_ BK405 hb)
 replace HB := a0_ (below_step bq1_ hb)
 (try clear hb)
 (try clear hb2)
 (try clear hk)
 (try clear hi)
 refine hK.out _ _ ⟨(blk_cell BK404.out 0).trans rfl, (blk_cell BK404.out 1).trans rfl, (blk_cell BK404.out 2).trans rfl, (blk_cell BK404.out 3).trans rfl, (blk_cell BK405.out 0).trans rfl, (blk_cell BK405.out 1).trans rfl, (blk_cell BK405.out 2).trans rfl, (blk_cell BK405.out 3).trans rfl⟩ (fun hHeld => ?_)
 clear hK K
 refine normS_ ?_
 refine oneS_ 7 (some 12) (fun K hK => ?_)
 refine goes_ Tryz.func141 (by kernel_rfl) rfl #[.int .i64 a0_1, .string a0_3] (by rfl) rfl rfl argsS_ ?_
 with_reducible refine (impl_dataBytes.calls k a0_1 a0_3 t407 _ A4.out).mono ?_
 rintro e w13 ⟨rfl, hb⟩
 refine ⟨_, rfl, ?_⟩
 replace BK404 := a0_ (bkB_ BK404 hb)
 replace BK405 := a0_ (bkB_ BK405 hb)
 replace HB := a0_ (below_step bq1_ hb)
 (try clear hb)
 (try clear hb2)
 (try clear hk)
 (try clear hi)
 refine hK.out _ _ ⟨(blk_cell BK404.out 0).trans rfl, (blk_cell BK404.out 1).trans rfl, (blk_cell BK404.out 2).trans rfl, (blk_cell BK404.out 3).trans rfl, (blk_cell BK405.out 0).trans rfl, (blk_cell BK405.out 1).trans rfl, (blk_cell BK405.out 2).trans rfl, (blk_cell BK405.out 3).trans rfl⟩ (fun hHeld => ?_)
 clear hK K
 refine normS_ ?_
 refine oneS_ 12 (some 17) (fun K hK => ?_)
 refine goes_ Tryz.func141 (by kernel_rfl) rfl #[.int .i64 a1_1, .string a1_3] (by rfl) rfl rfl argsS_ ?_
 with_reducible refine (impl_dataBytes.calls k a1_1 a1_3 t408 _ A5.out).mono ?_
 rintro e w14 ⟨rfl, hb⟩
 refine ⟨_, rfl, ?_⟩
 replace BK404 := a0_ (bkB_ BK404 hb)
 replace BK405 := a0_ (bkB_ BK405 hb)
 replace HB := a0_ (below_step bq1_ hb)
 (try clear hb)
 (try clear hb2)
 (try clear hk)
 (try clear hi)
 refine hK.out _ _ ⟨(blk_cell BK404.out 0).trans rfl, (blk_cell BK404.out 1).trans rfl, (blk_cell BK404.out 2).trans rfl, (blk_cell BK404.out 3).trans rfl, (blk_cell BK405.out 0).trans rfl, (blk_cell BK405.out 1).trans rfl, (blk_cell BK405.out 2).trans rfl, (blk_cell BK405.out 3).trans rfl⟩ (fun hHeld => ?_)
 clear hK K
 refine normS_ ?_
 refine oneS_ 13 (some 18) (fun K hK => ?_)
 refine goes_ Tryz.func140 (by kernel_rfl) rfl #[.string t407, .string t408] (by rfl) rfl rfl argsS_ ?_
 with_reducible refine (strings_Compare.calls t407 t408 t409 _ A6.out).mono ?_
 rintro e w' ⟨rfl, ⟨nd, rfl⟩⟩
 refine ⟨_, rfl, ?_⟩
 refine hK.out _ _ ⟨(blk_cell BK404.out 0).trans rfl, (blk_cell BK404.out 1).trans rfl, (blk_cell BK404.out 2).trans rfl, (blk_cell BK404.out 3).trans rfl, (blk_cell BK405.out 0).trans rfl, (blk_cell BK405.out 1).trans rfl, (blk_cell BK405.out 2).trans rfl, (blk_cell BK405.out 3).trans rfl⟩ (fun hHeld => ?_)
 clear hK K
 refine normS_ ?_
 refine oneS_ 18 (some 23) (fun K hK => ?_)
 refine goes_ Tryz.func133 (by kernel_rfl) rfl #[.int .i64 a0_2, .int .i64 a1_2] (by rfl) rfl rfl argsS_ ?_
 with_reducible refine (cmp_Compare_int.calls a0_2 a1_2 t410 _ A7.out).mono ?_
 rintro e w' ⟨rfl, ⟨nd, rfl⟩⟩
 refine ⟨_, rfl, ?_⟩
 refine hK.out _ _ ⟨(blk_cell BK404.out 0).trans rfl, (blk_cell BK404.out 1).trans rfl, (blk_cell BK404.out 2).trans rfl, (blk_cell BK404.out 3).trans rfl, (blk_cell BK405.out 0).trans rfl, (blk_cell BK405.out 1).trans rfl, (blk_cell BK405.out 2).trans rfl, (blk_cell BK405.out 3).trans rfl⟩ (fun hHeld => ?_)
 clear hK K
 refine normS_ ?_
 refine oneS_ 19 (some 24) (fun K hK => ?_)
 refine Kd.R_lit_step (Kd.int .i64) _ 3 ?hg (N := 24) ?hd (xs := ([t406, t409, t410] : List Int)) (inner := [.int .i64 t406, .int .i64 t409, .int .i64 t410]) (ok := fun _ => True) (okp := fun _ => True) ?hr ?hp (fun _ hk => hk) trivial (Below.refl _ _) (Nat.le_refl _) (by simp) ?_; (case hd => rfl); (case hg => rfl); (case hr => first | (go_simp; done) | (go_simp; rfl)); (case hp => exact (Reps.one (show Kd.M (Kd.int .i64) _ _ _ t406 [.int .i64 t406] from rfl) (Reps.one (show Kd.M (Kd.int .i64) _ _ _ t409 [.int .i64 t409] from rfl) (Reps.one (show Kd.M (Kd.int .i64) _ _ _ t410 [.int .i64 t410] from rfl) (Reps.none _ _)))))
 intro v412 w15 ho16 hb hg_ hnew_
 clear hg_ hnew_
 (first | rw [← Ny411.out] at ho16 | (simp only [Int.reduceToNat] at ho16; rw [← Ny411.out] at ho16))
 have HO413 := a0_ (Kd.R_lower ho16 (below_size bq1_))
 replace BK404 := a0_ (bkB_ BK404 hb)
 replace BK405 := a0_ (bkB_ BK405 hb)
 replace HB := a0_ (below_step bq1_ hb)
 clear hb ho16
 obtain ⟨Ao17, co17, eo17⟩ := Kd.R_slice HO413.out
 (first | subst eo17 | (injection eo17 with f1_ f2_ f3_; have f4_ := f1_.symm; have f5_ := f3_.symm; clear f1_ f2_ f3_; subst f4_; subst f5_))
 refine hK.out _ _ ⟨(blk_cell BK404.out 0).trans rfl, (blk_cell BK404.out 1).trans rfl, (blk_cell BK404.out 2).trans rfl, (blk_cell BK404.out 3).trans rfl, (blk_cell BK405.out 0).trans rfl, (blk_cell BK405.out 1).trans rfl, (blk_cell BK405.out 2).trans rfl, (blk_cell BK405.out 3).trans rfl⟩ (fun hHeld => ?_)
 clear hK K
 refine normS_ ?_
 refine oneS_ 20 (some 25) (fun K hK => ?_)
 refine goes_ Tryz.func131 (by kernel_rfl) rfl #[.slice Ao17 y411.length co17] (by rfl) rfl rfl argsS_ ?_
 with_reducible refine (cmp_Or_int.calls k _ _ y411 t414 _ ?side1 ?side2 A8.out).mono ?_
 (case side1 => exact kD_ (Kd.R_reads' HO413.out).2.2)
 (case side2 => exact (Kd.R_reads' HO413.out).2.1)
 rintro e w' ⟨rfl, ⟨nd, rfl⟩⟩
 refine ⟨_, rfl, ?_⟩
 refine hK.out _ _ ⟨(blk_cell BK404.out 0).trans rfl, (blk_cell BK404.out 1).trans rfl, (blk_cell BK404.out 2).trans rfl, (blk_cell BK404.out 3).trans rfl, (blk_cell BK405.out 0).trans rfl, (blk_cell BK405.out 1).trans rfl, (blk_cell BK405.out 2).trans rfl, (blk_cell BK405.out 3).trans rfl⟩ (fun hHeld => ?_)
 clear hK K
 refine normS_ ?_
 refine pureS_ 21 (some 4) ?_
 refine done_ (done_of HT_.out (by kernel_rfl)) ?_
 try go_wp2
 go_ret
 exact ⟨rr_, bq1_⟩
mutual
def impl_takeName.l0 : Nat → ByteArray → Int → List ByteArray → List Int → Int → Int → Option (ByteArray × List Int × Int × Bool)
 | 0, _, _, _, _, _, _ => none
 | k + 1, x0, x1, x8, x9, x10, x11 => if x1 < (x0.size : Int) then (impl_takeName.j1 k x0 x1 x8 x9 x10 x11 (decide ((x8.length : Int) ≤ 8))) else (impl_takeName.j1 k x0 x1 x8 x9 x10 x11 false)
def impl_takeName.j1 : Nat → ByteArray → Int → List ByteArray → List Int → Int → Int → Bool → Option (ByteArray × List Int × Int × Bool)
 | 0, _, _, _, _, _, _, _ => none
 | k + 1, x0, x1, x8, x9, x10, x11, x26 => if x26 = true then (if 0 ≤ x1 then (if x1 < (x0.size : Int) then (if (wrap64 (bt x0 x1)) = 0 then (if x11 < 0 then ((impl_NameOf.f x8).bind fun bt261 => (some (bt261.1, x9, wrap64 (x1 + 1), bt261.2))) else ((impl_NameOf.f x8).bind fun bt263 => (some (bt263.1, x9, x11, bt263.2)))) else (if (wrap64 (bt x0 x1)) ≥ 192 then (if (wrap64 (x1 + 1)) ≥ (x0.size : Int) then (some ((⟨#[]⟩ : ByteArray), ([] : List Int), 0, false)) else (if x11 < 0 then (if 0 ≤ (wrap64 (x1 + 1)) then (if (wrap64 (x1 + 1)) < (x0.size : Int) then (if (wrap64 ((wrap64 ((Int.tmod (wrap64 (bt x0 x1)) 64) * 256)) + (wrap64 (bt x0 (wrap64 (x1 + 1)))))) ≥ x10 then (some ((⟨#[]⟩ : ByteArray), ([] : List Int), 0, false)) else (impl_takeName.l0 k x0 (wrap64 ((wrap64 ((Int.tmod (wrap64 (bt x0 x1)) 64) * 256)) + (wrap64 (bt x0 (wrap64 (x1 + 1)))))) x8 x9 (wrap64 ((wrap64 ((Int.tmod (wrap64 (bt x0 x1)) 64) * 256)) + (wrap64 (bt x0 (wrap64 (x1 + 1)))))) (wrap64 (x1 + 2)))) else (none)) else (none)) else (if 0 ≤ (wrap64 (x1 + 1)) then (if (wrap64 (x1 + 1)) < (x0.size : Int) then (if (wrap64 ((wrap64 ((Int.tmod (wrap64 (bt x0 x1)) 64) * 256)) + (wrap64 (bt x0 (wrap64 (x1 + 1)))))) ≥ x10 then (some ((⟨#[]⟩ : ByteArray), ([] : List Int), 0, false)) else (impl_takeName.l0 k x0 (wrap64 ((wrap64 ((Int.tmod (wrap64 (bt x0 x1)) 64) * 256)) + (wrap64 (bt x0 (wrap64 (x1 + 1)))))) x8 x9 (wrap64 ((wrap64 ((Int.tmod (wrap64 (bt x0 x1)) 64) * 256)) + (wrap64 (bt x0 (wrap64 (x1 + 1)))))) x11)) else (none)) else (none)))) else (if (wrap64 (bt x0 x1)) ≥ 64 then (impl_takeName.j2 k x0 x1 x8 x9 x10 x11 (wrap64 (bt x0 x1)) true) else (impl_takeName.j2 k x0 x1 x8 x9 x10 x11 (wrap64 (bt x0 x1)) (decide ((wrap64 ((wrap64 (x1 + 1)) + (wrap64 (bt x0 x1)))) > (x0.size : Int))))))) else (none)) else (none)) else (some ((⟨#[]⟩ : ByteArray), ([] : List Int), 0, false))
def impl_takeName.j2 : Nat → ByteArray → Int → List ByteArray → List Int → Int → Int → Int → Bool → Option (ByteArray × List Int × Int × Bool)
 | 0, _, _, _, _, _, _, _, _ => none
 | k + 1, x0, x1, x8, x9, x10, x11, x12, x94 => if x94 = true then (some ((⟨#[]⟩ : ByteArray), ([] : List Int), 0, false)) else (if x11 < 0 then (if x9.length < 17592186044416 then (if 0 ≤ (wrap64 (x1 + 1)) then (if (wrap64 (x1 + 1)) ≤ (wrap64 ((wrap64 (x1 + 1)) + x12)) then (if (wrap64 ((wrap64 (x1 + 1)) + x12)) ≤ (x0.size : Int) then ((impl_small.f (x0.extract ((wrap64 (x1 + 1)) : Int).toNat ((wrap64 ((wrap64 (x1 + 1)) + x12)) : Int).toNat)).bind fun t268 => (if x8.length < 8796093022208 then (impl_takeName.l0 k x0 (wrap64 (x1 + (wrap64 (1 + x12)))) (x8 ++ [t268]) (x9 ++ [x1]) x10 x11) else (none))) else (none)) else (none)) else (none)) else (none)) else (if 0 ≤ (wrap64 (x1 + 1)) then (if (wrap64 (x1 + 1)) ≤ (wrap64 ((wrap64 (x1 + 1)) + x12)) then (if (wrap64 ((wrap64 (x1 + 1)) + x12)) ≤ (x0.size : Int) then ((impl_small.f (x0.extract ((wrap64 (x1 + 1)) : Int).toNat ((wrap64 ((wrap64 (x1 + 1)) + x12)) : Int).toNat)).bind fun t272 => (if x8.length < 8796093022208 then (impl_takeName.l0 k x0 (wrap64 (x1 + (wrap64 (1 + x12)))) (x8 ++ [t272]) x9 x10 x11) else (none))) else (none)) else (none)) else (none)))
end
def impl_takeName.f (k : Nat) (a0 : ByteArray) (a1 : Int) : Option (ByteArray × List Int × Int × Bool) := impl_takeName.l0 k a0 a1 (([] : List ByteArray)) (([] : List Int)) a1 (-1)
theorem impl_takeName.mono_l : ∀ k, (∀ y0 y1 y2 y3 y4 y5, LeO (impl_takeName.l0 k y0 y1 y2 y3 y4 y5) (impl_takeName.l0 (k + 1) y0 y1 y2 y3 y4 y5)) ∧ (∀ y0 y1 y2 y3 y4 y5 y6, LeO (impl_takeName.j1 k y0 y1 y2 y3 y4 y5 y6) (impl_takeName.j1 (k + 1) y0 y1 y2 y3 y4 y5 y6)) ∧ (∀ y0 y1 y2 y3 y4 y5 y6 y7, LeO (impl_takeName.j2 k y0 y1 y2 y3 y4 y5 y6 y7) (impl_takeName.j2 (k + 1) y0 y1 y2 y3 y4 y5 y6 y7))
 | 0 => ⟨fun _ _ _ _ _ _ r h => by simp [impl_takeName.l0] at h, fun _ _ _ _ _ _ _ r h => by simp [impl_takeName.j1] at h, fun _ _ _ _ _ _ _ _ r h => by simp [impl_takeName.j2] at h⟩
 | k + 1 => by
  obtain ⟨ih0, ih1, ih2⟩ := impl_takeName.mono_l k
  refine ⟨?_, ?_, ?_⟩
  · intro y0 y1 y2 y3 y4 y5
    unfold impl_takeName.l0
    repeat' first
    | (with_reducible exact ih0 _ _ _ _ _ _)
    | (with_reducible exact ih1 _ _ _ _ _ _ _)
    | (with_reducible exact ih2 _ _ _ _ _ _ _ _)
    | (with_reducible exact LeO.refl _)
    | (with_reducible exact LeO.none _)
    | (with_reducible refine LeO.ite ?_ ?_)
    | (with_reducible refine LeO.bind ?_ (fun _ => ?_))
    | exact ih0 _ _ _ _ _ _
    | exact ih1 _ _ _ _ _ _ _
    | exact ih2 _ _ _ _ _ _ _ _
    | exact LeO.none _
    | refine LeO.ite ?_ ?_
    | refine LeO.bind ?_ (fun _ => ?_)
  · intro y0 y1 y2 y3 y4 y5 y6
    unfold impl_takeName.j1
    repeat' first
    | (with_reducible exact ih0 _ _ _ _ _ _)
    | (with_reducible exact ih1 _ _ _ _ _ _ _)
    | (with_reducible exact ih2 _ _ _ _ _ _ _ _)
    | (with_reducible exact LeO.refl _)
    | (with_reducible exact LeO.none _)
    | (with_reducible refine LeO.ite ?_ ?_)
    | (with_reducible refine LeO.bind ?_ (fun _ => ?_))
    | exact ih0 _ _ _ _ _ _
    | exact ih1 _ _ _ _ _ _ _
    | exact ih2 _ _ _ _ _ _ _ _
    | exact LeO.none _
    | refine LeO.ite ?_ ?_
    | refine LeO.bind ?_ (fun _ => ?_)
  · intro y0 y1 y2 y3 y4 y5 y6 y7
    unfold impl_takeName.j2
    repeat' first
    | (with_reducible exact ih0 _ _ _ _ _ _)
    | (with_reducible exact ih1 _ _ _ _ _ _ _)
    | (with_reducible exact ih2 _ _ _ _ _ _ _ _)
    | (with_reducible exact LeO.refl _)
    | (with_reducible exact LeO.none _)
    | (with_reducible refine LeO.ite ?_ ?_)
    | (with_reducible refine LeO.bind ?_ (fun _ => ?_))
    | exact ih0 _ _ _ _ _ _
    | exact ih1 _ _ _ _ _ _ _
    | exact ih2 _ _ _ _ _ _ _ _
    | exact LeO.none _
    | refine LeO.ite ?_ ?_
    | refine LeO.bind ?_ (fun _ => ?_)
theorem impl_takeName.mono : ∀ a0 a1 k, LeO (impl_takeName.f k a0 a1) (impl_takeName.f (k + 1) a0 a1) := by
 intro a0 a1 k
 obtain ⟨ih0, ih1, ih2⟩ := impl_takeName.mono_l k
 unfold impl_takeName.f
 repeat' first
  | (with_reducible exact ih0 _ _ _ _ _ _)
  | (with_reducible exact ih1 _ _ _ _ _ _ _)
  | (with_reducible exact ih2 _ _ _ _ _ _ _ _)
  | (with_reducible exact LeO.refl _)
  | (with_reducible exact LeO.none _)
  | (with_reducible refine LeO.ite ?_ ?_)
  | (with_reducible refine LeO.bind ?_ (fun _ => ?_))
  | exact ih0 _ _ _ _ _ _
  | exact ih1 _ _ _ _ _ _ _
  | exact ih2 _ _ _ _ _ _ _ _
  | exact LeO.none _
  | refine LeO.ite ?_ ?_
  | refine LeO.bind ?_ (fun _ => ?_)
set_option maxHeartbeats 8000000 in
set_option maxRecDepth 100000 in
theorem impl_takeName.calls (k : Nat) (a0 : ByteArray) (a1 : Int) (r1 : ByteArray) (r2 : List Int) (r3 : Int) (r4 : Bool) (w : World) (h : impl_takeName.f k a0 a1 = some (r1, r2, r3, r4)) :
 Calls Tryz.prog 125 #[.string a0, .int .i64 a1] w fun e w' => ∃ v1_ : Value, e = .returned (.tuple #[.string r1, v1_, .int .i64 r3, .bool r4]) ∧ Kd.R (Kd.int .i64) 3 w' w.heap.size (fun _ => True) v1_ r2 ∧ Below w.heap.size w w' := by
 have HB := a0_ (Below.refl w.heap.size w)
 have H := h
 clear h
 unfold impl_takeName.f at H
 obtain ⟨y255, hy255⟩ : ∃ y_ : List ByteArray, y_ = (([] : List ByteArray)) := ⟨_, rfl⟩
 replace H : (impl_takeName.l0 k a0 a1 y255 (([] : List Int)) a1 (-1)) = some (r1, r2, r3, r4) := by first | (rw [hy255]; with_reducible exact H) | (have H2_ := (Option.bind_some _ _).symm.trans H; rw [hy255]; with_reducible exact H2_) | (have H2_ := (Option.bind_some _ _).symm.trans H; with_reducible exact H2_) | with_reducible exact H | (rw [hy255]; exact H) | exact H
 have Ny255 := a0_ hy255
 clear hy255
 obtain ⟨y258, hy258⟩ : ∃ y_ : List Int, y_ = (([] : List Int)) := ⟨_, rfl⟩
 replace H : (impl_takeName.l0 k a0 a1 y255 y258 a1 (-1)) = some (r1, r2, r3, r4) := by first | (rw [hy258]; with_reducible exact H) | (have H2_ := (Option.bind_some _ _).symm.trans H; rw [hy258]; with_reducible exact H2_) | (have H2_ := (Option.bind_some _ _).symm.trans H; with_reducible exact H2_) | with_reducible exact H | (rw [hy258]; exact H) | exact H
 have Ny258 := a0_ hy258
 clear hy258
 have H' := a0_ H
 clear H
 go_enter Tryz.func125, Tryz.ntmps125
 go_wp2_with (first | ((with_reducible refine gate_dst (N := 15) rfl ?_); (try (refine gate_guard (by rfl) ?_; dsimp only)); refine Kd.R_lit Kd.string _ 9 ?hg (N := 15) ?hd (xs := ([] : List ByteArray)) (inner := []) (ok := fun _ => True) (okp := fun _ => True) ?hr ?hp (fun _ hk => hk) trivial (Below.refl _ _) (Nat.le_refl _) (by simp) ?_; (case hd => rfl); (case hg => rfl); (case hr => first | (go_simp; done) | (go_simp; rfl)); (case hp => exact (Reps.none _ _)); intro v256 w3 ho4 hb hg_ hnew_; clear hg_ hnew_; (first | rw [← Ny255.out] at ho4 | (simp only [Int.reduceToNat] at ho4; rw [← Ny255.out] at ho4)); have HO257 := a0_ (Kd.R_lower ho4 (below_size bq0_)); replace HB := a0_ (below_step bq0_ hb); clear hb ho4) | ((with_reducible refine gate_dst (N := 16) rfl ?_); (try (refine gate_guard (by rfl) ?_; dsimp only)); refine Kd.R_lit (Kd.int .i64) _ 3 ?hg (N := 16) ?hd (xs := ([] : List Int)) (inner := []) (ok := fun _ => True) (okp := fun _ => True) ?hr ?hp (fun _ hk => hk) trivial (Below.refl _ _) (Nat.le_refl _) (by simp) ?_; (case hd => rfl); (case hg => rfl); (case hr => first | (go_simp; done) | (go_simp; rfl)); (case hp => exact (Reps.none _ _)); intro v259 w5 ho6 hb hg_ hnew_; clear hg_ hnew_; (first | rw [← Ny258.out] at ho6 | (simp only [Int.reduceToNat] at ho6; rw [← Ny258.out] at ho6)); replace HO257 := a0_ (Kd.R_below (kR_ HO257.out) hb); have HO260 := a0_ (Kd.R_lower ho6 (below_size bq0_)); replace HB := a0_ (below_step bq0_ hb); clear hb ho6))
 go_loopg [1, 8, 9, 10, 11] k (fun kq v1 v8 v9 v10 v11 w' => ∃ (x1_1 : Int) (x8_1 : List ByteArray) (x9_1 : List Int) (x10_1 : Int) (x11_1 : Int), v1 = .int .i64 x1_1 ∧ v10 = .int .i64 x10_1 ∧ v11 = .int .i64 x11_1 ∧ Aside0 (impl_takeName.l0 kq a0 x1_1 x8_1 x9_1 x10_1 x11_1 = some (r1, r2, r3, r4)) ∧ Aside0 (kq ≤ k) ∧ Aside0 (Kd.R Kd.string 9 w' w.heap.size (fun _ => True) v8 x8_1) ∧ Aside0 (Kd.R (Kd.int .i64) 3 w' w.heap.size (fun _ => True) v9 x9_1) ∧ Aside0 (Below w.heap.size w w'))
 case atStart => exact ⟨(a1), (y255), (y258), (a1), ((-1)), rs_, rs_, rs_, H', ⟨Nat.le_refl _⟩, ⟨by (with_reducible repeat (first | apply Kd.R_alloc | apply Kd.R_drewN | apply Kd.R_drew)); exact HO257.out⟩, ⟨by (with_reducible repeat (first | apply Kd.R_alloc | apply Kd.R_drewN | apply Kd.R_drew)); exact HO260.out⟩, ⟨bq0_⟩⟩
 case round =>
  clear H'
  obtain ⟨x1_1, x8_1, x9_1, x10_1, x11_1, rfl, rfl, rfl, HA, HK1, HO_8, HO_9, HB⟩ := hrel
  cases gk with
  | zero => exact absurd HA.out (by simp [impl_takeName.l0])
  | succ k1 =>
   have H := HA.out
   clear HA
   simp only [impl_takeName.l0] at H
   have HC7 := a0_ H
   clear H
   go_upto_region 3 with (fail)
   go_cut [26] (fun v26 wc => ∃ (kq : Nat) (x26_6 : Bool), v26 = .bool x26_6 ∧ Aside0 (impl_takeName.j1 kq a0 x1_1 x8_1 x9_1 x10_1 x11_1 x26_6 = some (r1, r2, r3, r4)) ∧ Aside0 (kq ≤ k1) ∧ Aside0 (Kd.R Kd.string 9 wc w.heap.size (fun _ => True) u8 x8_1) ∧ Aside0 (Kd.R (Kd.int .i64) 3 wc w.heap.size (fun _ => True) u9 x9_1) ∧ Aside0 (Below w.heap.size w wc))
   case first =>
    have H := HC7.out
    clear HC7
    by_cases c8 : x1_1 < (a0.size : Int)
    case neg =>
     rw [if_neg c8] at H
     have c8b0 := decide_eq_false c8
     clear c8
     (first | rw [c8b0] | (simp only [i64_w, i32_w]; rw [c8b0]) | skip)
     have H' := a0_ H
     clear H
     go_wp2
     go_meet
     case rel => exact ⟨_, (false), rs_, H', ⟨by have := HK1.out; first | omega | exact Nat.le_refl _⟩, ⟨by (with_reducible repeat (first | apply Kd.R_alloc | apply Kd.R_drewN | apply Kd.R_drew)); exact HO_8.out⟩, ⟨by (with_reducible repeat (first | apply Kd.R_alloc | apply Kd.R_drewN | apply Kd.R_drew)); exact HO_9.out⟩, ⟨bq0_⟩⟩
    rw [if_pos c8] at H
    have c8b0 := decide_eq_true c8
    clear c8
    (first | rw [c8b0] | (simp only [i64_w, i32_w]; rw [c8b0]) | skip)
    have H' := a0_ H
    clear H
    obtain ⟨Ao9, co9, eo9⟩ := Kd.R_slice HO_8.out
    subst eo9
    go_wp2
    go_meet
    case rel => exact ⟨_, (decide ((x8_1.length : Int) ≤ 8)), rs_, H', ⟨by have := HK1.out; first | omega | exact Nat.le_refl _⟩, ⟨by (with_reducible repeat (first | apply Kd.R_alloc | apply Kd.R_drewN | apply Kd.R_drew)); exact HO_8.out⟩, ⟨by (with_reducible repeat (first | apply Kd.R_alloc | apply Kd.R_drewN | apply Kd.R_drew)); exact HO_9.out⟩, ⟨bq0_⟩⟩
   case rest =>
    clear HC7
    try clear c1
    try clear p2
    try clear p2
    obtain ⟨kq, x26_6, rfl, HA, HJ6, HO_8, HO_9, HB⟩ := hcut
    cases kq with
    | zero => exact absurd HA.out (by simp [impl_takeName.j1])
    | succ kj6 =>
     have H := HA.out
     clear HA
     simp only [impl_takeName.j1] at H
     by_cases c10 : x26_6 = true
     case neg =>
      replace c10 := Bool.eq_false_iff.mpr c10
      subst c10
      rw [if_neg (show ¬ (false = true) by decide)] at H
      simp only [Option.some.injEq, Prod.mk.injEq] at H
      obtain ⟨rfl, rfl, rfl, rfl⟩ := H
      go_wp2
      refine bodyPost_ret (results_list (rs := [.tmp 4, .tmp 5, .tmp 6, .tmp 7]) rfl (by simp) (.tmp (.tmp (.tmp (.tmp .nil))))) rfl ?_
      exact ⟨_, rr_, by first | exact Kd.R_nil _ _ _ _ _ | exact Kd.N_nil _ _ _ _ _ | exact Kd.V_nil _ _ _ _ _ | exact Kd.Q_nil _ _ _ _ _ | exact Kd.S_nil _ _ _ _ _, bq0_⟩
     subst c10
     rw [if_pos rfl] at H
     by_cases c11 : 0 ≤ x1_1
     case neg =>
      rw [if_neg c11] at H
      exact absurd H (by simp)
     rw [if_pos c11] at H
     have c11b0 := decide_eq_true c11
     clear c11
     by_cases c12 : x1_1 < (a0.size : Int)
     case neg =>
      rw [if_neg c12] at H
      exact absurd H (by simp)
     rw [if_pos c12] at H
     have c12b0 := decide_eq_true c12
     clear c12
     by_cases c14 : (wrap64 (bt a0 x1_1)) = 0
     case pos =>
      rw [if_pos c14] at H
      have c14b0 := beq_iff_eq.mpr c14
      have c14b1 := bne_eq_false_iff_eq.mpr c14
      clear c14
      by_cases c15 : x11_1 < 0
      case neg =>
       rw [if_neg c15] at H
       have c15b0 := decide_eq_false c15
       clear c15
       obtain ⟨⟨t263, t264⟩, A190, H⟩ := Option.bind_eq_some_iff.mp H
       have A19 := a0_ A190
       clear A190
       simp only [Option.some.injEq, Prod.mk.injEq] at H
       obtain ⟨rfl, rfl, rfl, rfl⟩ := H
       have p13 : 0 ≤ (x1_1 : Int) := dec_
       have q13 : x1_1 < (a0.size : Int) := dec_
       have hx13 := bt_at a0 x1_1
       replace p13 := eq_true p13
       replace q13 := eq_true q13
       obtain ⟨Ao20, co20, eo20⟩ := Kd.R_slice HO_8.out
       subst eo20
       go_wp2_with (first | ((with_reducible refine gate_callee (f := 175) rfl ?_); refine goesL_ (some 62) rfl rfl Tryz.func175 (by kernel_rfl) rfl #[.slice Ao20 x8_1.length co20] rfl argsS_ ?_; (with_reducible refine (impl_NameOf.calls _ _ x8_1 t263 t264 _ ?side1 ?side2 A19.out).mono ?_); (case side1 => exact kD_ (Kd.R_reads' HO_8.out).2.2); (case side2 => exact (Kd.R_reads' HO_8.out).2.1); rintro e w21 ⟨rfl, hb⟩; refine ⟨_, rfl, ?_⟩; replace HO_8 := a0_ (Kd.R_below (kR_ HO_8.out) hb); replace HO_9 := a0_ (Kd.R_below (kR_ HO_9.out) hb); replace HB := a0_ (below_step bq0_ hb); clear hb))
       refine bodyPost_ret (results_list (rs := [.tmp 4, .tmp 5, .tmp 6, .tmp 7]) rfl (by simp) (.tmp (.tmp (.tmp (.tmp .nil))))) rfl ?_
       exact ⟨_, rr_, by (with_reducible repeat (first | apply Kd.R_alloc | apply Kd.R_drewN | apply Kd.R_drew)); exact HO_9.out, bq0_⟩
      rw [if_pos c15] at H
      have c15b0 := decide_eq_true c15
      clear c15
      obtain ⟨⟨t261, t262⟩, A160, H⟩ := Option.bind_eq_some_iff.mp H
      have A16 := a0_ A160
      clear A160
      simp only [Option.some.injEq, Prod.mk.injEq] at H
      obtain ⟨rfl, rfl, rfl, rfl⟩ := H
      have p13 : 0 ≤ (x1_1 : Int) := dec_
      have q13 : x1_1 < (a0.size : Int) := dec_
      have hx13 := bt_at a0 x1_1
      replace p13 := eq_true p13
      replace q13 := eq_true q13
      obtain ⟨Ao17, co17, eo17⟩ := Kd.R_slice HO_8.out
      subst eo17
      go_wp2_with (first | ((with_reducible refine gate_callee (f := 175) rfl ?_); refine goesL_ (some 62) rfl rfl Tryz.func175 (by kernel_rfl) rfl #[.slice Ao17 x8_1.length co17] rfl argsS_ ?_; (with_reducible refine (impl_NameOf.calls _ _ x8_1 t261 t262 _ ?side1 ?side2 A16.out).mono ?_); (case side1 => exact kD_ (Kd.R_reads' HO_8.out).2.2); (case side2 => exact (Kd.R_reads' HO_8.out).2.1); rintro e w18 ⟨rfl, hb⟩; refine ⟨_, rfl, ?_⟩; replace HO_8 := a0_ (Kd.R_below (kR_ HO_8.out) hb); replace HO_9 := a0_ (Kd.R_below (kR_ HO_9.out) hb); replace HB := a0_ (below_step bq0_ hb); clear hb))
      refine bodyPost_ret (results_list (rs := [.tmp 4, .tmp 5, .tmp 6, .tmp 7]) rfl (by simp) (.tmp (.tmp (.tmp (.tmp .nil))))) rfl ?_
      exact ⟨_, rr_, by (with_reducible repeat (first | apply Kd.R_alloc | apply Kd.R_drewN | apply Kd.R_drew)); exact HO_9.out, bq0_⟩
     rw [if_neg c14] at H
     have c14b0 := beq_eq_false_iff_ne.mpr c14
     have c14b1 := bne_iff_ne.mpr c14
     by_cases c22 : (wrap64 (bt a0 x1_1)) ≥ 192
     case pos =>
      rw [if_pos c22] at H
      have c22b0 := decide_eq_true c22
      clear c22
      by_cases c23 : (wrap64 (x1_1 + 1)) ≥ (a0.size : Int)
      case pos =>
       rw [if_pos c23] at H
       have c23b0 := decide_eq_true c23
       clear c23
       simp only [Option.some.injEq, Prod.mk.injEq] at H
       obtain ⟨rfl, rfl, rfl, rfl⟩ := H
       have p13 : 0 ≤ (x1_1 : Int) := dec_
       have q13 : x1_1 < (a0.size : Int) := dec_
       have hx13 := bt_at a0 x1_1
       replace p13 := eq_true p13
       replace q13 := eq_true q13
       go_wp2
       refine bodyPost_ret (results_list (rs := [.tmp 4, .tmp 5, .tmp 6, .tmp 7]) rfl (by simp) (.tmp (.tmp (.tmp (.tmp .nil))))) rfl ?_
       exact ⟨_, rr_, by first | exact Kd.R_nil _ _ _ _ _ | exact Kd.N_nil _ _ _ _ _ | exact Kd.V_nil _ _ _ _ _ | exact Kd.Q_nil _ _ _ _ _ | exact Kd.S_nil _ _ _ _ _, bq0_⟩
      rw [if_neg c23] at H
      have c23b0 := decide_eq_false c23
      clear c23
      by_cases c24 : x11_1 < 0
      case neg =>
       rw [if_neg c24] at H
       have c24b0 := decide_eq_false c24
       clear c24
       obtain ⟨ji30, hji30⟩ : ∃ j_ : Int, (wrap64 (x1_1 + 1)) = j_ := ⟨_, rfl⟩
       (first | rw [hji30] at H | simp only [hji30] at H)
       (try rw [hji30] at c23b0)
       have hji30w : (IntKind.i64.wrap (x1_1 + 1)) = ji30 := (i64_w _).trans hji30
       by_cases c31 : 0 ≤ (ji30)
       case neg =>
        rw [if_neg c31] at H
        exact absurd H (by simp)
       rw [if_pos c31] at H
       have c31b0 := decide_eq_true c31
       clear c31
       by_cases c32 : (ji30) < (a0.size : Int)
       case neg =>
        rw [if_neg c32] at H
        exact absurd H (by simp)
       rw [if_pos c32] at H
       have c32b0 := decide_eq_true c32
       clear c32
       by_cases c34 : (wrap64 ((wrap64 ((Int.tmod (wrap64 (bt a0 x1_1)) 64) * 256)) + (wrap64 (bt a0 (ji30))))) ≥ x10_1
       case pos =>
        rw [if_pos c34] at H
        have c34b0 := decide_eq_true c34
        clear c34
        simp only [Option.some.injEq, Prod.mk.injEq] at H
        obtain ⟨rfl, rfl, rfl, rfl⟩ := H
        have p13 : 0 ≤ (x1_1 : Int) := dec_
        have q13 : x1_1 < (a0.size : Int) := dec_
        have hx13 := bt_at a0 x1_1
        replace p13 := eq_true p13
        replace q13 := eq_true q13
        have p33 : 0 ≤ ((ji30) : Int) := dec_
        have q33 : (ji30) < (a0.size : Int) := dec_
        have hx33 := bt_at a0 (ji30)
        replace p33 := eq_true p33
        replace q33 := eq_true q33
        go_wp2
        refine bodyPost_ret (results_list (rs := [.tmp 4, .tmp 5, .tmp 6, .tmp 7]) rfl (by simp) (.tmp (.tmp (.tmp (.tmp .nil))))) rfl ?_
        exact ⟨_, by first | rfl | (simp [errW_none, errW_some] <;> rfl) | (simp only [← hji30]; first | rfl | (simp [errW_none, errW_some] <;> rfl)) | (simp [*, errW_none, errW_some] <;> rfl), by first | exact Kd.R_nil _ _ _ _ _ | exact Kd.N_nil _ _ _ _ _ | exact Kd.V_nil _ _ _ _ _ | exact Kd.Q_nil _ _ _ _ _ | exact Kd.S_nil _ _ _ _ _, bq0_⟩
       rw [if_neg c34] at H
       have c34b0 := decide_eq_false c34
       clear c34
       have H' := a0_ H
       clear H
       have p13 : 0 ≤ (x1_1 : Int) := dec_
       have q13 : x1_1 < (a0.size : Int) := dec_
       have hx13 := bt_at a0 x1_1
       replace p13 := eq_true p13
       replace q13 := eq_true q13
       have p33 : 0 ≤ ((ji30) : Int) := dec_
       have q33 : (ji30) < (a0.size : Int) := dec_
       have hx33 := bt_at a0 (ji30)
       replace p33 := eq_true p33
       replace q33 := eq_true q33
       go_wp2
       go_roundg kj6
       case measure => have := HK1.out; have := HJ6.out; omega
       case rel => exact ⟨(wrap64 ((wrap64 ((Int.tmod (wrap64 (bt a0 x1_1)) 64) * 256)) + (wrap64 (bt a0 (ji30))))), (x8_1), (x9_1), (wrap64 ((wrap64 ((Int.tmod (wrap64 (bt a0 x1_1)) 64) * 256)) + (wrap64 (bt a0 (ji30))))), (x11_1), (by first | rfl | (simp; done) | (simp only [← hji30] <;> (first | rfl | simp)) | (simp [*]; done)), (by first | rfl | (simp; done) | (simp only [← hji30] <;> (first | rfl | simp)) | (simp [*]; done)), rs_, H', ⟨by have := HK1.out; have := HJ6.out; omega⟩, ⟨by (with_reducible repeat (first | apply Kd.R_alloc | apply Kd.R_drewN | apply Kd.R_drew)); exact HO_8.out⟩, ⟨by (with_reducible repeat (first | apply Kd.R_alloc | apply Kd.R_drewN | apply Kd.R_drew)); exact HO_9.out⟩, ⟨bq0_⟩⟩
      rw [if_pos c24] at H
      have c24b0 := decide_eq_true c24
      clear c24
      obtain ⟨ji25, hji25⟩ : ∃ j_ : Int, (wrap64 (x1_1 + 1)) = j_ := ⟨_, rfl⟩
      (first | rw [hji25] at H | simp only [hji25] at H)
      (try rw [hji25] at c23b0)
      have hji25w : (IntKind.i64.wrap (x1_1 + 1)) = ji25 := (i64_w _).trans hji25
      by_cases c26 : 0 ≤ (ji25)
      case neg =>
       rw [if_neg c26] at H
       exact absurd H (by simp)
      rw [if_pos c26] at H
      have c26b0 := decide_eq_true c26
      clear c26
      by_cases c27 : (ji25) < (a0.size : Int)
      case neg =>
       rw [if_neg c27] at H
       exact absurd H (by simp)
      rw [if_pos c27] at H
      have c27b0 := decide_eq_true c27
      clear c27
      by_cases c29 : (wrap64 ((wrap64 ((Int.tmod (wrap64 (bt a0 x1_1)) 64) * 256)) + (wrap64 (bt a0 (ji25))))) ≥ x10_1
      case pos =>
       rw [if_pos c29] at H
       have c29b0 := decide_eq_true c29
       clear c29
       simp only [Option.some.injEq, Prod.mk.injEq] at H
       obtain ⟨rfl, rfl, rfl, rfl⟩ := H
       have p13 : 0 ≤ (x1_1 : Int) := dec_
       have q13 : x1_1 < (a0.size : Int) := dec_
       have hx13 := bt_at a0 x1_1
       replace p13 := eq_true p13
       replace q13 := eq_true q13
       have p28 : 0 ≤ ((ji25) : Int) := dec_
       have q28 : (ji25) < (a0.size : Int) := dec_
       have hx28 := bt_at a0 (ji25)
       replace p28 := eq_true p28
       replace q28 := eq_true q28
       go_wp2
       refine bodyPost_ret (results_list (rs := [.tmp 4, .tmp 5, .tmp 6, .tmp 7]) rfl (by simp) (.tmp (.tmp (.tmp (.tmp .nil))))) rfl ?_
       exact ⟨_, by first | rfl | (simp [errW_none, errW_some] <;> rfl) | (simp only [← hji25]; first | rfl | (simp [errW_none, errW_some] <;> rfl)) | (simp [*, errW_none, errW_some] <;> rfl), by first | exact Kd.R_nil _ _ _ _ _ | exact Kd.N_nil _ _ _ _ _ | exact Kd.V_nil _ _ _ _ _ | exact Kd.Q_nil _ _ _ _ _ | exact Kd.S_nil _ _ _ _ _, bq0_⟩
      rw [if_neg c29] at H
      have c29b0 := decide_eq_false c29
      clear c29
      have H' := a0_ H
      clear H
      have p13 : 0 ≤ (x1_1 : Int) := dec_
      have q13 : x1_1 < (a0.size : Int) := dec_
      have hx13 := bt_at a0 x1_1
      replace p13 := eq_true p13
      replace q13 := eq_true q13
      have p28 : 0 ≤ ((ji25) : Int) := dec_
      have q28 : (ji25) < (a0.size : Int) := dec_
      have hx28 := bt_at a0 (ji25)
      replace p28 := eq_true p28
      replace q28 := eq_true q28
      go_wp2
      go_roundg kj6
      case measure => have := HK1.out; have := HJ6.out; omega
      case rel => exact ⟨(wrap64 ((wrap64 ((Int.tmod (wrap64 (bt a0 x1_1)) 64) * 256)) + (wrap64 (bt a0 (ji25))))), (x8_1), (x9_1), (wrap64 ((wrap64 ((Int.tmod (wrap64 (bt a0 x1_1)) 64) * 256)) + (wrap64 (bt a0 (ji25))))), (wrap64 (x1_1 + 2)), (by first | rfl | (simp; done) | (simp only [← hji25] <;> (first | rfl | simp)) | (simp [*]; done)), (by first | rfl | (simp; done) | (simp only [← hji25] <;> (first | rfl | simp)) | (simp [*]; done)), rs_, H', ⟨by have := HK1.out; have := HJ6.out; omega⟩, ⟨by (with_reducible repeat (first | apply Kd.R_alloc | apply Kd.R_drewN | apply Kd.R_drew)); exact HO_8.out⟩, ⟨by (with_reducible repeat (first | apply Kd.R_alloc | apply Kd.R_drewN | apply Kd.R_drew)); exact HO_9.out⟩, ⟨bq0_⟩⟩
     rw [if_neg c22] at H
     have c22b0 := decide_eq_false c22
     clear c22
     have HC35 := a0_ H
     clear H
     have p13 : 0 ≤ (x1_1 : Int) := dec_
     have q13 : x1_1 < (a0.size : Int) := dec_
     have hx13 := bt_at a0 x1_1
     replace p13 := eq_true p13
     replace q13 := eq_true q13
     go_upto_region 23 with (fail)
     go_cut [94] (fun v94 wc => ∃ (kq : Nat) (x94_34 : Bool), v94 = .bool x94_34 ∧ Aside0 (impl_takeName.j2 kq a0 x1_1 x8_1 x9_1 x10_1 x11_1 (wrap64 (bt a0 x1_1)) x94_34 = some (r1, r2, r3, r4)) ∧ Aside0 (kq ≤ kj6) ∧ Aside0 (Kd.R Kd.string 9 wc w.heap.size (fun _ => True) u8 x8_1) ∧ Aside0 (Kd.R (Kd.int .i64) 3 wc w.heap.size (fun _ => True) u9 x9_1) ∧ Aside0 (Below w.heap.size w wc))
     case first =>
      have H := HC35.out
      clear HC35
      by_cases c36 : (wrap64 (bt a0 x1_1)) ≥ 64
      case neg =>
       rw [if_neg c36] at H
       have c36b0 := decide_eq_false c36
       clear c36
       (first | rw [c36b0] | (simp only [i64_w, i32_w]; rw [c36b0]) | skip)
       have H' := a0_ H
       clear H
       go_wp2
       go_meet
       case rel => exact ⟨_, (decide ((wrap64 ((wrap64 (x1_1 + 1)) + (wrap64 (bt a0 x1_1)))) > (a0.size : Int))), rs_, H', ⟨by have := HK1.out; have := HJ6.out; first | omega | exact Nat.le_refl _⟩, ⟨by (with_reducible repeat (first | apply Kd.R_alloc | apply Kd.R_drewN | apply Kd.R_drew)); exact HO_8.out⟩, ⟨by (with_reducible repeat (first | apply Kd.R_alloc | apply Kd.R_drewN | apply Kd.R_drew)); exact HO_9.out⟩, ⟨bq0_⟩⟩
      rw [if_pos c36] at H
      have c36b0 := decide_eq_true c36
      clear c36
      (first | rw [c36b0] | (simp only [i64_w, i32_w]; rw [c36b0]) | skip)
      have H' := a0_ H
      clear H
      go_wp2
      go_meet
      case rel => exact ⟨_, (true), rs_, H', ⟨by have := HK1.out; have := HJ6.out; first | omega | exact Nat.le_refl _⟩, ⟨by (with_reducible repeat (first | apply Kd.R_alloc | apply Kd.R_drewN | apply Kd.R_drew)); exact HO_8.out⟩, ⟨by (with_reducible repeat (first | apply Kd.R_alloc | apply Kd.R_drewN | apply Kd.R_drew)); exact HO_9.out⟩, ⟨bq0_⟩⟩
     case rest =>
      clear HC35
      try clear c1
      try clear p2
      try clear c8
      try clear c8b0
      try clear c10
      try clear c11
      try clear c11b0
      try clear c12
      try clear c12b0
      try clear p13
      try clear q13
      try clear hx13
      try clear c14
      try clear c14b0
      try clear c14b1
      try clear c22
      try clear c22b0
      try clear p13
      try clear p2
      try clear q13
      obtain ⟨kq, x94_34, rfl, HA, HJ34, HO_8, HO_9, HB⟩ := hcut
      cases kq with
      | zero => exact absurd HA.out (by simp [impl_takeName.j2])
      | succ kj34 =>
       have H := HA.out
       clear HA
       simp only [impl_takeName.j2] at H
       by_cases c37 : x94_34 = true
       case pos =>
        subst c37
        rw [if_pos rfl] at H
        simp only [Option.some.injEq, Prod.mk.injEq] at H
        obtain ⟨rfl, rfl, rfl, rfl⟩ := H
        go_wp2
        refine bodyPost_ret (results_list (rs := [.tmp 4, .tmp 5, .tmp 6, .tmp 7]) rfl (by simp) (.tmp (.tmp (.tmp (.tmp .nil))))) rfl ?_
        exact ⟨_, rr_, by first | exact Kd.R_nil _ _ _ _ _ | exact Kd.N_nil _ _ _ _ _ | exact Kd.V_nil _ _ _ _ _ | exact Kd.Q_nil _ _ _ _ _ | exact Kd.S_nil _ _ _ _ _, bq0_⟩
       replace c37 := Bool.eq_false_iff.mpr c37
       subst c37
       rw [if_neg (show ¬ (false = true) by decide)] at H
       by_cases c38 : x11_1 < 0
       case neg =>
        rw [if_neg c38] at H
        have c38b0 := decide_eq_false c38
        clear c38
        obtain ⟨ji49, hji49⟩ : ∃ j_ : Int, (wrap64 (x1_1 + 1)) = j_ := ⟨_, rfl⟩
        (first | rw [hji49] at H | simp only [hji49] at H)
        have hji49w : (IntKind.i64.wrap (x1_1 + 1)) = ji49 := (i64_w _).trans hji49
        by_cases c50 : 0 ≤ (ji49)
        case neg =>
         rw [if_neg c50] at H
         exact absurd H (by simp)
        rw [if_pos c50] at H
        have c50b0 := eq_true c50
        have c50b1 := decide_eq_true c50
        clear c50
        by_cases c51 : (ji49) ≤ (wrap64 ((ji49) + (wrap64 (bt a0 x1_1))))
        case neg =>
         rw [if_neg c51] at H
         exact absurd H (by simp)
        rw [if_pos c51] at H
        have c51b0 := eq_true c51
        have c51b1 := decide_eq_true c51
        by_cases c52 : (wrap64 ((ji49) + (wrap64 (bt a0 x1_1)))) ≤ (a0.size : Int)
        case neg =>
         rw [if_neg c52] at H
         exact absurd H (by simp)
        rw [if_pos c52] at H
        have c52b0 := eq_true c52
        have c52b1 := decide_eq_true c52
        obtain ⟨t272, A530, H⟩ := Option.bind_eq_some_iff.mp H
        have A53 := a0_ A530
        clear A530
        by_cases c54 : x8_1.length < 8796093022208
        case neg =>
         rw [if_neg c54] at H
         exact absurd H (by simp)
        rw [if_pos c54] at H
        have LMc54 := a0_ c54
        clear c54
        obtain ⟨y273, hy273⟩ : ∃ y_ : List ByteArray, y_ = (x8_1 ++ [t272]) := ⟨_, rfl⟩
        replace H : (impl_takeName.l0 kj34 a0 (wrap64 (x1_1 + (wrap64 (1 + (wrap64 (bt a0 x1_1)))))) y273 x9_1 x10_1 x11_1) = some (r1, r2, r3, r4) := by first | (rw [hy273]; with_reducible exact H) | (have H2_ := (Option.bind_some _ _).symm.trans H; rw [hy273]; with_reducible exact H2_) | (have H2_ := (Option.bind_some _ _).symm.trans H; with_reducible exact H2_) | with_reducible exact H | (rw [hy273]; exact H) | exact H
        have Ny273 := a0_ hy273
        clear hy273
        have H' := a0_ H
        clear H
        go_wp2_with (first | ((with_reducible refine gate_callee (f := 176) rfl ?_); refine goesL_ (some 46) rfl rfl Tryz.func176 (by kernel_rfl) rfl #[.string (a0.extract ((ji49) : Int).toNat ((wrap64 ((ji49) + (wrap64 (bt a0 x1_1)))) : Int).toNat)] rfl (by (try simp only [List.map_toArray, List.map_cons, List.map_nil]); first | done | (simp only [hji49]; rfl) | rfl | (simp only [List.length_drop, List.length_take]; rfl)) ?_; (with_reducible refine (impl_small.calls (a0.extract ((ji49) : Int).toNat ((wrap64 ((ji49) + (wrap64 (bt a0 x1_1)))) : Int).toNat) t272 _ A53.out).mono ?_); rintro e w55 ⟨rfl, hb⟩; refine ⟨_, rfl, ?_⟩; replace HO_8 := a0_ (Kd.R_below (kR_ HO_8.out) hb); replace HO_9 := a0_ (Kd.R_below (kR_ HO_9.out) hb); replace HB := a0_ (below_step bq0_ hb); clear hb) | ((with_reducible refine gate_builtin (b := .append) (xs := #[.tmp 37, .tmp 47]) rfl ?_); (try (refine gate_guard (by rfl) ?_; dsimp only)); at_builtin; refine Kd.R_append Kd.string (w0 := w) w.heap.size rfl (.tmp 37) (.tmp 47) 78 9 (.string ⟨#[]⟩) 16 rfl Tryz.underlying78 info9 rfl (by decide) (by omega) u8 x8_1 t272 [.string t272] (fun _ => True) (fun _ => False) rfl rfl ?aP (fun _ hk => hk.elim) ?aF ?aO ?aB ?aS ?aL ?_; (case aP => exact rfl); (case aB => exact bq0_); (case aF => exact (fun _ _ => trivial)); (case aO => exact (kR_ HO_8.out)); (case aS => exact (below_size bq0_)); (case aL => have := LMc54.out; omega); intro v274 w56 ho hb hg hat; rw [← Ny273.out] at ho; have n0_ := a0_ (Kd.R_over' (kR_ HO_9.out) (Kd.R_typed (kR_ HO_8.out)) (by decide) hg); have n1_ := a0_ (hb); have n2_ := a0_ (ho); clear HO_9; clear HB; clear HO_8; have HO_9 := n0_; have HB := n1_; have HO275 := n2_; clear n0_ n1_ n2_; clear ho hb hg hat))
        go_roundg kj34
        case measure => have := HK1.out; have := HJ6.out; have := HJ34.out; omega
        case rel => exact ⟨(wrap64 (x1_1 + (wrap64 (1 + (wrap64 (bt a0 x1_1)))))), (y273), (x9_1), (x10_1), (x11_1), rs_, rs_, rs_, H', ⟨by have := HK1.out; have := HJ6.out; have := HJ34.out; omega⟩, ⟨by (with_reducible repeat (first | apply Kd.R_alloc | apply Kd.R_drewN | apply Kd.R_drew)); exact HO275.out⟩, ⟨by (with_reducible repeat (first | apply Kd.R_alloc | apply Kd.R_drewN | apply Kd.R_drew)); exact HO_9.out⟩, ⟨bq0_⟩⟩
       rw [if_pos c38] at H
       have c38b0 := decide_eq_true c38
       clear c38
       by_cases c39 : x9_1.length < 17592186044416
       case neg =>
        rw [if_neg c39] at H
        exact absurd H (by simp)
       rw [if_pos c39] at H
       have LMc39 := a0_ c39
       clear c39
       obtain ⟨y265, hy265⟩ : ∃ y_ : List Int, y_ = (x9_1 ++ [x1_1]) := ⟨_, rfl⟩
       replace H : (if 0 ≤ (wrap64 (x1_1 + 1)) then (if (wrap64 (x1_1 + 1)) ≤ (wrap64 ((wrap64 (x1_1 + 1)) + (wrap64 (bt a0 x1_1)))) then (if (wrap64 ((wrap64 (x1_1 + 1)) + (wrap64 (bt a0 x1_1)))) ≤ (a0.size : Int) then ((impl_small.f (a0.extract ((wrap64 (x1_1 + 1)) : Int).toNat ((wrap64 ((wrap64 (x1_1 + 1)) + (wrap64 (bt a0 x1_1)))) : Int).toNat)).bind fun t268 => (if x8_1.length < 8796093022208 then (impl_takeName.l0 kj34 a0 (wrap64 (x1_1 + (wrap64 (1 + (wrap64 (bt a0 x1_1)))))) (x8_1 ++ [t268]) y265 x10_1 x11_1) else (none))) else (none)) else (none)) else (none)) = some (r1, r2, r3, r4) := by first | (rw [hy265]; with_reducible exact H) | (have H2_ := (Option.bind_some _ _).symm.trans H; rw [hy265]; with_reducible exact H2_) | (have H2_ := (Option.bind_some _ _).symm.trans H; with_reducible exact H2_) | with_reducible exact H | (rw [hy265]; exact H) | exact H
       have Ny265 := a0_ hy265
       clear hy265
       obtain ⟨ji40, hji40⟩ : ∃ j_ : Int, (wrap64 (x1_1 + 1)) = j_ := ⟨_, rfl⟩
       (first | rw [hji40] at H | simp only [hji40] at H)
       have hji40w : (IntKind.i64.wrap (x1_1 + 1)) = ji40 := (i64_w _).trans hji40
       by_cases c41 : 0 ≤ (ji40)
       case neg =>
        rw [if_neg c41] at H
        exact absurd H (by simp)
       rw [if_pos c41] at H
       have c41b0 := eq_true c41
       have c41b1 := decide_eq_true c41
       clear c41
       by_cases c42 : (ji40) ≤ (wrap64 ((ji40) + (wrap64 (bt a0 x1_1))))
       case neg =>
        rw [if_neg c42] at H
        exact absurd H (by simp)
       rw [if_pos c42] at H
       have c42b0 := eq_true c42
       have c42b1 := decide_eq_true c42
       by_cases c43 : (wrap64 ((ji40) + (wrap64 (bt a0 x1_1)))) ≤ (a0.size : Int)
       case neg =>
        rw [if_neg c43] at H
        exact absurd H (by simp)
       rw [if_pos c43] at H
       have c43b0 := eq_true c43
       have c43b1 := decide_eq_true c43
       obtain ⟨t268, A440, H⟩ := Option.bind_eq_some_iff.mp H
       have A44 := a0_ A440
       clear A440
       by_cases c45 : x8_1.length < 8796093022208
       case neg =>
        rw [if_neg c45] at H
        exact absurd H (by simp)
       rw [if_pos c45] at H
       have LMc45 := a0_ c45
       clear c45
       obtain ⟨y269, hy269⟩ : ∃ y_ : List ByteArray, y_ = (x8_1 ++ [t268]) := ⟨_, rfl⟩
       replace H : (impl_takeName.l0 kj34 a0 (wrap64 (x1_1 + (wrap64 (1 + (wrap64 (bt a0 x1_1)))))) y269 y265 x10_1 x11_1) = some (r1, r2, r3, r4) := by first | (rw [hy269]; with_reducible exact H) | (have H2_ := (Option.bind_some _ _).symm.trans H; rw [hy269]; with_reducible exact H2_) | (have H2_ := (Option.bind_some _ _).symm.trans H; with_reducible exact H2_) | with_reducible exact H | (rw [hy269]; exact H) | exact H
       have Ny269 := a0_ hy269
       clear hy269
       have H' := a0_ H
       clear H
       go_wp2_with (first | ((with_reducible refine gate_builtin (b := .append) (xs := #[.tmp 33, .tmp 35]) rfl ?_); (try (refine gate_guard (by rfl) ?_; dsimp only)); at_builtin; refine Kd.R_append (Kd.int .i64) (w0 := w) w.heap.size rfl (.tmp 33) (.tmp 35) 131 3 (.int .i64 0) 8 rfl Tryz.underlying131 info3 rfl (by decide) (by omega) u9 x9_1 x1_1 [.int .i64 x1_1] (fun _ => True) (fun _ => False) rfl rfl ?aP (fun _ hk => hk.elim) ?aF ?aO ?aB ?aS ?aL ?_; (case aP => exact rfl); (case aB => exact bq0_); (case aF => exact (fun _ _ => trivial)); (case aO => exact (kR_ HO_9.out)); (case aS => exact (below_size bq0_)); (case aL => have := LMc39.out; omega); intro v266 w46 ho hb hg hat; rw [← Ny265.out] at ho; have n0_ := a0_ (Kd.R_over' (kR_ HO_8.out) (Kd.R_typed (kR_ HO_9.out)) (by decide) hg); have n1_ := a0_ (hb); have n2_ := a0_ (ho); clear HO_8; clear HB; clear HO_9; have HO_8 := n0_; have HB := n1_; have HO267 := n2_; clear n0_ n1_ n2_; clear ho hb hg hat) | ((with_reducible refine gate_callee (f := 176) rfl ?_); refine goesL_ (some 46) rfl rfl Tryz.func176 (by kernel_rfl) rfl #[.string (a0.extract ((ji40) : Int).toNat ((wrap64 ((ji40) + (wrap64 (bt a0 x1_1)))) : Int).toNat)] rfl (by (try simp only [List.map_toArray, List.map_cons, List.map_nil]); first | done | (simp only [hji40]; rfl) | rfl | (simp only [List.length_drop, List.length_take]; rfl)) ?_; (with_reducible refine (impl_small.calls (a0.extract ((ji40) : Int).toNat ((wrap64 ((ji40) + (wrap64 (bt a0 x1_1)))) : Int).toNat) t268 _ A44.out).mono ?_); rintro e w47 ⟨rfl, hb⟩; refine ⟨_, rfl, ?_⟩; replace HO_8 := a0_ (Kd.R_below (kR_ HO_8.out) hb); replace HO267 := a0_ (Kd.R_below (kR_ HO267.out) hb); replace HB := a0_ (below_step bq0_ hb); clear hb) | ((with_reducible refine gate_builtin (b := .append) (xs := #[.tmp 37, .tmp 47]) rfl ?_); (try (refine gate_guard (by rfl) ?_; dsimp only)); at_builtin; refine Kd.R_append Kd.string (w0 := w) w.heap.size rfl (.tmp 37) (.tmp 47) 78 9 (.string ⟨#[]⟩) 16 rfl Tryz.underlying78 info9 rfl (by decide) (by omega) u8 x8_1 t268 [.string t268] (fun _ => True) (fun _ => False) rfl rfl ?aP (fun _ hk => hk.elim) ?aF ?aO ?aB ?aS ?aL ?_; (case aP => exact rfl); (case aB => exact bq0_); (case aF => exact (fun _ _ => trivial)); (case aO => exact (kR_ HO_8.out)); (case aS => exact (below_size bq0_)); (case aL => have := LMc45.out; omega); intro v270 w48 ho hb hg hat; rw [← Ny269.out] at ho; have n0_ := a0_ (Kd.R_over' (kR_ HO267.out) (Kd.R_typed (kR_ HO_8.out)) (by decide) hg); have n1_ := a0_ (hb); have n2_ := a0_ (ho); clear HO267; clear HB; clear HO_8; have HO267 := n0_; have HB := n1_; have HO271 := n2_; clear n0_ n1_ n2_; clear ho hb hg hat))
       go_roundg kj34
       case measure => have := HK1.out; have := HJ6.out; have := HJ34.out; omega
       case rel => exact ⟨(wrap64 (x1_1 + (wrap64 (1 + (wrap64 (bt a0 x1_1)))))), (y269), (y265), (x10_1), (x11_1), rs_, rs_, rs_, H', ⟨by have := HK1.out; have := HJ6.out; have := HJ34.out; omega⟩, ⟨by (with_reducible repeat (first | apply Kd.R_alloc | apply Kd.R_drewN | apply Kd.R_drew)); exact HO271.out⟩, ⟨by (with_reducible repeat (first | apply Kd.R_alloc | apply Kd.R_drewN | apply Kd.R_drew)); exact HO267.out⟩, ⟨bq0_⟩⟩
end Go.Proofs.YtiegkjimpclmaaaGreatDoor.P
