/- FnExactSetsOf: part 21 of 28 of my texts for this claim, joined; the theorem stands in the last. Conditions: none beyond the statement's. -/
import Derived.Test.YtiegkjimpclmaaaGreatDoorMFnExactSetsOfx19
import Derived.Sort.Walk0
import Derived.Sort.Statements
import Derived.Lib.SlicesCompact
namespace Go.Proofs.YtiegkjimpclmaaaGreatDoor.P
open Go.RowKit Go.Proofs.YtiegkjimpclmaaaGreatDoorW.PrintWords Go.Proofs.YtiegkjimpclmaaaGreatDoorW.PrintLast Go.Proofs.YtiegkjimpclmaaaGreatDoorW.PrintMore
attribute [local go_sem] max2_int min2_int max_two min_two max_three min_three max_four min_four
set_option linter.unusedVariables false
set_option linter.unusedSimpArgs false
def impl_compareRecords.f (k : Nat) (a0_0 : ByteArray) (a0_1 : Int) (a0_2 : Int) (a0_3 : ByteArray) (a1_0 : ByteArray) (a1_1 : Int) (a1_2 : Int) (a1_3 : ByteArray) : Option (Int) := (impl_compareKeys.f k a0_0 a0_1 a0_2 a0_3 a1_0 a1_1 a1_2 a1_3).bind fun t406 => ((impl_dataBytes.f k a0_1 a0_3).bind fun t407 => ((impl_dataBytes.f k a1_1 a1_3).bind fun t408 => ((strings_Compare.f t407 t408).bind fun t409 => ((cmp_Compare_int.f a0_2 a1_2).bind fun t410 => ((cmp_Or_int.f k (([t406, t409, t410] : List Int))).bind fun t414 => (some t414))))))
def impl_compareRecords.T1 : Bool × List (List Nat × List Nat) := (true, [([], []), ([], []), ([0, 1], [0, 1]), ([], []), ([3], [3]), ([], []), ([5], [5]), ([4, 6, 2], [4, 6]), ([], []), ([8], [8]), ([], []), ([10], [10]), ([9, 11, 7], [9, 11]), ([7, 12, 12], [7, 12]), ([], []), ([14], [14]), ([], []), ([16], [16]), ([15, 17, 13], [15, 17]), ([2, 13, 18], [2, 13, 18]), ([19, 18], [19]), ([20, 20, 0, 1, 2, 3, 4, 5, 6, 7, 8, 9, 10, 11, 12, 13, 14, 15, 16, 17, 18, 19, 20], [20])])
def impl_compareRecords.B1 : List Nat := [0, 0, 3, 0, 8, 0, 32, 127, 0, 256, 0, 1024, 4095, 8191, 0, 16384, 0, 65536, 262143, 524287, 1048575, 2097151]
theorem impl_compareRecords.tab1 : rtab .any (opsOf Tryz.f77 1) = impl_compareRecords.T1 := by kernel_rfl
theorem impl_compareRecords.bits1 : waitsOk impl_compareRecords.T1.2 impl_compareRecords.B1 = true := by kernel_rfl
set_option maxHeartbeats 8000000 in
set_option maxRecDepth 100000 in
theorem impl_compareRecords.calls (k : Nat) (a0_0 : ByteArray) (a0_1 : Int) (a0_2 : Int) (a0_3 : ByteArray) (a1_0 : ByteArray) (a1_1 : Int) (a1_2 : Int) (a1_3 : ByteArray) (r : Int) (w : World) (h : impl_compareRecords.f k a0_0 a0_1 a0_2 a0_3 a1_0 a1_1 a1_2 a1_3 = some r) (hv_ : Vars w := by exact vv_) :
 Calls Tryz.prog 77 #[.agg #[.string a0_0, .int .i64 a0_1, .int .i64 a0_2, .string a0_3], .agg #[.string a1_0, .int .i64 a1_1, .int .i64 a1_2, .string a1_3]] w fun e w' => e = .returned (.int .i64 r) ∧ Below w.heap.size w w' := by
 have HV_ := a0_ hv_
 clear hv_
 have hu45 := Tryz.underlying45
 have HB := a0_ (Below.refl w.heap.size w)
 have H := h
 clear h
 unfold impl_compareRecords.f at H
 obtain ⟨t406, A30, H⟩ := Option.bind_eq_some_iff.mp H
 have A3 := a0_ A30
 clear A30
 obtain ⟨t407, A40, H⟩ := Option.bind_eq_some_iff.mp H
 have A4 := a0_ A40
 clear A40
 obtain ⟨t408, A50, H⟩ := Option.bind_eq_some_iff.mp H
 have A5 := a0_ A50
 clear A50
 obtain ⟨t409, A60, H⟩ := Option.bind_eq_some_iff.mp H
 have A6 := a0_ A60
 clear A60
 obtain ⟨t410, A70, H⟩ := Option.bind_eq_some_iff.mp H
 have A7 := a0_ A70
 clear A70
 obtain ⟨y411, hy411⟩ : ∃ y_ : List Int, y_ = (([t406, t409, t410] : List Int)) := ⟨_, rfl⟩
 replace H : ((cmp_Or_int.f k y411).bind fun t414 => (some t414)) = some r := by first | (rw [hy411]; with_reducible exact H) | (have H2_ := (Option.bind_some _ _).symm.trans H; rw [hy411]; with_reducible exact H2_) | (have H2_ := (Option.bind_some _ _).symm.trans H; with_reducible exact H2_) | with_reducible exact H | (rw [hy411]; exact H) | exact H
 have Ny411 := a0_ hy411
 clear hy411
 obtain ⟨t414, A80, H⟩ := Option.bind_eq_some_iff.mp H
 have A8 := a0_ A80
 clear A80
 obtain rfl := Option.some.inj H
 go_enter Tryz.func77, Tryz.ntmps77
 try go_wp2_with (first | ((with_reducible refine gate_dst (N := 2) rfl ?_); refine boxS_ 2 #[.string a0_0, .int .i64 a0_1, .int .i64 a0_2, .string a0_3] 45 (fun gb404 hg w9 hbox hb => ?_); have n0_ := a0_ (below_step bq0_ hb); have n1_ := a0_ (hbox); have n2_ := a0_ (gw_ hg : w.heap.size ≤ gb404); have n3_ := n2_; clear HB; have HB := n0_; have BK404 := n1_; have GW404 := n2_; have GE404 := n3_; clear n0_ n1_ n2_ n3_; clear hb hbox hg) | ((with_reducible refine gate_dst (N := 3) rfl ?_); refine boxS_ 3 #[.string a1_0, .int .i64 a1_1, .int .i64 a1_2, .string a1_3] 45 (fun gb405 hg w10 hbox hb => ?_); have n0_ := a0_ (bkB_ BK404 hb); have n1_ := a0_ (below_step bq1_ hb); have n2_ := a0_ (hbox); have n3_ := a0_ (gw_ hg (below_size bq1_) : w.heap.size ≤ gb405); have n4_ := n3_; have n5_ := a0_ ((by rw [hg]; exact Nat.ne_of_lt (blk_lt (g := gb404) (o := .cells #[.string a0_0, .int .i64 a0_1, .int .i64 a0_2, .string a0_3] 45 (0, 0)) (kB_ BK404.out)) : gb404 ≠ gb405)); have n6_ := a0_ ((by rw [hg]; exact Nat.ne_of_gt (blk_lt (g := gb404) (o := .cells #[.string a0_0, .int .i64 a0_1, .int .i64 a0_2, .string a0_3] 45 (0, 0)) (kB_ BK404.out)) : gb405 ≠ gb404)); clear BK404; clear HB; have BK404 := n0_; have HB := n1_; have BK405 := n2_; have GW405 := n3_; have GE405 := n4_; have NB404_405 := n5_; have NB405_404 := n6_; clear n0_ n1_ n2_ n3_ n4_ n5_ n6_; clear hb hbox hg))
 replace BK404 := a0_ (blk_drew BK404.out)
 replace BK405 := a0_ (blk_drew BK405.out)
 replace HB := a0_ (below_drew1 HB.out)
 refine start_ (n := 22) (S := fun w' => w'.cell? ⟨gb404, 0, none⟩ = some (.string a0_0) ∧ w'.cell? ⟨gb404, 1, none⟩ = some (.int .i64 a0_1) ∧ w'.cell? ⟨gb404, 2, none⟩ = some (.int .i64 a0_2) ∧ w'.cell? ⟨gb404, 3, none⟩ = some (.string a0_3) ∧ w'.cell? ⟨gb405, 0, none⟩ = some (.string a1_0) ∧ w'.cell? ⟨gb405, 1, none⟩ = some (.int .i64 a1_1) ∧ w'.cell? ⟨gb405, 2, none⟩ = some (.int .i64 a1_2) ∧ w'.cell? ⟨gb405, 3, none⟩ = some (.string a1_3)) (ds := []) #[false, false, false, false, false, false, false, false, false, false, false, false, false, false, false, false, false, false, false, false, false, false] (by kernel_rfl) rfl rfl ⟨(blk_cell BK404.out 0).trans rfl, (blk_cell BK404.out 1).trans rfl, (blk_cell BK404.out 2).trans rfl, (blk_cell BK404.out 3).trans rfl, (blk_cell BK405.out 0).trans rfl, (blk_cell BK405.out 1).trans rfl, (blk_cell BK405.out 2).trans rfl, (blk_cell BK405.out 3).trans rfl⟩ (fun hHeld => ?_); refine with_tabW impl_compareRecords.tab1 impl_compareRecords.bits1 (fun HT_ HW_ => ?_)
 generalize w10.drew = w11 at BK404 BK405 HB hHeld ⊢
 refine pureS_ 3 (some 8) ?_
 refine pureS_ 5 (some 10) ?_
 refine pureS_ 8 (some 13) ?_
 refine pureS_ 10 (some 15) ?_
 refine pureS_ 14 (some 19) ?_
 refine pureS_ 16 (some 21) ?_
 refine takeS_ 0 (some 5) ?_
 refine takeS_ 1 (some 6) ?_
 refine takeS_ 4 (some 9) ?_
 refine takeS_ 6 (some 11) ?_
 refine takeS_ 9 (some 14) ?_
 refine takeS_ 11 (some 16) ?_
 refine takeS_ 15 (some 20) ?_
 refine takeS_ 17 (some 22) ?_
 refine oneS_ 2 (some 7) (fun K hK => ?_)
 refine goes_ Tryz.func65 (by kernel_rfl) rfl #[.agg #[.string a0_0, .int .i64 a0_1, .int .i64 a0_2, .string a0_3], .agg #[.string a1_0, .int .i64 a1_1, .int .i64 a1_2, .string a1_3]] (by rfl) rfl rfl argsS_ ?_
 with_reducible refine (impl_compareKeys.calls k a0_0 a0_1 a0_2 a0_3 a1_0 a1_1 a1_2 a1_3 t406 _ A3.out).mono ?_
 rintro e w12 ⟨rfl, hb⟩
 refine ⟨_, rfl, ?_⟩
 replace BK404 := a0_ (bkB_ BK404 hb)
 replace BK405 := a0_ (bkB_ BK405 hb)
 replace HB := a0_ (below_step bq1_ hb)
 (try clear hb)
 (try clear hb2)
 (try clear hk)
 (try clear hi)
 refine hK.out _ _ ⟨(blk_cell BK404.out 0).trans rfl, (blk_cell BK404.out 1).trans rfl, (blk_cell BK404.out 2).trans rfl, (blk_cell BK404.out 3).trans rfl, (blk_cell BK405.out 0).trans rfl, (blk_cell BK405.out 1).trans rfl, (blk_cell BK405.out 2).trans rfl, (blk_cell BK405.out 3).trans rfl⟩ (fun hHeld => ?_)
 clear hK K
 refine normS_ ?_
 refine oneS_ 7 (some 12) (fun K hK => ?_)
 refine goes_ Tryz.func141 (by kernel_rfl) rfl #[.int .i64 a0_1, .string a0_3] (by rfl) rfl rfl argsS_ ?_
 with_reducible refine (impl_dataBytes.calls k a0_1 a0_3 t407 _ A4.out).mono ?_
 rintro e w13 ⟨rfl, hb⟩
 refine ⟨_, rfl, ?_⟩
 replace BK404 := a0_ (bkB_ BK404 hb)
 replace BK405 := a0_ (bkB_ BK405 hb)
 replace HB := a0_ (below_step bq1_ hb)
 (try clear hb)
 (try clear hb2)
 (try clear hk)
 (try clear hi)
 refine hK.out _ _ ⟨(blk_cell BK404.out 0).trans rfl, (blk_cell BK404.out 1).trans rfl, (blk_cell BK404.out 2).trans rfl, (blk_cell BK404.out 3).trans rfl, (blk_cell BK405.out 0).trans rfl, (blk_cell BK405.out 1).trans rfl, (blk_cell BK405.out 2).trans rfl, (blk_cell BK405.out 3).trans rfl⟩ (fun hHeld => ?_)
 clear hK K
 refine normS_ ?_
 refine oneS_ 12 (some 17) (fun K hK => ?_)
 refine goes_ Tryz.func141 (by kernel_rfl) rfl #[.int .i64 a1_1, .string a1_3] (by rfl) rfl rfl argsS_ ?_
 with_reducible refine (impl_dataBytes.calls k a1_1 a1_3 t408 _ A5.out).mono ?_
 rintro e w14 ⟨rfl, hb⟩
 refine ⟨_, rfl, ?_⟩
 replace BK404 := a0_ (bkB_ BK404 hb)
 replace BK405 := a0_ (bkB_ BK405 hb)
 replace HB := a0_ (below_step bq1_ hb)
 (try clear hb)
 (try clear hb2)
 (try clear hk)
 (try clear hi)
 refine hK.out _ _ ⟨(blk_cell BK404.out 0).trans rfl, (blk_cell BK404.out 1).trans rfl, (blk_cell BK404.out 2).trans rfl, (blk_cell BK404.out 3).trans rfl, (blk_cell BK405.out 0).trans rfl, (blk_cell BK405.out 1).trans rfl, (blk_cell BK405.out 2).trans rfl, (blk_cell BK405.out 3).trans rfl⟩ (fun hHeld => ?_)
 clear hK K
 refine normS_ ?_
 refine oneS_ 13 (some 18) (fun K hK => ?_)
 refine goes_ Tryz.func140 (by kernel_rfl) rfl #[.string t407, .string t408] (by rfl) rfl rfl argsS_ ?_
 with_reducible refine (strings_Compare.calls t407 t408 t409 _ A6.out).mono ?_
 rintro e w' ⟨rfl, ⟨nd, rfl⟩⟩
 refine ⟨_, rfl, ?_⟩
 refine hK.out _ _ ⟨(blk_cell BK404.out 0).trans rfl, (blk_cell BK404.out 1).trans rfl, (blk_cell BK404.out 2).trans rfl, (blk_cell BK404.out 3).trans rfl, (blk_cell BK405.out 0).trans rfl, (blk_cell BK405.out 1).trans rfl, (blk_cell BK405.out 2).trans rfl, (blk_cell BK405.out 3).trans rfl⟩ (fun hHeld => ?_)
 clear hK K
 refine normS_ ?_
 refine oneS_ 18 (some 23) (fun K hK => ?_)
 refine goes_ Tryz.func133 (by kernel_rfl) rfl #[.int .i64 a0_2, .int .i64 a1_2] (by rfl) rfl rfl argsS_ ?_
 with_reducible refine (cmp_Compare_int.calls a0_2 a1_2 t410 _ A7.out).mono ?_
 rintro e w' ⟨rfl, ⟨nd, rfl⟩⟩
 refine ⟨_, rfl, ?_⟩
 refine hK.out _ _ ⟨(blk_cell BK404.out 0).trans rfl, (blk_cell BK404.out 1).trans rfl, (blk_cell BK404.out 2).trans rfl, (blk_cell BK404.out 3).trans rfl, (blk_cell BK405.out 0).trans rfl, (blk_cell BK405.out 1).trans rfl, (blk_cell BK405.out 2).trans rfl, (blk_cell BK405.out 3).trans rfl⟩ (fun hHeld => ?_)
 clear hK K
 refine normS_ ?_
 refine oneS_ 19 (some 24) (fun K hK => ?_)
 refine Kd.R_lit_step (Kd.int .i64) _ 3 ?hg (N := 24) ?hd (xs := ([t406, t409, t410] : List Int)) (inner := [.int .i64 t406, .int .i64 t409, .int .i64 t410]) (ok := fun _ => True) (okp := fun _ => True) ?hr ?hp (fun _ hk => hk) trivial (Below.refl _ _) (Nat.le_refl _) (by simp) ?_; (case hd => rfl); (case hg => rfl); (case hr => first | (go_simp; done) | (go_simp; rfl)); (case hp => exact (Reps.one (show Kd.M (Kd.int .i64) _ _ _ t406 [.int .i64 t406] from rfl) (Reps.one (show Kd.M (Kd.int .i64) _ _ _ t409 [.int .i64 t409] from rfl) (Reps.one (show Kd.M (Kd.int .i64) _ _ _ t410 [.int .i64 t410] from rfl) (Reps.none _ _)))))
 intro v412 w15 ho16 hb hg_ hnew_
 clear hg_ hnew_
 (first | rw [← Ny411.out] at ho16 | (simp only [Int.reduceToNat] at ho16; rw [← Ny411.out] at ho16))
 have HO413 := a0_ (Kd.R_lower ho16 (below_size bq1_))
 replace BK404 := a0_ (bkB_ BK404 hb)
 replace BK405 := a0_ (bkB_ BK405 hb)
 replace HB := a0_ (below_step bq1_ hb)
 clear hb ho16
 obtain ⟨Ao17, co17, eo17⟩ := Kd.R_slice HO413.out
 (first | subst eo17 | (injection eo17 with f1_ f2_ f3_; have f4_ := f1_.symm; have f5_ := f3_.symm; clear f1_ f2_ f3_; subst f4_; subst f5_))
 refine hK.out _ _ ⟨(blk_cell BK404.out 0).trans rfl, (blk_cell BK404.out 1).trans rfl, (blk_cell BK404.out 2).trans rfl, (blk_cell BK404.out 3).trans rfl, (blk_cell BK405.out 0).trans rfl, (blk_cell BK405.out 1).trans rfl, (blk_cell BK405.out 2).trans rfl, (blk_cell BK405.out 3).trans rfl⟩ (fun hHeld => ?_)
 clear hK K
 refine normS_ ?_
 refine oneS_ 20 (some 25) (fun K hK => ?_)
 refine goes_ Tryz.func131 (by kernel_rfl) rfl #[.slice Ao17 y411.length co17] (by rfl) rfl rfl argsS_ ?_
 with_reducible refine (cmp_Or_int.calls k _ _ y411 t414 _ ?side1 ?side2 A8.out).mono ?_
 (case side1 => exact kD_ (Kd.R_reads' HO413.out).2.2)
 (case side2 => exact (Kd.R_reads' HO413.out).2.1)
 rintro e w' ⟨rfl, ⟨nd, rfl⟩⟩
 refine ⟨_, rfl, ?_⟩
 refine hK.out _ _ ⟨(blk_cell BK404.out 0).trans rfl, (blk_cell BK404.out 1).trans rfl, (blk_cell BK404.out 2).trans rfl, (blk_cell BK404.out 3).trans rfl, (blk_cell BK405.out 0).trans rfl, (blk_cell BK405.out 1).trans rfl, (blk_cell BK405.out 2).trans rfl, (blk_cell BK405.out 3).trans rfl⟩ (fun hHeld => ?_)
 clear hK K
 refine normS_ ?_
 refine pureS_ 21 (some 4) ?_
 refine done_ (done_of HT_.out (by kernel_rfl)) ?_
 try go_wp2
 go_ret
 exact ⟨rr_, bq1_⟩
end Go.Proofs.YtiegkjimpclmaaaGreatDoor.P
namespace Go.Proofs.YtiegkjimpclmaaaGreatDoor.Pure
open Go.RowKit Go.Proofs.YtiegkjimpclmaaaGreatDoor.P Go.Proofs.YtiegkjimpclmaaaGreatDoorW.PrintWords Go.Proofs.YtiegkjimpclmaaaGreatDoorW.PrintLast
set_option linter.unusedVariables false
set_option linter.unusedSimpArgs false
theorem cmpP_lt (a b : ByteArray) : cmpP a b = if a.data.toList < b.data.toList then -1 else if b.data.toList < a.data.toList then 1 else 0 := by
 unfold cmpP
 rw [Go.Proofs.bytesLess_eq, Go.Proofs.bytesLess_eq, Lib.toList_data, Lib.toList_data]
 simp only [decide_eq_true_eq]
theorem lst_tri (a b : List UInt8) : a < b ∨ a = b ∨ b < a := by
 by_cases h1 : a < b
 · exact .inl h1
 · by_cases h2 : b < a
   · exact .inr (.inr h2)
   · exact .inr (.inl (List.le_antisymm h2 h1))
theorem cmpP_zero (a b : ByteArray) : cmpP a b = 0 ↔ a = b := by
 rw [cmpP_lt]
 rcases lst_tri a.data.toList b.data.toList with h | h | h
 · rw [if_pos h]
   refine ⟨fun h0 => by omega, fun e => ?_⟩
   rw [e] at h
   exact absurd h (List.lt_irrefl _)
 · have hn : ¬ a.data.toList < b.data.toList := by rw [h]; exact List.lt_irrefl _
   have hn2 : ¬ b.data.toList < a.data.toList := by rw [h]; exact List.lt_irrefl _
   rw [if_neg hn, if_neg hn2]
   exact ⟨fun _ => ext_data h, fun _ => rfl⟩
 · have hn : ¬ a.data.toList < b.data.toList := fun h' => absurd (List.lt_trans h h') (List.lt_irrefl _)
   rw [if_neg hn, if_pos h]
   refine ⟨fun h0 => by omega, fun e => ?_⟩
   rw [e] at h
   exact absurd h (List.lt_irrefl _)
theorem cmpP_neg (a b : ByteArray) : cmpP b a = - cmpP a b := by
 rw [cmpP_lt, cmpP_lt]
 by_cases h : a.data.toList < b.data.toList
 · have hn : ¬ b.data.toList < a.data.toList := fun h' => absurd (List.lt_trans h h') (List.lt_irrefl _)
   rw [if_neg hn, if_pos h, if_pos h]; rfl
 · by_cases h' : b.data.toList < a.data.toList
   · rw [if_pos h', if_neg h, if_pos h']
   · rw [if_neg h', if_neg h, if_neg h, if_neg h']; rfl
theorem cmpP_less (a b : ByteArray) : cmpP a b < 0 ↔ a.data.toList < b.data.toList := by
 rw [cmpP_lt]
 by_cases h : a.data.toList < b.data.toList
 · rw [if_pos h]; exact ⟨fun _ => h, fun _ => by decide⟩
 · rw [if_neg h]
   refine ⟨fun h' => ?_, fun h' => absurd h' h⟩
   split at h' <;> omega
theorem cmpP_trans {a b c : ByteArray} (h : cmpP a b < 0) (h' : cmpP b c < 0) : cmpP a c < 0 := by
 rw [cmpP_less] at *
 exact List.lt_trans h h'
theorem cmpL_zero : ∀ x y : List ByteArray, cmpL x y = 0 ↔ x = y
 | [], [] => ⟨fun _ => rfl, fun _ => rfl⟩
 | [], _ :: _ => ⟨fun h => by simp [cmpL] at h, fun h => by cases h⟩
 | _ :: _, [] => ⟨fun h => by simp [cmpL] at h, fun h => by cases h⟩
 | a :: x, b :: y => by
  unfold cmpL
  by_cases h : cmpP a b = 0
  · rw [if_pos h, cmpL_zero x y, (cmpP_zero a b).1 h]
    exact ⟨fun e => by rw [e], fun e => by injection e⟩
  · rw [if_neg h]
    refine ⟨fun e => absurd e h, fun e => ?_⟩
    injection e with e1 e2
    exact absurd ((cmpP_zero a b).2 e1) h
theorem cmpL_neg : ∀ x y : List ByteArray, cmpL y x = - cmpL x y
 | [], [] => rfl
 | [], _ :: _ => rfl
 | _ :: _, [] => rfl
 | a :: x, b :: y => by
  unfold cmpL
  have hn := cmpP_neg a b
  by_cases h : cmpP a b = 0
  · rw [if_pos h, if_pos (by rw [hn, h]; rfl), cmpL_neg x y]
  · rw [if_neg h, if_neg (by rw [hn]; omega), hn]
theorem cmpL_trans : ∀ x y z : List ByteArray, cmpL x y < 0 → cmpL y z < 0 → cmpL x z < 0
 | [], [], z, h, h' => by simp [cmpL] at h
 | [], _ :: _, [], h, h' => by simp [cmpL] at h'
 | [], _ :: _, _ :: _, h, h' => by simp [cmpL]
 | _ :: _, [], z, h, h' => by simp [cmpL] at h
 | _ :: _, _ :: _, [], h, h' => by simp [cmpL] at h'
 | a :: x, b :: y, c :: z, h, h' => by
  unfold cmpL at h h' ⊢
  by_cases h1 : cmpP a b = 0
  · rw [if_pos h1] at h
    obtain rfl := (cmpP_zero a b).1 h1
    by_cases h2 : cmpP a c = 0
    · rw [if_pos h2] at h' ⊢
      exact cmpL_trans x y z h h'
    · rw [if_neg h2] at h' ⊢
      exact h'
  · rw [if_neg h1] at h
    by_cases h2 : cmpP b c = 0
    · obtain rfl := (cmpP_zero b c).1 h2
      rw [if_neg h1]
      exact h
    · rw [if_neg h2] at h'
      have h3 := cmpP_trans h h'
      rw [if_neg (by omega)]
      exact h3
def unO : List (List UInt8) → List UInt8
 | [] => []
 | [p] => p
 | p :: q :: r => p ++ 46 :: unO (q :: r)
theorem unO_split : ∀ s : List UInt8, unO (splitL 46 s) = s
 | [] => rfl
 | x :: xs => by
  have ih := unO_split xs
  obtain ⟨p, ps, hp⟩ := List.exists_cons_of_ne_nil (splitL_ne 46 xs)
  unfold splitL
  rw [hp] at ih ⊢
  by_cases h : x = 46
  · rw [if_pos h]
    show [] ++ 46 :: unO (p :: ps) = _
    rw [ih, h]
    rfl
  · rw [if_neg h]
    cases ps with
    | nil => show x :: p = _; rw [show p = xs from ih]
    | cons q r =>
     show (x :: p) ++ 46 :: unO (q :: r) = _
     have ih2 : p ++ 46 :: unO (q :: r) = xs := ih
     rw [List.cons_append, ih2]
theorem labels_inj {a b : List UInt8} (h : labelsL a = labelsL b) : a = b := by
 unfold labelsL at h
 by_cases ha : a = []
 · rw [if_pos ha] at h
   by_cases hb : b = []
   · rw [ha, hb]
   · rw [if_neg hb] at h
     exact absurd h.symm (splitL_ne 46 b)
 · rw [if_neg ha] at h
   by_cases hb : b = []
   · rw [if_pos hb] at h
     exact absurd h (splitL_ne 46 a)
   · rw [if_neg hb] at h
     rw [← unO_split a, ← unO_split b, h]
theorem ord_zero (a b : List UInt8) : ordL a b = 0 ↔ a = b := by
 unfold ordL
 rw [cmpL_zero]
 refine ⟨fun h => ?_, fun h => by rw [h]⟩
 have h1 := List.reverse_inj.1 h
 refine labels_inj ?_
 have h2 := congrArg (List.map fun x : ByteArray => x.data.toList) h1
 rw [List.map_map, List.map_map] at h2
 have : ((fun x : ByteArray => x.data.toList) ∘ mkB) = id := by funext z; exact mkB_data z
 rwa [this, List.map_id, List.map_id] at h2
theorem ord_neg (a b : List UInt8) : ordL b a = - ordL a b := cmpL_neg _ _
theorem ord_trans {a b c : List UInt8} (h : ordL a b < 0) (h' : ordL b c < 0) : ordL a c < 0 := cmpL_trans _ _ _ h h'
def leN (x y : List UInt8) : Bool := !decide (ordL y x < 0)
def sortL (l : List (List UInt8)) : List (List UInt8) := Lib.compact (l.mergeSort leN)
def sortR (l : List ByteArray) : List ByteArray × Bool :=
 if decide (l.length ≤ 60) && l.all (fun x => goodL x.data.toList) then ((sortL (l.map (·.data.toList))).map mkB, true) else ([], false)
end Go.Proofs.YtiegkjimpclmaaaGreatDoor.Pure
namespace Go.Proofs.YtiegkjimpclmaaaGreatDoor.P
open Go.RowKit Go.Proofs.YtiegkjimpclmaaaGreatDoorW.PrintWords Go.Proofs.YtiegkjimpclmaaaGreatDoorW.PrintLast Go.Proofs.YtiegkjimpclmaaaGreatDoorW.PrintMore
attribute [local go_sem] max2_int min2_int max_two min_two max_three min_three max_four min_four
set_option linter.unusedVariables false
set_option linter.unusedSimpArgs false
mutual
def impl_takeName.l0 : Nat → ByteArray → Int → List ByteArray → List Int → Int → Int → Option (ByteArray × List Int × Int × Bool)
 | 0, _, _, _, _, _, _ => none
 | k + 1, x0, x1, x8, x9, x10, x11 => if x1 < (x0.size : Int) then (impl_takeName.j1 k x0 x1 x8 x9 x10 x11 (decide ((x8.length : Int) ≤ 8))) else (impl_takeName.j1 k x0 x1 x8 x9 x10 x11 false)
def impl_takeName.j1 : Nat → ByteArray → Int → List ByteArray → List Int → Int → Int → Bool → Option (ByteArray × List Int × Int × Bool)
 | 0, _, _, _, _, _, _, _ => none
 | k + 1, x0, x1, x8, x9, x10, x11, x26 => if x26 = true then (if 0 ≤ x1 then (if x1 < (x0.size : Int) then (if (wrap64 (bt x0 x1)) = 0 then (if x11 < 0 then ((impl_NameOf.f x8).bind fun bt261 => (some (bt261.1, x9, wrap64 (x1 + 1), bt261.2))) else ((impl_NameOf.f x8).bind fun bt263 => (some (bt263.1, x9, x11, bt263.2)))) else (if (wrap64 (bt x0 x1)) ≥ 192 then (if (wrap64 (x1 + 1)) ≥ (x0.size : Int) then (some ((⟨#[]⟩ : ByteArray), ([] : List Int), 0, false)) else (if x11 < 0 then (if 0 ≤ (wrap64 (x1 + 1)) then (if (wrap64 (x1 + 1)) < (x0.size : Int) then (if (wrap64 ((wrap64 ((Int.tmod (wrap64 (bt x0 x1)) 64) * 256)) + (wrap64 (bt x0 (wrap64 (x1 + 1)))))) ≥ x10 then (some ((⟨#[]⟩ : ByteArray), ([] : List Int), 0, false)) else (impl_takeName.l0 k x0 (wrap64 ((wrap64 ((Int.tmod (wrap64 (bt x0 x1)) 64) * 256)) + (wrap64 (bt x0 (wrap64 (x1 + 1)))))) x8 x9 (wrap64 ((wrap64 ((Int.tmod (wrap64 (bt x0 x1)) 64) * 256)) + (wrap64 (bt x0 (wrap64 (x1 + 1)))))) (wrap64 (x1 + 2)))) else (none)) else (none)) else (if 0 ≤ (wrap64 (x1 + 1)) then (if (wrap64 (x1 + 1)) < (x0.size : Int) then (if (wrap64 ((wrap64 ((Int.tmod (wrap64 (bt x0 x1)) 64) * 256)) + (wrap64 (bt x0 (wrap64 (x1 + 1)))))) ≥ x10 then (some ((⟨#[]⟩ : ByteArray), ([] : List Int), 0, false)) else (impl_takeName.l0 k x0 (wrap64 ((wrap64 ((Int.tmod (wrap64 (bt x0 x1)) 64) * 256)) + (wrap64 (bt x0 (wrap64 (x1 + 1)))))) x8 x9 (wrap64 ((wrap64 ((Int.tmod (wrap64 (bt x0 x1)) 64) * 256)) + (wrap64 (bt x0 (wrap64 (x1 + 1)))))) x11)) else (none)) else (none)))) else (if (wrap64 (bt x0 x1)) ≥ 64 then (impl_takeName.j2 k x0 x1 x8 x9 x10 x11 (wrap64 (bt x0 x1)) true) else (impl_takeName.j2 k x0 x1 x8 x9 x10 x11 (wrap64 (bt x0 x1)) (decide ((wrap64 ((wrap64 (x1 + 1)) + (wrap64 (bt x0 x1)))) > (x0.size : Int))))))) else (none)) else (none)) else (some ((⟨#[]⟩ : ByteArray), ([] : List Int), 0, false))
def impl_takeName.j2 : Nat → ByteArray → Int → List ByteArray → List Int → Int → Int → Int → Bool → Option (ByteArray × List Int × Int × Bool)
 | 0, _, _, _, _, _, _, _, _ => none
 | k + 1, x0, x1, x8, x9, x10, x11, x12, x94 => if x94 = true then (some ((⟨#[]⟩ : ByteArray), ([] : List Int), 0, false)) else (if x11 < 0 then (if x9.length < 17592186044416 then (if 0 ≤ (wrap64 (x1 + 1)) then (if (wrap64 (x1 + 1)) ≤ (wrap64 ((wrap64 (x1 + 1)) + x12)) then (if (wrap64 ((wrap64 (x1 + 1)) + x12)) ≤ (x0.size : Int) then ((impl_small.f (x0.extract ((wrap64 (x1 + 1)) : Int).toNat ((wrap64 ((wrap64 (x1 + 1)) + x12)) : Int).toNat)).bind fun t268 => (if x8.length < 8796093022208 then (impl_takeName.l0 k x0 (wrap64 (x1 + (wrap64 (1 + x12)))) (x8 ++ [t268]) (x9 ++ [x1]) x10 x11) else (none))) else (none)) else (none)) else (none)) else (none)) else (if 0 ≤ (wrap64 (x1 + 1)) then (if (wrap64 (x1 + 1)) ≤ (wrap64 ((wrap64 (x1 + 1)) + x12)) then (if (wrap64 ((wrap64 (x1 + 1)) + x12)) ≤ (x0.size : Int) then ((impl_small.f (x0.extract ((wrap64 (x1 + 1)) : Int).toNat ((wrap64 ((wrap64 (x1 + 1)) + x12)) : Int).toNat)).bind fun t272 => (if x8.length < 8796093022208 then (impl_takeName.l0 k x0 (wrap64 (x1 + (wrap64 (1 + x12)))) (x8 ++ [t272]) x9 x10 x11) else (none))) else (none)) else (none)) else (none)))
end
def impl_takeName.f (k : Nat) (a0 : ByteArray) (a1 : Int) : Option (ByteArray × List Int × Int × Bool) := impl_takeName.l0 k a0 a1 (([] : List ByteArray)) (([] : List Int)) a1 (-1)
theorem impl_takeName.mono_l : ∀ k, (∀ y0 y1 y2 y3 y4 y5, LeO (impl_takeName.l0 k y0 y1 y2 y3 y4 y5) (impl_takeName.l0 (k + 1) y0 y1 y2 y3 y4 y5)) ∧ (∀ y0 y1 y2 y3 y4 y5 y6, LeO (impl_takeName.j1 k y0 y1 y2 y3 y4 y5 y6) (impl_takeName.j1 (k + 1) y0 y1 y2 y3 y4 y5 y6)) ∧ (∀ y0 y1 y2 y3 y4 y5 y6 y7, LeO (impl_takeName.j2 k y0 y1 y2 y3 y4 y5 y6 y7) (impl_takeName.j2 (k + 1) y0 y1 y2 y3 y4 y5 y6 y7))
 | 0 => ⟨fun _ _ _ _ _ _ r h => by simp [impl_takeName.l0] at h, fun _ _ _ _ _ _ _ r h => by simp [impl_takeName.j1] at h, fun _ _ _ _ _ _ _ _ r h => by simp [impl_takeName.j2] at h⟩
 | k + 1 => by
  obtain ⟨ih0, ih1, ih2⟩ := impl_takeName.mono_l k
  refine ⟨?_, ?_, ?_⟩
  · intro y0 y1 y2 y3 y4 y5
    unfold impl_takeName.l0
    repeat' first
    | (with_reducible exact ih0 _ _ _ _ _ _)
    | (with_reducible exact ih1 _ _ _ _ _ _ _)
    | (with_reducible exact ih2 _ _ _ _ _ _ _ _)
    | (with_reducible exact LeO.refl _)
    | (with_reducible exact LeO.none _)
    | (with_reducible refine LeO.ite ?_ ?_)
    | (with_reducible refine LeO.bind ?_ (fun _ => ?_))
    | exact ih0 _ _ _ _ _ _
    | exact ih1 _ _ _ _ _ _ _
    | exact ih2 _ _ _ _ _ _ _ _
    | exact LeO.none _
    | refine LeO.ite ?_ ?_
    | refine LeO.bind ?_ (fun _ => ?_)
  · intro y0 y1 y2 y3 y4 y5 y6
    unfold impl_takeName.j1
    repeat' first
    | (with_reducible exact ih0 _ _ _ _ _ _)
    | (with_reducible exact ih1 _ _ _ _ _ _ _)
    | (with_reducible exact ih2 _ _ _ _ _ _ _ _)
    | (with_reducible exact LeO.refl _)
    | (with_reducible exact LeO.none _)
    | (with_reducible refine LeO.ite ?_ ?_)
    | (with_reducible refine LeO.bind ?_ (fun _ => ?_))
    | exact ih0 _ _ _ _ _ _
    | exact ih1 _ _ _ _ _ _ _
    | exact ih2 _ _ _ _ _ _ _ _
    | exact LeO.none _
    | refine LeO.ite ?_ ?_
    | refine LeO.bind ?_ (fun _ => ?_)
  · intro y0 y1 y2 y3 y4 y5 y6 y7
    unfold impl_takeName.j2
    repeat' first
    | (with_reducible exact ih0 _ _ _ _ _ _)
    | (with_reducible exact ih1 _ _ _ _ _ _ _)
    | (with_reducible exact ih2 _ _ _ _ _ _ _ _)
    | (with_reducible exact LeO.refl _)
    | (with_reducible exact LeO.none _)
    | (with_reducible refine LeO.ite ?_ ?_)
    | (with_reducible refine LeO.bind ?_ (fun _ => ?_))
    | exact ih0 _ _ _ _ _ _
    | exact ih1 _ _ _ _ _ _ _
    | exact ih2 _ _ _ _ _ _ _ _
    | exact LeO.none _
    | refine LeO.ite ?_ ?_
    | refine LeO.bind ?_ (fun _ => ?_)
theorem impl_takeName.mono : ∀ a0 a1 k, LeO (impl_takeName.f k a0 a1) (impl_takeName.f (k + 1) a0 a1) := by
 intro a0 a1 k
 obtain ⟨ih0, ih1, ih2⟩ := impl_takeName.mono_l k
 unfold impl_takeName.f
 repeat' first
  | (with_reducible exact ih0 _ _ _ _ _ _)
  | (with_reducible exact ih1 _ _ _ _ _ _ _)
  | (with_reducible exact ih2 _ _ _ _ _ _ _ _)
  | (with_reducible exact LeO.refl _)
  | (with_reducible exact LeO.none _)
  | (with_reducible refine LeO.ite ?_ ?_)
  | (with_reducible refine LeO.bind ?_ (fun _ => ?_))
  | exact ih0 _ _ _ _ _ _
  | exact ih1 _ _ _ _ _ _ _
  | exact ih2 _ _ _ _ _ _ _ _
  | exact LeO.none _
  | refine LeO.ite ?_ ?_
  | refine LeO.bind ?_ (fun _ => ?_)
end Go.Proofs.YtiegkjimpclmaaaGreatDoor.P
namespace Go.Proofs.YtiegkjimpclmaaaGreatDoor.P
open Go.RowKit Go.Proofs.YtiegkjimpclmaaaGreatDoorW.PrintWords Go.Proofs.YtiegkjimpclmaaaGreatDoorW.PrintLast Go.Proofs.YtiegkjimpclmaaaGreatDoorW.PrintMore
attribute [local go_sem] max2_int min2_int max_two min_two max_three min_three max_four min_four
set_option linter.unusedVariables false
set_option linter.unusedSimpArgs false
attribute [-simp] ByteArray.size_extract
mutual
def spec_l2Take.l0 : Nat → ByteArray → Int → List ByteArray → List Int → Int → Int → Option (ByteArray × Int × List Int × Bool)
 | 0, _, _, _, _, _, _ => none
 | k + 1, x0, x1, x8, x9, x10, x11 => if (x8.length : Int) ≤ 8 then (if x1 ≥ (x0.size : Int) then (some ((⟨#[]⟩ : ByteArray), 0, ([] : List Int), false)) else (if 0 ≤ x1 then (if x1 < (x0.size : Int) then (if (wrap64 (bt x0 x1)) ≥ 192 then (if (wrap64 (x1 + 1)) ≥ (x0.size : Int) then (some ((⟨#[]⟩ : ByteArray), 0, ([] : List Int), false)) else (if x11 < 0 then (if 0 ≤ (wrap64 (x1 + 1)) then (if (wrap64 (x1 + 1)) < (x0.size : Int) then (if (wrap64 ((wrap64 ((wrap64 ((wrap64 (bt x0 x1)) - 192)) * 256)) + (wrap64 (bt x0 (wrap64 (x1 + 1)))))) ≥ x10 then (some ((⟨#[]⟩ : ByteArray), 0, ([] : List Int), false)) else (spec_l2Take.l0 k x0 (wrap64 ((wrap64 ((wrap64 ((wrap64 (bt x0 x1)) - 192)) * 256)) + (wrap64 (bt x0 (wrap64 (x1 + 1)))))) x8 x9 (wrap64 ((wrap64 ((wrap64 ((wrap64 (bt x0 x1)) - 192)) * 256)) + (wrap64 (bt x0 (wrap64 (x1 + 1)))))) (wrap64 (x1 + 2)))) else (none)) else (none)) else (if 0 ≤ (wrap64 (x1 + 1)) then (if (wrap64 (x1 + 1)) < (x0.size : Int) then (if (wrap64 ((wrap64 ((wrap64 ((wrap64 (bt x0 x1)) - 192)) * 256)) + (wrap64 (bt x0 (wrap64 (x1 + 1)))))) ≥ x10 then (some ((⟨#[]⟩ : ByteArray), 0, ([] : List Int), false)) else (spec_l2Take.l0 k x0 (wrap64 ((wrap64 ((wrap64 ((wrap64 (bt x0 x1)) - 192)) * 256)) + (wrap64 (bt x0 (wrap64 (x1 + 1)))))) x8 x9 (wrap64 ((wrap64 ((wrap64 ((wrap64 (bt x0 x1)) - 192)) * 256)) + (wrap64 (bt x0 (wrap64 (x1 + 1)))))) x11)) else (none)) else (none)))) else (if (wrap64 (bt x0 x1)) = 0 then (if x11 < 0 then ((spec_l1Join.f k x8).bind fun t125 => ((spec_FoldName.f t125).bind fun bt126 => (some (bt126.1, wrap64 (x1 + 1), x9, bt126.2)))) else ((spec_l1Join.f k x8).bind fun t128 => ((spec_FoldName.f t128).bind fun bt129 => (some (bt129.1, x11, x9, bt129.2))))) else (if (wrap64 (bt x0 x1)) > 20 then (spec_l2Take.j1 k x0 x1 x8 x9 x10 x11 (wrap64 (bt x0 x1)) true) else (spec_l2Take.j1 k x0 x1 x8 x9 x10 x11 (wrap64 (bt x0 x1)) (decide ((wrap64 ((wrap64 (x1 + 1)) + (wrap64 (bt x0 x1)))) > (x0.size : Int))))))) else (none)) else (none))) else (some ((⟨#[]⟩ : ByteArray), 0, ([] : List Int), false))
def spec_l2Take.j1 : Nat → ByteArray → Int → List ByteArray → List Int → Int → Int → Int → Bool → Option (ByteArray × Int × List Int × Bool)
 | 0, _, _, _, _, _, _, _, _ => none
 | k + 1, x0, x1, x8, x9, x10, x11, x12, x79 => if x79 = true then (some ((⟨#[]⟩ : ByteArray), 0, ([] : List Int), false)) else (if x11 < 0 then (if x9.length < 17592186044416 then (spec_l2Take.j2 k x0 x1 x8 (x9 ++ [x1]) x10 x11 x12) else (none)) else (spec_l2Take.j2 k x0 x1 x8 x9 x10 x11 x12))
def spec_l2Take.j2 : Nat → ByteArray → Int → List ByteArray → List Int → Int → Int → Int → Option (ByteArray × Int × List Int × Bool)
 | 0, _, _, _, _, _, _, _ => none
 | k + 1, x0, x1, x8, x9, x10, x11, x12 => if 0 ≤ (wrap64 (x1 + 1)) then (if (wrap64 (x1 + 1)) ≤ (wrap64 ((wrap64 (x1 + 1)) + x12)) then (if (wrap64 ((wrap64 (x1 + 1)) + x12)) ≤ (x0.size : Int) then (spec_l2Take.l1 k x0 x1 x8 x9 x10 x11 x12 (x0.extract ((wrap64 (x1 + 1)) : Int).toNat ((wrap64 ((wrap64 (x1 + 1)) + x12)) : Int).toNat) 0) else (none)) else (none)) else (none)
def spec_l2Take.l1 : Nat → ByteArray → Int → List ByteArray → List Int → Int → Int → Int → ByteArray → Int → Option (ByteArray × Int × List Int × Bool)
 | 0, _, _, _, _, _, _, _, _, _ => none
 | k + 1, x0, x1, x8, x9, x10, x11, x12, x15, x16 => if x16 < x12 then (if 0 ≤ x16 then (if x16 < (x15.size : Int) then (if (bt x15 x16) = 46 then (some ((⟨#[]⟩ : ByteArray), 0, ([] : List Int), false)) else (spec_l2Take.l1 k x0 x1 x8 x9 x10 x11 x12 x15 (wrap64 (x16 + 1)))) else (none)) else (none)) else (if x8.length < 8796093022208 then (spec_l2Take.l0 k x0 (wrap64 (x1 + (wrap64 (1 + x12)))) (x8 ++ [x15]) x9 x10 x11) else (none))
end
def spec_l2Take.f (k : Nat) (a0 : ByteArray) (a1 : Int) : Option (ByteArray × Int × List Int × Bool) := spec_l2Take.l0 k a0 a1 ([] : List ByteArray) ([] : List Int) a1 (-1)
end Go.Proofs.YtiegkjimpclmaaaGreatDoor.P
namespace Go.Proofs.YtiegkjimpclmaaaGreatDoor.P
open Go.RowKit Go.Proofs.YtiegkjimpclmaaaGreatDoorW.PrintWords Go.Proofs.YtiegkjimpclmaaaGreatDoorW.PrintLast Go.Proofs.YtiegkjimpclmaaaGreatDoorW.PrintMore
set_option linter.unusedVariables false
set_option linter.unusedSimpArgs false
def encR (x : S45) : Value := .agg #[.string x.f0, .int .i64 x.f1, .int .i64 x.f2, .string x.f3]
def PredR (g : Nat) (cb : Array Value) (p : S45 → Bool) (xs : List (S45)) (w : World) : Prop :=
 ∀ (j : Nat) (x : S45), xs[j]? = some x → (∀ (i : Nat) (y : S45), i < j → xs[i]? = some y → p y = false) → ∀ W, Below w.heap.size w W → Calls Tryz.prog g (#[encR x] ++ cb) W fun e W' => e = .returned (.bool (p x)) ∧ Below W.heap.size W W'
set_option maxHeartbeats 2000000 in
theorem index_rec (A : Option Addr) (c : Nat) (xs : List (S45)) (g : Nat) (cb : Array Value) (p : S45 → Bool) (w : World) (hr : Kd.C k45 w A xs.length xs)
 (eg : ∀ args w, (callFunc g args).run Tryz.prog w = .ok (.enter g args) w) (hp : PredR g cb p xs w) :
 Calls Tryz.prog 180 #[.slice A xs.length c, .func (.func g) #[] cb] w fun e w' => e = .returned (.int .i64 (idxP p xs 0)) ∧ Below w.heap.size w w' := by
 have hbig : xs.length ≤ 9223372036854775807 := hr.2.1
 go_enter Tryz.func180, Tryz.ntmps180
 go_wp2
 go_loopg [5, 8] xs.length (fun gg _ s8 wr => ∃ kk : Nat, kk ≤ xs.length ∧ xs.length - kk ≤ gg ∧ s8 = .int .i64 kk ∧ Aside0 (Below w.heap.size w wr) ∧ Aside0 (∀ j y, j < kk → xs[j]? = some y → p y = false))
 case atStart => exact ⟨0, Nat.zero_le _, by omega, rfl, ⟨Below.refl _ w⟩, ⟨fun j y hj => absurd hj (Nat.not_lt_zero _)⟩⟩
 case round =>
  obtain ⟨kk, hkk, hg, rfl, BW, AA⟩ := hrel
  by_cases hlt : kk < xs.length
  · have hltz : (kk : Int) < (xs.length : Int) := by omega
    obtain ⟨ad, e0, hx0, hx1, hx2, hx3⟩ := at_T45 hr (kk : Int) (by omega) hltz
    cases e0
    have l0 := (BW.out.cell (World.block_lt_of_cell? _ _ hx0)).trans hx0
    have l1 := (BW.out.cell (World.block_lt_of_cell? _ _ hx1)).trans hx1
    have l2 := (BW.out.cell (World.block_lt_of_cell? _ _ hx2)).trans hx2
    have l3 := (BW.out.cell (World.block_lt_of_cell? _ _ hx3)).trans hx3
    clear hx0 hx1 hx2 hx3
    simp only [Int.toNat_natCast] at l0 l1 l2 l3
    have hmem : xs[kk]? = some (rd_T45 xs kk) := by
     rw [List.getElem?_eq_getElem hlt]; simp [rd_T45, List.getElem?_eq_getElem hlt]
    have hcall := hp kk (rd_T45 xs kk) hmem AA.out wr BW.out
    clear hp
    generalize hy : rd_T45 xs kk = y at l0 l1 l2 l3 hcall hmem
    have B := Aside0.mk hmem
    clear hmem hy
    have hkn : ((kk : Int)).toNat = kk := by omega
    unfold encR at hcall
    cases hq : p y with
    | true =>
     rw [hq] at hcall
     go_wp2_with (go_at_fn g; refine hcall.mono ?_; rintro e w' ⟨rfl, hb'⟩)
     go_ret
     refine ⟨?_, below_then BW.out BW.out.size hb'⟩
     rw [idxP_hit p xs 0 kk y B.out hq AA.out]
     simp
    | false =>
     rw [hq] at hcall
     go_wp2_with (go_at_fn g; refine hcall.mono ?_; rintro e w' ⟨rfl, hb'⟩)
     go_roundg (xs.length - (kk + 1))
     case measure => omega
     case rel =>
      refine ⟨kk + 1, by omega, by omega, by go_num, ⟨below_then BW.out BW.out.size hb'⟩, ⟨fun j z hj hz => ?_⟩⟩
      by_cases e : j = kk
      · subst e
        rw [B.out] at hz
        cases hz
        exact hq
      · exact AA.out j z (by omega) hz
  · have hltz : ¬ (kk : Int) < (xs.length : Int) := by omega
    have hm : idxP p xs 0 = -1 := idxP_miss p xs 0 (fun y hy => by obtain ⟨j, hj, e⟩ := List.mem_iff_getElem.1 hy; exact AA.out j y (by omega) (by rw [List.getElem?_eq_getElem hj, e]))
    have HM := Aside0.mk hm
    clear hm
    go_wp2
    go_ret
    exact ⟨by rw [HM.out]; rfl, BW.out⟩
theorem contains_rec (A : Option Addr) (c : Nat) (xs : List (S45)) (g : Nat) (cb : Array Value) (p : S45 → Bool) (w : World) (hr : Kd.C k45 w A xs.length xs)
 (eg : ∀ args w, (callFunc g args).run Tryz.prog w = .ok (.enter g args) w) (hp : PredR g cb p xs w) :
 Calls Tryz.prog 135 #[.slice A xs.length c, .func (.func g) #[] cb] w fun e w' => e = .returned (.bool (xs.any p)) ∧ Below w.heap.size w w' := by
 rw [← idxP_any p xs 0 (by omega)]
 go_enter Tryz.func135, Tryz.ntmps135
 go_wp2_with (go_at_call 180; refine (index_rec A c xs g cb p _ hr eg hp).mono ?_; rintro e w' ⟨rfl, hb'⟩)
 go_ret
 exact ⟨rfl, hb'⟩
def impl_areRecords.f (k : Nat) : List (S45) → Option Bool
 | [] => some true
 | x :: xs => (impl_GoodRecord.f k x.f0 x.f1 x.f2 x.f3).bind fun g => (if g = true then impl_areRecords.f k xs else some false)
theorem impl_areRecords.mono : ∀ (a0 : List (S45)) (k : Nat), LeO (impl_areRecords.f k a0) (impl_areRecords.f (k + 1) a0)
 | [], k => LeO.refl _
 | x :: xs, k => by
  have ih := impl_areRecords.mono xs k
  unfold impl_areRecords.f
  exact LeO.bind (impl_GoodRecord.mono _ _ _ _ _) fun g => LeO.ite ih (LeO.refl _)
def badP (k : Nat) (x : S45) : Bool := !((impl_GoodRecord.f k x.f0 x.f1 x.f2 x.f3).getD false)
theorem are_at (k : Nat) : ∀ (xs : List (S45)) (r : Bool), impl_areRecords.f k xs = some r → ∀ (j : Nat) (x : S45), xs[j]? = some x → (∀ (i : Nat) (y : S45), i < j → xs[i]? = some y → badP k y = false) → impl_GoodRecord.f k x.f0 x.f1 x.f2 x.f3 = some (!badP k x)
 | [], r, h, j, x, hj, hb => by simp at hj
 | z :: xs, r, h, j, x, hj, hb => by
  unfold impl_areRecords.f at h
  obtain ⟨g, hg, h⟩ := Option.bind_eq_some_iff.mp h
  cases j with
  | zero =>
   obtain rfl : z = x := by simpa using hj
   unfold badP
   rw [hg, Option.getD_some, Bool.not_not]
  | succ j =>
   have h0 := hb 0 z (by omega) (by simp)
   unfold badP at h0
   rw [hg, Option.getD_some] at h0
   have hgt : g = true := by cases g with
    | true => rfl
    | false => cases h0
   rw [if_pos hgt] at h
   exact are_at k xs r h j x (by simpa using hj) fun i y hi hy => hb (i + 1) y (by omega) (by simpa using hy)
theorem are_any (k : Nat) : ∀ (xs : List (S45)) (r : Bool), impl_areRecords.f k xs = some r → xs.any (badP k) = !r
 | [], r, h => by
  obtain rfl := Option.some.inj h
  rfl
 | z :: xs, r, h => by
  unfold impl_areRecords.f at h
  obtain ⟨g, hg, h⟩ := Option.bind_eq_some_iff.mp h
  rw [List.any_cons]
  unfold badP
  rw [hg, Option.getD_some]
  cases g with
  | true =>
   rw [if_pos rfl] at h
   exact are_any k xs r h
  | false =>
   rw [if_neg (by decide)] at h
   obtain rfl := Option.some.inj h
   rfl
set_option maxHeartbeats 4000000 in
theorem impl_areRecords.calls (k : Nat) (A0 : Option Addr) (c0 : Nat) (l0 : List (S45)) (r : Bool) (w : World) (hr0 : Kd.C k45 w A0 l0.length l0) (hc0 : l0.length ≤ c0) (h : impl_areRecords.f k l0 = some r)
 (hv_ : Vars w := by first | assumption | (refine Vars.below (Aside0.out (by assumption)) ?_; repeat (first | (with_reducible first | exact Below.refl _ _ | exact Aside0.out (by assumption) | apply below_alloc | apply pw_below_drewN | apply below_drew1) | exact Aside0.out (by assumption)))) :
 Calls Tryz.prog 74 #[.slice A0 l0.length c0] w fun e w' => e = .returned (.bool r) ∧ Below w.heap.size w w' := by
 have eg : ∀ args w, (callFunc 136 args).run Tryz.prog w = .ok (.enter 136 args) w := enters_of Tryz.func136 (by kernel_rfl) rfl
 have cc := contains_rec A0 c0 l0 136 #[] (badP k) w hr0 eg (fun j x hj hb W hW =>
  impl_areRecords_1.calls k x.f0 x.f1 x.f2 x.f3 (badP k x) W (by unfold impl_areRecords_1.f; rw [are_at k l0 r h j x hj hb, Option.bind_some, Bool.not_not]) (Vars.below hv_ hW))
 rw [are_any k l0 r h] at cc
 clear h hv_
 go_enter Tryz.func74, Tryz.ntmps74
 go_wp2_with (go_at_call 135; refine cc.mono ?_; rintro e w1 ⟨rfl, hb⟩)
 go_ret
 exact ⟨by simp, hb⟩
end Go.Proofs.YtiegkjimpclmaaaGreatDoor.P
