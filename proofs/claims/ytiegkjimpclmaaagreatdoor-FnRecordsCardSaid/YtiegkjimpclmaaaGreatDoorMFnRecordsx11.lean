/- FnRecords: part 12 of 29 of my texts for this claim, joined; the theorem stands in the last. Conditions: none beyond the statement's. -/
import Derived.Test.YtiegkjimpclmaaaGreatDoorMFnRecordsx9
namespace Go.Proofs.YtiegkjimpclmaaaGreatDoor.P
open Go.RowKit Go.Proofs.YtiegkjimpclmaaaGreatDoorW.PrintWords Go.Proofs.YtiegkjimpclmaaaGreatDoorW.PrintLast Go.Proofs.YtiegkjimpclmaaaGreatDoorW.PrintMore
attribute [local go_sem] max2_int min2_int max_two min_two max_three min_three max_four min_four
set_option linter.unusedVariables false
set_option linter.unusedSimpArgs false
mutual
def spec_l1Cur_record.j1 : Nat → List Int → Int → Int → ByteArray → Int → Int → ByteArray → Option (ByteArray × Int × Int × ByteArray × Int × Int)
 | 0, _, _, _, _, _, _, _ => none
 | k + 1, x1000, x1001, x1002, x630000, x630001, x630002, x630003 => (spec_l1Cur_pick.f x1000 x1001 x1002 40).bind fun bt656 => (if bt656.1 = 0 then ((spec_l1Cur_among.f x1000 bt656.2.1 bt656.2.2 (([(-1), 0, 100000, 100001] : List Int))).bind fun bt662 => (some (x630000, x630001, bt662.1, x630003, bt662.2.1, bt662.2.2))) else (if bt656.1 = 1 then ((spec_l1Cur_of.f x1000 bt656.2.1 bt656.2.2 (([(⟨#[49, 46, 50, 46, 51]⟩ : ByteArray), (⟨#[50, 53, 54, 46, 49, 46, 49, 46, 49]⟩ : ByteArray), (⟨#[42]⟩ : ByteArray), (⟨#[52, 50, 57, 52, 57, 54, 55, 50, 57, 53]⟩ : ByteArray), (⟨#[52, 50, 57, 52, 57, 54, 55, 50, 57, 54]⟩ : ByteArray), (⟨#[55, 48, 48, 48, 48, 32, 97, 46, 98]⟩ : ByteArray), (⟨#[48, 49, 46, 50, 46, 51, 46, 52]⟩ : ByteArray), (⟨#[1]⟩ : ByteArray)] : List ByteArray))).bind fun bt668 => (some (x630000, x630001, x630002, bt668.1, bt668.2.1, bt668.2.2))) else (if bt656.1 = 2 then ((spec_l1Cur_pick.f x1000 bt656.2.1 bt656.2.2 20).bind fun bt671 => (some (x630000, bt671.1, x630002, x630003, bt671.2.1, bt671.2.2))) else (some (x630000, x630001, x630002, x630003, bt656.2.1, bt656.2.2)))))
def spec_l1Cur_record.j0 : Nat → Int → Bool → List Int → Int → Int → ByteArray → Int → Int → ByteArray → Option (ByteArray × Int × Int × ByteArray × Int × Int)
 | 0, _, _, _, _, _, _, _, _, _ => none
 | k + 1, x14, x25, x1000, x1001, x1002, x630000, x630001, x630002, x630003 => if x25 = true then ((spec_l1Cur_target.f x1000 x1001 x1002).bind fun bt636 => (spec_l1Cur_record.j1 k x1000 bt636.2.1 bt636.2.2 x630000 x630001 x630002 bt636.1)) else (if x14 = 6 then ((spec_l1Cur_pick.f x1000 x1001 x1002 20).bind fun bt639 => ((spec_l1Num.f k bt639.1).bind fun t642 => (spec_l1Cur_record.j1 k x1000 bt639.2.1 bt639.2.2 x630000 x630001 x630002 t642))) else (if x14 = 15 then ((spec_l1Cur_pick.f x1000 x1001 x1002 30).bind fun bt643 => ((spec_l1Num.f k bt643.1).bind fun t646 => (if t646.size + 1 ≤ 9223372036854775807 then ((spec_l1Cur_target.f x1000 bt643.2.1 bt643.2.2).bind fun bt647 => (if (t646 ++ (⟨#[32]⟩ : ByteArray)).size + bt647.1.size ≤ 9223372036854775807 then (spec_l1Cur_record.j1 k x1000 bt647.2.1 bt647.2.2 x630000 x630001 x630002 ((t646 ++ (⟨#[32]⟩ : ByteArray)) ++ bt647.1)) else (none))) else (none)))) else ((spec_l1Cur_of.f x1000 x1001 x1002 (([(⟨#[104, 101, 108, 108, 111]⟩ : ByteArray), (⟨#[]⟩ : ByteArray), (⟨#[118, 61, 49, 32, 120]⟩ : ByteArray)] : List ByteArray))).bind fun bt653 => (spec_l1Cur_record.j1 k x1000 bt653.2.1 bt653.2.2 x630000 x630001 x630002 bt653.1))))
end
def spec_l1Cur_record.f (k : Nat) (s0_0 : List Int) (s0_1 : Int) (s0_2 : Int) : Option (ByteArray × Int × Int × ByteArray × Int × Int) := (spec_l1Cur_name.f k s0_0 s0_1 s0_2).bind fun bt614 => ((spec_l1Cur_among.f s0_0 bt614.2.1 bt614.2.2 (([1, 1, 1, 2, 5, 15, 16, 6] : List Int))).bind fun bt620 => ((spec_l1Cur_among.f s0_0 bt620.2.1 bt620.2.2 (([5, 60, 60, 300] : List Int))).bind fun bt626 => (if bt620.1 = 1 then ((spec_l1Cur_of.f s0_0 bt626.2.1 bt626.2.2 (([(⟨#[49, 46, 50, 46, 51, 46, 52]⟩ : ByteArray), (⟨#[49, 46, 50, 46, 51, 46, 53]⟩ : ByteArray), (⟨#[49, 48, 46, 48, 46, 48, 46, 49]⟩ : ByteArray), (⟨#[57, 46, 57, 46, 57, 46, 57]⟩ : ByteArray)] : List ByteArray))).bind fun bt633 => (spec_l1Cur_record.j1 k s0_0 bt633.2.1 bt633.2.2 bt614.1 bt620.1 bt626.1 bt633.1)) else (if bt620.1 = 2 then (spec_l1Cur_record.j0 k bt620.1 (bt620.1 == 2) s0_0 bt626.2.1 bt626.2.2 bt614.1 bt620.1 bt626.1 (⟨#[]⟩ : ByteArray)) else (spec_l1Cur_record.j0 k bt620.1 (bt620.1 == 5) s0_0 bt626.2.1 bt626.2.2 bt614.1 bt620.1 bt626.1 (⟨#[]⟩ : ByteArray))))))
set_option maxHeartbeats 8000000 in
set_option maxRecDepth 100000 in
theorem spec_l1Cur_record.calls (k : Nat) (g : Nat) (s0_0 : List Int) (s0_1 : Int) (s0_2 : Int) (r1 : ByteArray) (r2 : Int) (r3 : Int) (r4 : ByteArray) (r5 : Int) (r6 : Int) (w0 w : World) (hI : IsS117 w0 w g s0_0 s0_1 s0_2) (hB : Below w0.heap.size w0 w) (h : spec_l1Cur_record.f k s0_0 s0_1 s0_2 = some (r1, r2, r3, r4, r5, r6)) :
 Calls Tryz.prog 97 #[.pointer (some ⟨g, 0, none⟩)] w fun e w' => e = .returned (.agg #[.string r1, .int .i64 r2, .int .i64 r3, .string r4]) ∧ IsS117 w0 w' g s0_0 r5 r6 ∧ Below w0.heap.size w0 w' ∧ KeepBut w w' g none := by
 have hu45 := Tryz.underlying45
 have HI0 := a0_ hI
 have HK := a0_ (KeepBut.refl w g none)
 have HL := a0_ hB.size
 clear hI
 have HW0 := a0_ hB.size
 have HB := a0_ hB
 clear hB
 have H := h
 clear h
 unfold spec_l1Cur_record.f at H
 obtain ⟨⟨t614, t615, t616⟩, A20, H⟩ := Option.bind_eq_some_iff.mp H
 have A2 := a0_ A20
 clear A20
 obtain ⟨y617, hy617⟩ : ∃ y_ : List Int, y_ = (([1, 1, 1, 2, 5, 15, 16, 6] : List Int)) := ⟨_, rfl⟩
 replace H : ((spec_l1Cur_among.f s0_0 t615 t616 y617).bind fun bt620 => ((spec_l1Cur_among.f s0_0 bt620.2.1 bt620.2.2 (([5, 60, 60, 300] : List Int))).bind fun bt626 => (if bt620.1 = 1 then ((spec_l1Cur_of.f s0_0 bt626.2.1 bt626.2.2 (([(⟨#[49, 46, 50, 46, 51, 46, 52]⟩ : ByteArray), (⟨#[49, 46, 50, 46, 51, 46, 53]⟩ : ByteArray), (⟨#[49, 48, 46, 48, 46, 48, 46, 49]⟩ : ByteArray), (⟨#[57, 46, 57, 46, 57, 46, 57]⟩ : ByteArray)] : List ByteArray))).bind fun bt633 => (spec_l1Cur_record.j1 k s0_0 bt633.2.1 bt633.2.2 t614 bt620.1 bt626.1 bt633.1)) else (if bt620.1 = 2 then (spec_l1Cur_record.j0 k bt620.1 (bt620.1 == 2) s0_0 bt626.2.1 bt626.2.2 t614 bt620.1 bt626.1 (⟨#[]⟩ : ByteArray)) else (spec_l1Cur_record.j0 k bt620.1 (bt620.1 == 5) s0_0 bt626.2.1 bt626.2.2 t614 bt620.1 bt626.1 (⟨#[]⟩ : ByteArray)))))) = some (r1, r2, r3, r4, r5, r6) := by first | (rw [hy617]; with_reducible exact H) | (have H2_ := (Option.bind_some _ _).symm.trans H; rw [hy617]; with_reducible exact H2_) | (have H2_ := (Option.bind_some _ _).symm.trans H; with_reducible exact H2_) | with_reducible exact H | (rw [hy617]; exact H) | exact H
 have Ny617 := a0_ hy617
 clear hy617
 obtain ⟨⟨t620, t621, t622⟩, A30, H⟩ := Option.bind_eq_some_iff.mp H
 have A3 := a0_ A30
 clear A30
 obtain ⟨y623, hy623⟩ : ∃ y_ : List Int, y_ = (([5, 60, 60, 300] : List Int)) := ⟨_, rfl⟩
 replace H : ((spec_l1Cur_among.f s0_0 t621 t622 y623).bind fun bt626 => (if t620 = 1 then ((spec_l1Cur_of.f s0_0 bt626.2.1 bt626.2.2 (([(⟨#[49, 46, 50, 46, 51, 46, 52]⟩ : ByteArray), (⟨#[49, 46, 50, 46, 51, 46, 53]⟩ : ByteArray), (⟨#[49, 48, 46, 48, 46, 48, 46, 49]⟩ : ByteArray), (⟨#[57, 46, 57, 46, 57, 46, 57]⟩ : ByteArray)] : List ByteArray))).bind fun bt633 => (spec_l1Cur_record.j1 k s0_0 bt633.2.1 bt633.2.2 t614 t620 bt626.1 bt633.1)) else (if t620 = 2 then (spec_l1Cur_record.j0 k t620 (t620 == 2) s0_0 bt626.2.1 bt626.2.2 t614 t620 bt626.1 (⟨#[]⟩ : ByteArray)) else (spec_l1Cur_record.j0 k t620 (t620 == 5) s0_0 bt626.2.1 bt626.2.2 t614 t620 bt626.1 (⟨#[]⟩ : ByteArray))))) = some (r1, r2, r3, r4, r5, r6) := by first | (rw [hy623]; with_reducible exact H) | (have H2_ := (Option.bind_some _ _).symm.trans H; rw [hy623]; with_reducible exact H2_) | (have H2_ := (Option.bind_some _ _).symm.trans H; with_reducible exact H2_) | with_reducible exact H | (rw [hy623]; exact H) | exact H
 have Ny623 := a0_ hy623
 clear hy623
 obtain ⟨⟨t626, t627, t628⟩, A40, H⟩ := Option.bind_eq_some_iff.mp H
 have A4 := a0_ A40
 clear A40
 have HC5 := a0_ H
 clear H
 go_enter Tryz.func97, Tryz.ntmps97
 go_upto_block 0 with (first | ((with_reducible refine gate_dst (N := 2) rfl ?_); refine boxS_ 2 #[.string (⟨#[]⟩ : ByteArray), .int .i64 0, .int .i64 0, .string (⟨#[]⟩ : ByteArray)] 45 (fun gb613 hg w6 hbox hb => ?_); have n0_ := a0_ (IsS117.below i117_ hb); have n1_ := a0_ (kt_ HK (KeepBut.of_below hb g none) (.inl rfl)); have n2_ := a0_ (below_step bq2_ hb); have n3_ := a0_ (hbox); have n4_ := a0_ ((by rw [hg]; exact (keep_size (w := w) (g := g) (row := none) kq_) : w.heap.size ≤ gb613)); have n5_ := a0_ ((Nat.le_trans HW0.out (by rw [hg]; exact (keep_size (w := w) (g := g) (row := none) kq_) : w.heap.size ≤ gb613) : w0.heap.size ≤ gb613)); have n6_ := a0_ ((by rw [hg]; exact Nat.ne_of_lt (IsS117.lt (show IsS117 w0 _ g s0_0 s0_1 s0_2 from i117_)) : g ≠ gb613)); have n7_ := a0_ ((by rw [hg]; exact Nat.ne_of_gt (IsS117.lt (show IsS117 w0 _ g s0_0 s0_1 s0_2 from i117_)) : gb613 ≠ g)); clear HI0; clear HK; clear HB; have HI0 := n0_; have HK := n1_; have HB := n2_; have BK613 := n3_; have GW613 := n4_; have GE613 := n5_; have NB0_613 := n6_; have NB613_0 := n7_; clear n0_ n1_ n2_ n3_ n4_ n5_ n6_ n7_; clear hb hbox hg) | ((with_reducible refine gate_callee (f := 112) rfl ?_); refine goesL_ (some 5) rfl rfl Tryz.func112 (by kernel_rfl) rfl #[.pointer (some ⟨g, 0, none⟩)] rfl argsS_ ?_; (with_reducible refine (spec_l1Cur_name.calls k g s0_0 s0_1 s0_2 t614 t615 t616 w0 _ ?side1 ?side2 A2.out).mono ?_); (case side1 => exact i117_); (case side2 => exact bq2_); rintro e w7 ⟨rfl, hi, hb, hk⟩; refine ⟨_, rfl, ?_⟩; replace BK613 := a0_ (kk_ BK613 hk NB613_0.out); replace HK := a0_ (kt_ HK hk (.inl rfl)); replace HB := a0_ (hb); replace HI0 := a0_ (hi); clear hb hk hi) | ((with_reducible refine gate_dst (N := 7) rfl ?_); refine Kd.R_lit (Kd.int .i64) _ 3 ?hg (N := 7) ?hd (xs := ([1, 1, 1, 2, 5, 15, 16, 6] : List Int)) (inner := [.int .i64 1, .int .i64 1, .int .i64 1, .int .i64 2, .int .i64 5, .int .i64 15, .int .i64 16, .int .i64 6]) (ok := fun _ => True) (okp := fun _ => True) ?hr ?hp (fun _ hk => hk) trivial (Below.refl _ _) (Nat.le_refl _) (by simp) ?_; (case hd => rfl); (case hg => rfl); (case hr => first | (go_simp; done) | (go_simp; rfl)); (case hp => exact (Reps.one (show Kd.M (Kd.int .i64) _ _ _ 1 [.int .i64 1] from rfl) (Reps.one (show Kd.M (Kd.int .i64) _ _ _ 1 [.int .i64 1] from rfl) (Reps.one (show Kd.M (Kd.int .i64) _ _ _ 1 [.int .i64 1] from rfl) (Reps.one (show Kd.M (Kd.int .i64) _ _ _ 2 [.int .i64 2] from rfl) (Reps.one (show Kd.M (Kd.int .i64) _ _ _ 5 [.int .i64 5] from rfl) (Reps.one (show Kd.M (Kd.int .i64) _ _ _ 15 [.int .i64 15] from rfl) (Reps.one (show Kd.M (Kd.int .i64) _ _ _ 16 [.int .i64 16] from rfl) (Reps.one (show Kd.M (Kd.int .i64) _ _ _ 6 [.int .i64 6] from rfl) (Reps.none _ _)))))))))); intro v618 w8 ho9 hb hg_ hnew_; clear hg_ hnew_; (first | rw [← Ny617.out] at ho9 | (simp only [Int.reduceToNat] at ho9; rw [← Ny617.out] at ho9)); have n0_ := a0_ (Kd.R_lower ho9 (keep_size (w := w) (g := g) (row := none) kq_)); have n1_ := a0_ (IsS117.below i117_ hb); have n2_ := a0_ (bkB_ BK613 hb); have n3_ := a0_ (kt_ HK (KeepBut.of_below hb g none) (.inl rfl)); have n4_ := a0_ (below_step bq2_ hb); clear HI0; clear BK613; clear HK; clear HB; have HO619 := n0_; have HI0 := n1_; have BK613 := n2_; have HK := n3_; have HB := n4_; clear n0_ n1_ n2_ n3_ n4_; clear hb ho9; obtain ⟨Ao10, co10, eo10⟩ := Kd.R_slice HO619.out; subst eo10) | ((with_reducible refine gate_callee (f := 114) rfl ?_); refine goesL_ (some 8) rfl rfl Tryz.func114 (by kernel_rfl) rfl #[.pointer (some ⟨g, 0, none⟩), .slice Ao10 y617.length co10] rfl argsS_ ?_; (with_reducible refine (spec_l1Cur_among.calls g s0_0 t615 t616 _ _ y617 t620 t621 t622 w0 _ ?side1 ?side2 ?side3 ?side4 ?side5 A3.out).mono ?_); (case side1 => exact i117_); (case side2 => exact bq2_); (case side3 => exact kD_ (Kd.R_reads' HO619.out).2.2); (case side4 => exact (Kd.R_reads' HO619.out).2.1); (case side5 => exact far_slice (IsS117.own_ne HI0.out HO619.out (by decide))); rintro e w11 ⟨rfl, hi, hb, hk⟩; refine ⟨_, rfl, ?_⟩; replace BK613 := a0_ (kk_ BK613 hk NB613_0.out); replace HO619 := a0_ (Kd.R_mono (Kd.R_keep (IsS117.apart (show IsS117 w0 _ g s0_0 t615 t616 from i117_) (kR_ HO619.out) (by decide)) hk (fun _ h => h.2)) (fun _ h => h.1)); replace HK := a0_ (kt_ HK hk (.inl rfl)); replace HB := a0_ (hb); replace HI0 := a0_ (hi); clear hb hk hi) | ((with_reducible refine gate_dst (N := 10) rfl ?_); refine Kd.R_lit (Kd.int .i64) _ 3 ?hg (N := 10) ?hd (xs := ([5, 60, 60, 300] : List Int)) (inner := [.int .i64 5, .int .i64 60, .int .i64 60, .int .i64 300]) (ok := fun _ => True) (okp := fun _ => True) ?hr ?hp (fun _ hk => hk) trivial (Below.refl _ _) (Nat.le_refl _) (by simp) ?_; (case hd => rfl); (case hg => rfl); (case hr => first | (go_simp; done) | (go_simp; rfl)); (case hp => exact (Reps.one (show Kd.M (Kd.int .i64) _ _ _ 5 [.int .i64 5] from rfl) (Reps.one (show Kd.M (Kd.int .i64) _ _ _ 60 [.int .i64 60] from rfl) (Reps.one (show Kd.M (Kd.int .i64) _ _ _ 60 [.int .i64 60] from rfl) (Reps.one (show Kd.M (Kd.int .i64) _ _ _ 300 [.int .i64 300] from rfl) (Reps.none _ _)))))); intro v624 w12 ho13 hb hg_ hnew_; clear hg_ hnew_; (first | rw [← Ny623.out] at ho13 | (simp only [Int.reduceToNat] at ho13; rw [← Ny623.out] at ho13)); have n0_ := a0_ (Kd.R_elder' (kR_ HO619.out) (Kd.R_base ho13) hb); have n1_ := a0_ (Kd.R_lower (Kd.R_new' ho13 (Kd.R_lt (kR_ HO619.out))) (keep_size (w := w) (g := g) (row := none) kq_)); have n2_ := a0_ (IsS117.below i117_ hb); have n3_ := a0_ (bkB_ BK613 hb); have n4_ := a0_ (kt_ HK (KeepBut.of_below hb g none) (.inl rfl)); have n5_ := a0_ (below_step bq2_ hb); clear HO619; clear HI0; clear BK613; clear HK; clear HB; have HO619 := n0_; have HO625 := n1_; have HI0 := n2_; have BK613 := n3_; have HK := n4_; have HB := n5_; clear n0_ n1_ n2_ n3_ n4_ n5_; clear hb ho13; obtain ⟨Ao14, co14, eo14⟩ := Kd.R_slice HO625.out; subst eo14) | ((with_reducible refine gate_callee (f := 114) rfl ?_); refine goesL_ (some 11) rfl rfl Tryz.func114 (by kernel_rfl) rfl #[.pointer (some ⟨g, 0, none⟩), .slice Ao14 y623.length co14] rfl argsS_ ?_; (with_reducible refine (spec_l1Cur_among.calls g s0_0 t621 t622 _ _ y623 t626 t627 t628 w0 _ ?side1 ?side2 ?side3 ?side4 ?side5 A4.out).mono ?_); (case side1 => exact i117_); (case side2 => exact bq2_); (case side3 => exact kD_ (Kd.R_reads' HO625.out).2.2); (case side4 => exact (Kd.R_reads' HO625.out).2.1); (case side5 => exact far_slice (IsS117.own_ne HI0.out HO625.out (by decide))); rintro e w15 ⟨rfl, hi, hb, hk⟩; refine ⟨_, rfl, ?_⟩; replace BK613 := a0_ (kk_ BK613 hk NB613_0.out); replace HO619 := a0_ (Kd.R_mono (Kd.R_keep (IsS117.apart (show IsS117 w0 _ g s0_0 t621 t622 from i117_) (kR_ HO619.out) (by decide)) hk (fun _ h => h.2)) (fun _ h => h.1)); replace HO625 := a0_ (Kd.R_mono (Kd.R_keep (IsS117.apart (show IsS117 w0 _ g s0_0 t621 t622 from i117_) (kR_ HO625.out) (by decide)) hk (fun _ h => h.2)) (fun _ h => h.1)); replace HK := a0_ (kt_ HK hk (.inl rfl)); replace HB := a0_ (hb); replace HI0 := a0_ (hi); clear hb hk hi) | ((with_reducible refine gate_dst (N := 3) rfl ?_); refine boxS_ 3 #[.string (⟨#[]⟩ : ByteArray), .int .i64 0, .int .i64 0, .string (⟨#[]⟩ : ByteArray)] 45 (fun gb629 hg w16 hbox hb => ?_); have n0_ := a0_ (Kd.R_below (kR_ HO619.out) hb); have n1_ := a0_ (Kd.R_below (kR_ HO625.out) hb); have n2_ := a0_ (IsS117.below i117_ hb); have n3_ := a0_ (bkB_ BK613 hb); have n4_ := a0_ (kt_ HK (KeepBut.of_below hb g none) (.inl rfl)); have n5_ := a0_ (below_step bq2_ hb); have n6_ := a0_ (hbox); have n7_ := a0_ ((by rw [hg]; exact (keep_size (w := w) (g := g) (row := none) kq_) : w.heap.size ≤ gb629)); have n8_ := a0_ ((Nat.le_trans HW0.out (by rw [hg]; exact (keep_size (w := w) (g := g) (row := none) kq_) : w.heap.size ≤ gb629) : w0.heap.size ≤ gb629)); have n9_ := a0_ ((by rw [hg]; exact Nat.ne_of_lt (blk_lt (g := gb613) (o := .cells #[.string (⟨#[]⟩ : ByteArray), .int .i64 0, .int .i64 0, .string (⟨#[]⟩ : ByteArray)] 45 (0, 0)) (kB_ BK613.out)) : gb613 ≠ gb629)); have n10_ := a0_ ((by rw [hg]; exact Nat.ne_of_gt (blk_lt (g := gb613) (o := .cells #[.string (⟨#[]⟩ : ByteArray), .int .i64 0, .int .i64 0, .string (⟨#[]⟩ : ByteArray)] 45 (0, 0)) (kB_ BK613.out)) : gb629 ≠ gb613)); have n11_ := a0_ ((by rw [hg]; exact Nat.ne_of_lt (IsS117.lt (show IsS117 w0 _ g s0_0 t627 t628 from i117_)) : g ≠ gb629)); have n12_ := a0_ ((by rw [hg]; exact Nat.ne_of_gt (IsS117.lt (show IsS117 w0 _ g s0_0 t627 t628 from i117_)) : gb629 ≠ g)); clear HO619; clear HO625; clear HI0; clear BK613; clear HK; clear HB; have HO619 := n0_; have HO625 := n1_; have HI0 := n2_; have BK613 := n3_; have HK := n4_; have HB := n5_; have BK629 := n6_; have GW629 := n7_; have GE629 := n8_; have NB613_629 := n9_; have NB629_613 := n10_; have NB0_629 := n11_; have NB629_0 := n12_; clear n0_ n1_ n2_ n3_ n4_ n5_ n6_ n7_ n8_ n9_ n10_ n11_ n12_; clear hb hbox hg; have hnb17 := NB629_613.out; have hnc17 := NB613_629.out; have hnb18 := NB629_0.out; have hnc18 := NB0_629.out; obtain ⟨z19_0, z19_1, z19_2, z19_3, q19_0, q19_1, q19_2, q19_3⟩ := bk4_ BK629.out))
 (try simp only [Act.put, List.setIfInBounds_toArray, List.set_cons_zero, List.set_cons_succ])
 go_cut [] (fun wc => ∃ (kq : Nat) (x1001_4 : Int) (x1002_4 : Int) (x630003_4 : ByteArray), Aside0 (spec_l1Cur_record.j1 kq s0_0 x1001_4 x1002_4 t614 t620 t626 x630003_4 = some (r1, r2, r3, r4, r5, r6)) ∧ Aside0 (kq ≤ k) ∧ Aside0 (wc.heap[gb613]? = some (.cells #[.string (⟨#[]⟩ : ByteArray), .int .i64 0, .int .i64 0, .string (⟨#[]⟩ : ByteArray)] 45 (0, 0))) ∧ Aside0 (wc.heap[gb629]? = some (.cells #[.string t614, .int .i64 t620, .int .i64 t626, .string x630003_4] 45 (0, 0))) ∧ Aside0 (IsS117 w0 wc g s0_0 x1001_4 x1002_4) ∧ Aside0 (KeepBut w wc g none) ∧ Aside0 (Below w0.heap.size w0 wc))
 case first =>
  have H := HC5.out
  clear HC5
  by_cases c20 : t620 = 1
  case pos =>
   rw [if_pos c20] at H
   have c20b0 := beq_iff_eq.mpr c20
   have c20b1 := bne_eq_false_iff_eq.mpr c20
   clear c20
   (first | rw [c20b0] | (simp only [i64_w, i32_w]; rw [c20b0]) | skip)
   obtain ⟨y630, hy630⟩ : ∃ y_ : List ByteArray, y_ = (([(⟨#[49, 46, 50, 46, 51, 46, 52]⟩ : ByteArray), (⟨#[49, 46, 50, 46, 51, 46, 53]⟩ : ByteArray), (⟨#[49, 48, 46, 48, 46, 48, 46, 49]⟩ : ByteArray), (⟨#[57, 46, 57, 46, 57, 46, 57]⟩ : ByteArray)] : List ByteArray)) := ⟨_, rfl⟩
   replace H : ((spec_l1Cur_of.f s0_0 t627 t628 y630).bind fun bt633 => (spec_l1Cur_record.j1 k s0_0 bt633.2.1 bt633.2.2 t614 t620 t626 bt633.1)) = some (r1, r2, r3, r4, r5, r6) := by first | (rw [hy630]; with_reducible exact H) | (have H2_ := (Option.bind_some _ _).symm.trans H; rw [hy630]; with_reducible exact H2_) | (have H2_ := (Option.bind_some _ _).symm.trans H; with_reducible exact H2_) | with_reducible exact H | (rw [hy630]; exact H) | exact H
   have Ny630 := a0_ hy630
   clear hy630
   obtain ⟨⟨t633, t634, t635⟩, A210, H⟩ := Option.bind_eq_some_iff.mp H
   have A21 := a0_ A210
   clear A210
   have H' := a0_ H
   clear H
   go_wp2_with (first | ((with_reducible refine gate_dst (N := 22) rfl ?_); refine Kd.R_lit Kd.string _ 9 ?hg (N := 22) ?hd (xs := ([(⟨#[49, 46, 50, 46, 51, 46, 52]⟩ : ByteArray), (⟨#[49, 46, 50, 46, 51, 46, 53]⟩ : ByteArray), (⟨#[49, 48, 46, 48, 46, 48, 46, 49]⟩ : ByteArray), (⟨#[57, 46, 57, 46, 57, 46, 57]⟩ : ByteArray)] : List ByteArray)) (inner := [.string (⟨#[49, 46, 50, 46, 51, 46, 52]⟩ : ByteArray), .string (⟨#[49, 46, 50, 46, 51, 46, 53]⟩ : ByteArray), .string (⟨#[49, 48, 46, 48, 46, 48, 46, 49]⟩ : ByteArray), .string (⟨#[57, 46, 57, 46, 57, 46, 57]⟩ : ByteArray)]) (ok := fun _ => True) (okp := fun _ => True) ?hr ?hp (fun _ hk => hk) trivial (Below.refl _ _) (Nat.le_refl _) (by simp) ?_; (case hd => rfl); (case hg => rfl); (case hr => first | (go_simp; done) | (go_simp; rfl)); (case hp => exact (Reps.one (show Kd.M Kd.string _ _ _ (⟨#[49, 46, 50, 46, 51, 46, 52]⟩ : ByteArray) [.string (⟨#[49, 46, 50, 46, 51, 46, 52]⟩ : ByteArray)] from rfl) (Reps.one (show Kd.M Kd.string _ _ _ (⟨#[49, 46, 50, 46, 51, 46, 53]⟩ : ByteArray) [.string (⟨#[49, 46, 50, 46, 51, 46, 53]⟩ : ByteArray)] from rfl) (Reps.one (show Kd.M Kd.string _ _ _ (⟨#[49, 48, 46, 48, 46, 48, 46, 49]⟩ : ByteArray) [.string (⟨#[49, 48, 46, 48, 46, 48, 46, 49]⟩ : ByteArray)] from rfl) (Reps.one (show Kd.M Kd.string _ _ _ (⟨#[57, 46, 57, 46, 57, 46, 57]⟩ : ByteArray) [.string (⟨#[57, 46, 57, 46, 57, 46, 57]⟩ : ByteArray)] from rfl) (Reps.none _ _)))))); intro v631 w22 ho23 hb hg_ hnew_; clear hg_ hnew_; (first | rw [← Ny630.out] at ho23 | (simp only [Int.reduceToNat] at ho23; rw [← Ny630.out] at ho23)); have n0_ := a0_ (Kd.R_below (kR_ (farR4_ HO619.out BK629.out)) hb); have n1_ := a0_ (Kd.R_below (kR_ (farR4_ HO625.out BK629.out)) hb); have n2_ := a0_ (Kd.R_lower ho23 (keep_size (w := w) (g := g) (row := none) kq_)); have n3_ := a0_ (IsS117.below (show IsS117 w0 ((((w16.setCell ⟨gb629, 0, none⟩ (.string t614)).setCell ⟨gb629, 1, none⟩ (.int .i64 t620)).setCell ⟨gb629, 2, none⟩ (.int .i64 t626)).setCell ⟨gb629, 3, none⟩ (.string (⟨#[]⟩ : ByteArray))) g s0_0 t627 t628 from i117_) hb); have n4_ := a0_ (blk_below (g := gb613) (o := .cells #[.string (⟨#[]⟩ : ByteArray), .int .i64 0, .int .i64 0, .string (⟨#[]⟩ : ByteArray)] 45 (0, 0)) (bfar4_ NB613_629.out BK613.out) hb); have n5_ := a0_ (blk_below (g := gb629) (o := .cells #[.string t614, .int .i64 t620, .int .i64 t626, .string (⟨#[]⟩ : ByteArray)] 45 (0, 0)) (put4_ BK629.out) hb); have n6_ := a0_ (kt_ HK (KeepBut.of_below hb g none) (.inl rfl)); have n7_ := a0_ (below_step bq2_ hb); clear HO619; clear HO625; clear HI0; clear BK613; clear BK629; clear HK; clear HB; have HO619 := n0_; have HO625 := n1_; have HO632 := n2_; have HI0 := n3_; have BK613 := n4_; have BK629 := n5_; have HK := n6_; have HB := n7_; clear n0_ n1_ n2_ n3_ n4_ n5_ n6_ n7_; clear hb ho23; obtain ⟨Ao24, co24, eo24⟩ := Kd.R_slice HO632.out; subst eo24) | ((with_reducible refine gate_callee (f := 154) rfl ?_); refine goesL_ (some 23) rfl rfl Tryz.func154 (by kernel_rfl) rfl #[.pointer (some ⟨g, 0, none⟩), .slice Ao24 y630.length co24] rfl argsS_ ?_; (with_reducible refine (spec_l1Cur_of.calls g s0_0 t627 t628 _ _ y630 t633 t634 t635 w0 _ ?side1 ?side2 ?side3 ?side4 ?side5 A21.out).mono ?_); (case side1 => exact i117_); (case side2 => exact bq2_); (case side3 => exact kD_ (Kd.R_reads' HO632.out).2.2); (case side4 => exact (Kd.R_reads' HO632.out).2.1); (case side5 => exact far_slice (IsS117.own_ne HI0.out HO632.out (by decide))); rintro e w25 ⟨rfl, hi, hb, hk⟩; refine ⟨_, rfl, ?_⟩; replace BK613 := a0_ (kk_ BK613 hk NB613_0.out); replace HO619 := a0_ (Kd.R_mono (Kd.R_keep (IsS117.apart (show IsS117 w0 _ g s0_0 t627 t628 from i117_) (kR_ HO619.out) (by decide)) hk (fun _ h => h.2)) (fun _ h => h.1)); replace HO625 := a0_ (Kd.R_mono (Kd.R_keep (IsS117.apart (show IsS117 w0 _ g s0_0 t627 t628 from i117_) (kR_ HO625.out) (by decide)) hk (fun _ h => h.2)) (fun _ h => h.1)); replace BK629 := a0_ (kk_ BK629 hk NB629_0.out); replace HO632 := a0_ (Kd.R_mono (Kd.R_keep (IsS117.apart (show IsS117 w0 _ g s0_0 t627 t628 from i117_) (kR_ HO632.out) (by decide)) hk (fun _ h => h.2)) (fun _ h => h.1)); replace HK := a0_ (kt_ HK hk (.inl rfl)); replace HB := a0_ (hb); replace HI0 := a0_ (hi); clear hb hk hi; have hnb26 := NB629_613.out; have hnc26 := NB613_629.out; have hnb27 := NB629_0.out; have hnc27 := NB0_629.out; obtain ⟨z28_0, z28_1, z28_2, z28_3, q28_0, q28_1, q28_2, q28_3⟩ := bk4_ BK629.out))
   go_meet
   case rel => exact ⟨_, (t634), (t635), (t633), H', ⟨by first | omega | exact Nat.le_refl _⟩, ⟨bz_⟩, ⟨by (with_reducible repeat (first | refine blk_drewN ?_ _ | refine blk_drew ?_ | refine blk_alloc ?_ _)); refine blk_put (cs := #[.string t614, .int .i64 t620, .int .i64 t626, .string (⟨#[]⟩ : ByteArray)]) ?_ 3 _ rfl; (with_reducible repeat (first | refine blk_drewN ?_ _ | refine blk_drew ?_ | refine blk_alloc ?_ _)); exact BK629.out⟩, ⟨i117_⟩, ⟨kq_⟩, ⟨bq2_⟩⟩
  rw [if_neg c20] at H
  have c20b0 := beq_eq_false_iff_ne.mpr c20
  have c20b1 := bne_iff_ne.mpr c20
  (first | rw [c20b0] | (simp only [i64_w, i32_w]; rw [c20b0]) | skip)
  have HC29 := a0_ H
  clear H
  go_upto_if 25 with (fail)
  go_cut [25] (fun v25 wc => ∃ (kq : Nat) (x25_28 : Bool), v25 = .bool x25_28 ∧ Aside0 (spec_l1Cur_record.j0 kq t620 x25_28 s0_0 t627 t628 t614 t620 t626 (⟨#[]⟩ : ByteArray) = some (r1, r2, r3, r4, r5, r6)) ∧ Aside0 (kq ≤ k) ∧ Aside0 (wc.heap[gb613]? = some (.cells #[.string (⟨#[]⟩ : ByteArray), .int .i64 0, .int .i64 0, .string (⟨#[]⟩ : ByteArray)] 45 (0, 0))) ∧ Aside0 (wc.heap[gb629]? = some (.cells #[.string t614, .int .i64 t620, .int .i64 t626, .string (⟨#[]⟩ : ByteArray)] 45 (0, 0))) ∧ Aside0 (IsS117 w0 wc g s0_0 t627 t628) ∧ Aside0 (KeepBut w wc g none) ∧ Aside0 (Below w0.heap.size w0 wc))
  case first =>
   have H := HC29.out
   clear HC29
   by_cases c30 : t620 = 2
   case neg =>
    rw [if_neg c30] at H
    have c30b0 := beq_eq_false_iff_ne.mpr c30
    have c30b1 := bne_iff_ne.mpr c30
    (first | rw [c30b0] | (simp only [i64_w, i32_w]; rw [c30b0]) | skip)
    have H' := a0_ H
    clear H
    go_wp2
    go_meet
    case rel => exact ⟨_, ((t620 == 5)), rs_, H', ⟨by first | omega | exact Nat.le_refl _⟩, ⟨bfar4_ NB613_629.out BK613.out⟩, ⟨put4_ BK629.out⟩, ⟨i117_⟩, ⟨kq_⟩, ⟨bq2_⟩⟩
   rw [if_pos c30] at H
   have c30b0 := beq_iff_eq.mpr c30
   have c30b1 := bne_eq_false_iff_eq.mpr c30
   clear c30
   (first | rw [c30b0] | (simp only [i64_w, i32_w]; rw [c30b0]) | skip)
   have H' := a0_ H
   clear H
   go_wp2
   go_meet
   case rel => exact ⟨_, ((t620 == 2)), rs_, H', ⟨by first | omega | exact Nat.le_refl _⟩, ⟨bfar4_ NB613_629.out BK613.out⟩, ⟨put4_ BK629.out⟩, ⟨i117_⟩, ⟨kq_⟩, ⟨bq2_⟩⟩
  case rest =>
   clear HC29
   try clear c20
   try clear c20b0
   try clear c20b1
   try clear z19_0 z19_1 z19_2 z19_3
   try clear q19_0 q19_1 q19_2 q19_3
   obtain ⟨kq, x25_28, rfl, HA, HJ28, BK613, BK629, HI0, HK, HB⟩ := hcut
   cases kq with
   | zero => exact absurd HA.out (by simp [spec_l1Cur_record.j0])
   | succ kj28 =>
    have H := HA.out
    clear HA
    simp only [spec_l1Cur_record.j0] at H
    by_cases c31 : x25_28 = true
    case pos =>
     subst c31
     rw [if_pos rfl] at H
     obtain ⟨⟨t636, t637, t638⟩, A320, H⟩ := Option.bind_eq_some_iff.mp H
     have A32 := a0_ A320
     clear A320
     have H' := a0_ H
     clear H
     go_wp2_with (first | ((with_reducible refine gate_callee (f := 155) rfl ?_); refine goesL_ (some 29) rfl rfl Tryz.func155 (by kernel_rfl) rfl #[.pointer (some ⟨g, 0, none⟩)] rfl argsS_ ?_; (with_reducible refine (spec_l1Cur_target.calls g s0_0 t627 t628 t636 t637 t638 w0 _ ?side1 ?side2 A32.out).mono ?_); (case side1 => exact i117_); (case side2 => exact bq2_); rintro e w33 ⟨rfl, hi, hb, hk⟩; refine ⟨_, rfl, ?_⟩; replace BK613 := a0_ (kk_ BK613 hk NB613_0.out); replace BK629 := a0_ (kk_ BK629 hk NB629_0.out); replace HK := a0_ (kt_ HK hk (.inl rfl)); replace HB := a0_ (hb); replace HI0 := a0_ (hi); clear hb hk hi; have hnb34 := NB629_613.out; have hnc34 := NB613_629.out; have hnb35 := NB629_0.out; have hnc35 := NB0_629.out; obtain ⟨z36_0, z36_1, z36_2, z36_3, q36_0, q36_1, q36_2, q36_3⟩ := bk4_ BK629.out))
     go_meet
     case rel => exact ⟨_, (t637), (t638), (t636), H', ⟨by have := HJ28.out; first | omega | exact Nat.le_refl _⟩, ⟨bz_⟩, ⟨by (with_reducible repeat (first | refine blk_drewN ?_ _ | refine blk_drew ?_ | refine blk_alloc ?_ _)); refine blk_put (cs := #[.string t614, .int .i64 t620, .int .i64 t626, .string (⟨#[]⟩ : ByteArray)]) ?_ 3 _ rfl; (with_reducible repeat (first | refine blk_drewN ?_ _ | refine blk_drew ?_ | refine blk_alloc ?_ _)); exact BK629.out⟩, ⟨i117_⟩, ⟨kq_⟩, ⟨bq2_⟩⟩
    replace c31 := Bool.eq_false_iff.mpr c31
    subst c31
    rw [if_neg (show ¬ (false = true) by decide)] at H
    by_cases c37 : t620 = 6
    case pos =>
     rw [if_pos c37] at H
     have c37b0 := beq_iff_eq.mpr c37
     have c37b1 := bne_eq_false_iff_eq.mpr c37
     clear c37
     obtain ⟨⟨t639, t640, t641⟩, A380, H⟩ := Option.bind_eq_some_iff.mp H
     have A38 := a0_ A380
     clear A380
     obtain ⟨t642, A390, H⟩ := Option.bind_eq_some_iff.mp H
     have A39 := a0_ A390
     clear A390
     have H' := a0_ H
     clear H
     go_wp2_with (first | ((with_reducible refine gate_callee (f := 111) rfl ?_); refine goesL_ (some 34) rfl rfl Tryz.func111 (by kernel_rfl) rfl #[.pointer (some ⟨g, 0, none⟩), .int .i64 20] rfl argsS_ ?_; (with_reducible refine (spec_l1Cur_pick.calls g s0_0 t627 t628 20 t639 t640 t641 w0 _ ?side1 ?side2 A38.out).mono ?_); (case side1 => exact i117_); (case side2 => exact bq2_); rintro e w40 ⟨rfl, hi, hb, hk⟩; refine ⟨_, rfl, ?_⟩; replace BK613 := a0_ (kk_ BK613 hk NB613_0.out); replace BK629 := a0_ (kk_ BK629 hk NB629_0.out); replace HK := a0_ (kt_ HK hk (.inl rfl)); replace HB := a0_ (hb); replace HI0 := a0_ (hi); clear hb hk hi) | ((with_reducible refine gate_callee (f := 52) rfl ?_); refine goesL_ (some 35) rfl rfl Tryz.func52 (by kernel_rfl) rfl #[.int .i64 t639] rfl argsS_ ?_; (with_reducible refine (spec_l1Num.calls kj28 t639 t642 _ A39.out).mono ?_); rintro e w41 ⟨rfl, hb⟩; refine ⟨_, rfl, ?_⟩; have n0_ := a0_ (bkB_ BK613 hb); have n1_ := a0_ (bkB_ BK629 hb); have n2_ := a0_ (IsS117.below i117_ hb); have n3_ := a0_ (kt_ HK (KeepBut.of_below hb g none) (.inl rfl)); have n4_ := a0_ (below_step bq2_ hb); clear BK613; clear BK629; clear HI0; clear HK; clear HB; have BK613 := n0_; have BK629 := n1_; have HI0 := n2_; have HK := n3_; have HB := n4_; clear n0_ n1_ n2_ n3_ n4_; clear hb; have hnb42 := NB629_613.out; have hnc42 := NB613_629.out; have hnb43 := NB629_0.out; have hnc43 := NB0_629.out; obtain ⟨z44_0, z44_1, z44_2, z44_3, q44_0, q44_1, q44_2, q44_3⟩ := bk4_ BK629.out))
     go_meet
     case rel => exact ⟨_, (t640), (t641), (t642), H', ⟨by have := HJ28.out; first | omega | exact Nat.le_refl _⟩, ⟨bz_⟩, ⟨by (with_reducible repeat (first | refine blk_drewN ?_ _ | refine blk_drew ?_ | refine blk_alloc ?_ _)); refine blk_put (cs := #[.string t614, .int .i64 t620, .int .i64 t626, .string (⟨#[]⟩ : ByteArray)]) ?_ 3 _ rfl; (with_reducible repeat (first | refine blk_drewN ?_ _ | refine blk_drew ?_ | refine blk_alloc ?_ _)); exact BK629.out⟩, ⟨i117_⟩, ⟨kq_⟩, ⟨bq2_⟩⟩
    rw [if_neg c37] at H
    have c37b0 := beq_eq_false_iff_ne.mpr c37
    have c37b1 := bne_iff_ne.mpr c37
    by_cases c45 : t620 = 15
    case neg =>
     rw [if_neg c45] at H
     have c45b0 := beq_eq_false_iff_ne.mpr c45
     have c45b1 := bne_iff_ne.mpr c45
     obtain ⟨y650, hy650⟩ : ∃ y_ : List ByteArray, y_ = (([(⟨#[104, 101, 108, 108, 111]⟩ : ByteArray), (⟨#[]⟩ : ByteArray), (⟨#[118, 61, 49, 32, 120]⟩ : ByteArray)] : List ByteArray)) := ⟨_, rfl⟩
     replace H : ((spec_l1Cur_of.f s0_0 t627 t628 y650).bind fun bt653 => (spec_l1Cur_record.j1 kj28 s0_0 bt653.2.1 bt653.2.2 t614 t620 t626 bt653.1)) = some (r1, r2, r3, r4, r5, r6) := by first | (rw [hy650]; with_reducible exact H) | (have H2_ := (Option.bind_some _ _).symm.trans H; rw [hy650]; with_reducible exact H2_) | (have H2_ := (Option.bind_some _ _).symm.trans H; with_reducible exact H2_) | with_reducible exact H | (rw [hy650]; exact H) | exact H
     have Ny650 := a0_ hy650
     clear hy650
     obtain ⟨⟨t653, t654, t655⟩, A570, H⟩ := Option.bind_eq_some_iff.mp H
     have A57 := a0_ A570
     clear A570
     have H' := a0_ H
     clear H
     go_wp2_with (first | ((with_reducible refine gate_dst (N := 16) rfl ?_); refine Kd.R_lit Kd.string _ 9 ?hg (N := 16) ?hd (xs := ([(⟨#[104, 101, 108, 108, 111]⟩ : ByteArray), (⟨#[]⟩ : ByteArray), (⟨#[118, 61, 49, 32, 120]⟩ : ByteArray)] : List ByteArray)) (inner := [.string (⟨#[104, 101, 108, 108, 111]⟩ : ByteArray), .string (⟨#[]⟩ : ByteArray), .string (⟨#[118, 61, 49, 32, 120]⟩ : ByteArray)]) (ok := fun _ => True) (okp := fun _ => True) ?hr ?hp (fun _ hk => hk) trivial (Below.refl _ _) (Nat.le_refl _) (by simp) ?_; (case hd => rfl); (case hg => rfl); (case hr => first | (go_simp; done) | (go_simp; rfl)); (case hp => exact (Reps.one (show Kd.M Kd.string _ _ _ (⟨#[104, 101, 108, 108, 111]⟩ : ByteArray) [.string (⟨#[104, 101, 108, 108, 111]⟩ : ByteArray)] from rfl) (Reps.one (show Kd.M Kd.string _ _ _ (⟨#[]⟩ : ByteArray) [.string (⟨#[]⟩ : ByteArray)] from rfl) (Reps.one (show Kd.M Kd.string _ _ _ (⟨#[118, 61, 49, 32, 120]⟩ : ByteArray) [.string (⟨#[118, 61, 49, 32, 120]⟩ : ByteArray)] from rfl) (Reps.none _ _))))); intro v651 w58 ho59 hb hg_ hnew_; clear hg_ hnew_; (first | rw [← Ny650.out] at ho59 | (simp only [Int.reduceToNat] at ho59; rw [← Ny650.out] at ho59)); have n0_ := a0_ (Kd.R_lower ho59 (keep_size (w := w) (g := g) (row := none) kq_)); have n1_ := a0_ (bkB_ BK613 hb); have n2_ := a0_ (bkB_ BK629 hb); have n3_ := a0_ (IsS117.below i117_ hb); have n4_ := a0_ (kt_ HK (KeepBut.of_below hb g none) (.inl rfl)); have n5_ := a0_ (below_step bq2_ hb); clear BK613; clear BK629; clear HI0; clear HK; clear HB; have HO652 := n0_; have BK613 := n1_; have BK629 := n2_; have HI0 := n3_; have HK := n4_; have HB := n5_; clear n0_ n1_ n2_ n3_ n4_ n5_; clear hb ho59; obtain ⟨Ao60, co60, eo60⟩ := Kd.R_slice HO652.out; subst eo60) | ((with_reducible refine gate_callee (f := 154) rfl ?_); refine goesL_ (some 17) rfl rfl Tryz.func154 (by kernel_rfl) rfl #[.pointer (some ⟨g, 0, none⟩), .slice Ao60 y650.length co60] rfl argsS_ ?_; (with_reducible refine (spec_l1Cur_of.calls g s0_0 t627 t628 _ _ y650 t653 t654 t655 w0 _ ?side1 ?side2 ?side3 ?side4 ?side5 A57.out).mono ?_); (case side1 => exact i117_); (case side2 => exact bq2_); (case side3 => exact kD_ (Kd.R_reads' HO652.out).2.2); (case side4 => exact (Kd.R_reads' HO652.out).2.1); (case side5 => exact far_slice (IsS117.own_ne HI0.out HO652.out (by decide))); rintro e w61 ⟨rfl, hi, hb, hk⟩; refine ⟨_, rfl, ?_⟩; replace BK613 := a0_ (kk_ BK613 hk NB613_0.out); replace BK629 := a0_ (kk_ BK629 hk NB629_0.out); replace HO652 := a0_ (Kd.R_mono (Kd.R_keep (IsS117.apart (show IsS117 w0 _ g s0_0 t627 t628 from i117_) (kR_ HO652.out) (by decide)) hk (fun _ h => h.2)) (fun _ h => h.1)); replace HK := a0_ (kt_ HK hk (.inl rfl)); replace HB := a0_ (hb); replace HI0 := a0_ (hi); clear hb hk hi; have hnb62 := NB629_613.out; have hnc62 := NB613_629.out; have hnb63 := NB629_0.out; have hnc63 := NB0_629.out; obtain ⟨z64_0, z64_1, z64_2, z64_3, q64_0, q64_1, q64_2, q64_3⟩ := bk4_ BK629.out))
     go_meet
     case rel => exact ⟨_, (t654), (t655), (t653), H', ⟨by have := HJ28.out; first | omega | exact Nat.le_refl _⟩, ⟨bz_⟩, ⟨by (with_reducible repeat (first | refine blk_drewN ?_ _ | refine blk_drew ?_ | refine blk_alloc ?_ _)); refine blk_put (cs := #[.string t614, .int .i64 t620, .int .i64 t626, .string (⟨#[]⟩ : ByteArray)]) ?_ 3 _ rfl; (with_reducible repeat (first | refine blk_drewN ?_ _ | refine blk_drew ?_ | refine blk_alloc ?_ _)); exact BK629.out⟩, ⟨i117_⟩, ⟨kq_⟩, ⟨bq2_⟩⟩
    rw [if_pos c45] at H
    have c45b0 := beq_iff_eq.mpr c45
    have c45b1 := bne_eq_false_iff_eq.mpr c45
    clear c45
    obtain ⟨⟨t643, t644, t645⟩, A460, H⟩ := Option.bind_eq_some_iff.mp H
    have A46 := a0_ A460
    clear A460
    obtain ⟨t646, A470, H⟩ := Option.bind_eq_some_iff.mp H
    have A47 := a0_ A470
    clear A470
    by_cases c48 : t646.size + 1 ≤ 9223372036854775807
    case neg =>
     rw [if_neg c48] at H
     exact absurd H (by simp)
    rw [if_pos c48] at H
    have c48b0 := eq_true c48
    have c48b1 := decide_eq_true c48
    try have c48b2 : (9223372036854775807 < t646.size + 1) = False := eq_false (Nat.not_lt.2 c48)
    obtain ⟨⟨t647, t648, t649⟩, A490, H⟩ := Option.bind_eq_some_iff.mp H
    have A49 := a0_ A490
    clear A490
    by_cases c50 : (t646 ++ (⟨#[32]⟩ : ByteArray)).size + t647.size ≤ 9223372036854775807
    case neg =>
     rw [if_neg c50] at H
     exact absurd H (by simp)
    rw [if_pos c50] at H
    have c50b0 := eq_true c50
    have c50b1 := decide_eq_true c50
    have c50b3 : (9223372036854775807 < t646.size + 1 + t647.size) = False := eq_false (by have e_ := c50; rw [ByteArray.size_append, show (⟨#[32]⟩ : ByteArray).size = 1 from rfl] at e_; omega); try have c50b2 : (9223372036854775807 < (t646 ++ (⟨#[32]⟩ : ByteArray)).size + t647.size) = False := eq_false (Nat.not_lt.2 c50)
    have H' := a0_ H
    clear H
    go_wp2_with (first | ((with_reducible refine gate_callee (f := 111) rfl ?_); refine goesL_ (some 40) rfl rfl Tryz.func111 (by kernel_rfl) rfl #[.pointer (some ⟨g, 0, none⟩), .int .i64 30] rfl argsS_ ?_; (with_reducible refine (spec_l1Cur_pick.calls g s0_0 t627 t628 30 t643 t644 t645 w0 _ ?side1 ?side2 A46.out).mono ?_); (case side1 => exact i117_); (case side2 => exact bq2_); rintro e w51 ⟨rfl, hi, hb, hk⟩; refine ⟨_, rfl, ?_⟩; replace BK613 := a0_ (kk_ BK613 hk NB613_0.out); replace BK629 := a0_ (kk_ BK629 hk NB629_0.out); replace HK := a0_ (kt_ HK hk (.inl rfl)); replace HB := a0_ (hb); replace HI0 := a0_ (hi); clear hb hk hi) | ((with_reducible refine gate_callee (f := 52) rfl ?_); refine goesL_ (some 41) rfl rfl Tryz.func52 (by kernel_rfl) rfl #[.int .i64 t643] rfl argsS_ ?_; (with_reducible refine (spec_l1Num.calls kj28 t643 t646 _ A47.out).mono ?_); rintro e w52 ⟨rfl, hb⟩; refine ⟨_, rfl, ?_⟩; have n0_ := a0_ (bkB_ BK613 hb); have n1_ := a0_ (bkB_ BK629 hb); have n2_ := a0_ (IsS117.below i117_ hb); have n3_ := a0_ (kt_ HK (KeepBut.of_below hb g none) (.inl rfl)); have n4_ := a0_ (below_step bq2_ hb); clear BK613; clear BK629; clear HI0; clear HK; clear HB; have BK613 := n0_; have BK629 := n1_; have HI0 := n2_; have HK := n3_; have HB := n4_; clear n0_ n1_ n2_ n3_ n4_; clear hb) | ((with_reducible refine gate_callee (f := 155) rfl ?_); refine goesL_ (some 44) rfl rfl Tryz.func155 (by kernel_rfl) rfl #[.pointer (some ⟨g, 0, none⟩)] rfl argsS_ ?_; (with_reducible refine (spec_l1Cur_target.calls g s0_0 t644 t645 t647 t648 t649 w0 _ ?side1 ?side2 A49.out).mono ?_); (case side1 => exact i117_); (case side2 => exact bq2_); rintro e w53 ⟨rfl, hi, hb, hk⟩; refine ⟨_, rfl, ?_⟩; replace BK613 := a0_ (kk_ BK613 hk NB613_0.out); replace BK629 := a0_ (kk_ BK629 hk NB629_0.out); replace HK := a0_ (kt_ HK hk (.inl rfl)); replace HB := a0_ (hb); replace HI0 := a0_ (hi); clear hb hk hi; have hnb54 := NB629_613.out; have hnc54 := NB613_629.out; have hnb55 := NB629_0.out; have hnc55 := NB0_629.out; obtain ⟨z56_0, z56_1, z56_2, z56_3, q56_0, q56_1, q56_2, q56_3⟩ := bk4_ BK629.out))
    go_meet
    case rel => exact ⟨_, (t648), (t649), ((t646 ++ (⟨#[32]⟩ : ByteArray)) ++ t647), H', ⟨by have := HJ28.out; first | omega | exact Nat.le_refl _⟩, ⟨bz_⟩, ⟨by (with_reducible repeat (first | refine blk_drewN ?_ _ | refine blk_drew ?_ | refine blk_alloc ?_ _)); refine blk_put (cs := #[.string t614, .int .i64 t620, .int .i64 t626, .string (⟨#[]⟩ : ByteArray)]) ?_ 3 _ rfl; (with_reducible repeat (first | refine blk_drewN ?_ _ | refine blk_drew ?_ | refine blk_alloc ?_ _)); exact BK629.out⟩, ⟨i117_⟩, ⟨kq_⟩, ⟨bq2_⟩⟩
 case rest =>
  clear HC5
  try clear c20
  try clear c20b0
  try clear c20b1
  try clear z19_0 z19_1 z19_2 z19_3
  try clear q19_0 q19_1 q19_2 q19_3
  obtain ⟨kq, x1001_4, x1002_4, x630003_4, HA, HJ4, BK613, BK629, HI0, HK, HB⟩ := hcut
  cases kq with
  | zero => exact absurd HA.out (by simp [spec_l1Cur_record.j1])
  | succ kj4 =>
   have H := HA.out
   clear HA
   simp only [spec_l1Cur_record.j1] at H
   obtain ⟨⟨t656, t657, t658⟩, A650, H⟩ := Option.bind_eq_some_iff.mp H
   have A65 := a0_ A650
   clear A650
   by_cases c66 : t656 = 0
   case pos =>
    rw [if_pos c66] at H
    have c66b0 := beq_iff_eq.mpr c66
    have c66b1 := bne_eq_false_iff_eq.mpr c66
    clear c66
    obtain ⟨y659, hy659⟩ : ∃ y_ : List Int, y_ = (([(-1), 0, 100000, 100001] : List Int)) := ⟨_, rfl⟩
    replace H : ((spec_l1Cur_among.f s0_0 t657 t658 y659).bind fun bt662 => (some (t614, t620, bt662.1, x630003_4, bt662.2.1, bt662.2.2))) = some (r1, r2, r3, r4, r5, r6) := by first | (rw [hy659]; with_reducible exact H) | (have H2_ := (Option.bind_some _ _).symm.trans H; rw [hy659]; with_reducible exact H2_) | (have H2_ := (Option.bind_some _ _).symm.trans H; with_reducible exact H2_) | with_reducible exact H | (rw [hy659]; exact H) | exact H
    have Ny659 := a0_ hy659
    clear hy659
    obtain ⟨⟨t662, t663, t664⟩, A670, H⟩ := Option.bind_eq_some_iff.mp H
    have A67 := a0_ A670
    clear A670
    simp only [Option.some.injEq, Prod.mk.injEq] at H
    obtain ⟨rfl, rfl, rfl, rfl, rfl, rfl⟩ := H
    go_wp2_with (first | ((with_reducible refine gate_callee (f := 111) rfl ?_); refine goesL_ (some 48) rfl rfl Tryz.func111 (by kernel_rfl) rfl #[.pointer (some ⟨g, 0, none⟩), .int .i64 40] rfl argsS_ ?_; (with_reducible refine (spec_l1Cur_pick.calls g s0_0 x1001_4 x1002_4 40 t656 t657 t658 w0 _ ?side1 ?side2 A65.out).mono ?_); (case side1 => exact i117_); (case side2 => exact bq2_); rintro e w68 ⟨rfl, hi, hb, hk⟩; refine ⟨_, rfl, ?_⟩; replace BK613 := a0_ (kk_ BK613 hk NB613_0.out); replace BK629 := a0_ (kk_ BK629 hk NB629_0.out); replace HK := a0_ (kt_ HK hk (.inl rfl)); replace HB := a0_ (hb); replace HI0 := a0_ (hi); clear hb hk hi) | ((with_reducible refine gate_dst (N := 52) rfl ?_); refine Kd.R_lit (Kd.int .i64) _ 3 ?hg (N := 52) ?hd (xs := ([(-1), 0, 100000, 100001] : List Int)) (inner := [.int .i64 (-1), .int .i64 0, .int .i64 100000, .int .i64 100001]) (ok := fun _ => True) (okp := fun _ => True) ?hr ?hp (fun _ hk => hk) trivial (Below.refl _ _) (Nat.le_refl _) (by simp) ?_; (case hd => rfl); (case hg => rfl); (case hr => first | (go_simp; done) | (go_simp; rfl)); (case hp => exact (Reps.one (show Kd.M (Kd.int .i64) _ _ _ (-1) [.int .i64 (-1)] from rfl) (Reps.one (show Kd.M (Kd.int .i64) _ _ _ 0 [.int .i64 0] from rfl) (Reps.one (show Kd.M (Kd.int .i64) _ _ _ 100000 [.int .i64 100000] from rfl) (Reps.one (show Kd.M (Kd.int .i64) _ _ _ 100001 [.int .i64 100001] from rfl) (Reps.none _ _)))))); intro v660 w69 ho70 hb hg_ hnew_; clear hg_ hnew_; (first | rw [← Ny659.out] at ho70 | (simp only [Int.reduceToNat] at ho70; rw [← Ny659.out] at ho70)); have n0_ := a0_ (Kd.R_lower ho70 (keep_size (w := w) (g := g) (row := none) kq_)); have n1_ := a0_ (bkB_ BK613 hb); have n2_ := a0_ (bkB_ BK629 hb); have n3_ := a0_ (IsS117.below i117_ hb); have n4_ := a0_ (kt_ HK (KeepBut.of_below hb g none) (.inl rfl)); have n5_ := a0_ (below_step bq2_ hb); clear BK613; clear BK629; clear HI0; clear HK; clear HB; have HO661 := n0_; have BK613 := n1_; have BK629 := n2_; have HI0 := n3_; have HK := n4_; have HB := n5_; clear n0_ n1_ n2_ n3_ n4_ n5_; clear hb ho70; obtain ⟨Ao71, co71, eo71⟩ := Kd.R_slice HO661.out; subst eo71) | ((with_reducible refine gate_callee (f := 114) rfl ?_); refine goesL_ (some 53) rfl rfl Tryz.func114 (by kernel_rfl) rfl #[.pointer (some ⟨g, 0, none⟩), .slice Ao71 y659.length co71] rfl argsS_ ?_; (with_reducible refine (spec_l1Cur_among.calls g s0_0 t657 t658 _ _ y659 t662 t663 t664 w0 _ ?side1 ?side2 ?side3 ?side4 ?side5 A67.out).mono ?_); (case side1 => exact i117_); (case side2 => exact bq2_); (case side3 => exact kD_ (Kd.R_reads' HO661.out).2.2); (case side4 => exact (Kd.R_reads' HO661.out).2.1); (case side5 => exact far_slice (IsS117.own_ne HI0.out HO661.out (by decide))); rintro e w72 ⟨rfl, hi, hb, hk⟩; refine ⟨_, rfl, ?_⟩; replace BK613 := a0_ (kk_ BK613 hk NB613_0.out); replace BK629 := a0_ (kk_ BK629 hk NB629_0.out); replace HO661 := a0_ (Kd.R_mono (Kd.R_keep (IsS117.apart (show IsS117 w0 _ g s0_0 t657 t658 from i117_) (kR_ HO661.out) (by decide)) hk (fun _ h => h.2)) (fun _ h => h.1)); replace HK := a0_ (kt_ HK hk (.inl rfl)); replace HB := a0_ (hb); replace HI0 := a0_ (hi); clear hb hk hi; have hnb73 := NB629_613.out; have hnc73 := NB613_629.out; have hnb74 := NB629_0.out; have hnc74 := NB0_629.out; obtain ⟨z75_0, z75_1, z75_2, z75_3, q75_0, q75_1, q75_2, q75_3⟩ := bk4_ BK629.out; have hnb76 := NB613_0.out; have hnc76 := NB0_613.out; obtain ⟨z77_0, z77_1, z77_2, z77_3, q77_0, q77_1, q77_2, q77_3⟩ := bk4_ BK613.out))
    refine bodyPost_ret (results_cell_row rfl _ _ gb613 45 #[.string t614, .int .i64 t620, .int .i64 t662, .string x630003_4] (0, 0) _ rfl (by (with_reducible repeat (first | refine blk_drewN ?_ _ | refine blk_drew ?_ | refine blk_alloc ?_ _)); refine blk_put (cs := #[.string t614, .int .i64 t620, .int .i64 t662, .string (⟨#[]⟩ : ByteArray)]) ?_ 3 _ rfl; (with_reducible repeat (first | refine blk_drewN ?_ _ | refine blk_drew ?_ | refine blk_alloc ?_ _)); refine blk_put (cs := #[.string t614, .int .i64 t620, .int .i64 0, .string (⟨#[]⟩ : ByteArray)]) ?_ 2 _ rfl; (with_reducible repeat (first | refine blk_drewN ?_ _ | refine blk_drew ?_ | refine blk_alloc ?_ _)); refine blk_put (cs := #[.string t614, .int .i64 0, .int .i64 0, .string (⟨#[]⟩ : ByteArray)]) ?_ 1 _ rfl; (with_reducible repeat (first | refine blk_drewN ?_ _ | refine blk_drew ?_ | refine blk_alloc ?_ _)); refine blk_put (cs := #[.string (⟨#[]⟩ : ByteArray), .int .i64 0, .int .i64 0, .string (⟨#[]⟩ : ByteArray)]) ?_ 0 _ rfl; (with_reducible repeat (first | refine blk_drewN ?_ _ | refine blk_drew ?_ | refine blk_alloc ?_ _)); refine blk_far ?_ NB613_629.out _; (with_reducible repeat (first | refine blk_drewN ?_ _ | refine blk_drew ?_ | refine blk_alloc ?_ _)); exact BK613.out) Tryz.underlying45 rfl (by kernel_rfl)) rfl ?_
    exact ⟨rr_, i117_, bq2_, kq_⟩
   rw [if_neg c66] at H
   have c66b0 := beq_eq_false_iff_ne.mpr c66
   have c66b1 := bne_iff_ne.mpr c66
   by_cases c78 : t656 = 1
   case pos =>
    rw [if_pos c78] at H
    have c78b0 := beq_iff_eq.mpr c78
    have c78b1 := bne_eq_false_iff_eq.mpr c78
    clear c78
    obtain ⟨y665, hy665⟩ : ∃ y_ : List ByteArray, y_ = (([(⟨#[49, 46, 50, 46, 51]⟩ : ByteArray), (⟨#[50, 53, 54, 46, 49, 46, 49, 46, 49]⟩ : ByteArray), (⟨#[42]⟩ : ByteArray), (⟨#[52, 50, 57, 52, 57, 54, 55, 50, 57, 53]⟩ : ByteArray), (⟨#[52, 50, 57, 52, 57, 54, 55, 50, 57, 54]⟩ : ByteArray), (⟨#[55, 48, 48, 48, 48, 32, 97, 46, 98]⟩ : ByteArray), (⟨#[48, 49, 46, 50, 46, 51, 46, 52]⟩ : ByteArray), (⟨#[1]⟩ : ByteArray)] : List ByteArray)) := ⟨_, rfl⟩
    replace H : ((spec_l1Cur_of.f s0_0 t657 t658 y665).bind fun bt668 => (some (t614, t620, t626, bt668.1, bt668.2.1, bt668.2.2))) = some (r1, r2, r3, r4, r5, r6) := by first | (rw [hy665]; with_reducible exact H) | (have H2_ := (Option.bind_some _ _).symm.trans H; rw [hy665]; with_reducible exact H2_) | (have H2_ := (Option.bind_some _ _).symm.trans H; with_reducible exact H2_) | with_reducible exact H | (rw [hy665]; exact H) | exact H
    have Ny665 := a0_ hy665
    clear hy665
    obtain ⟨⟨t668, t669, t670⟩, A790, H⟩ := Option.bind_eq_some_iff.mp H
    have A79 := a0_ A790
    clear A790
    simp only [Option.some.injEq, Prod.mk.injEq] at H
    obtain ⟨rfl, rfl, rfl, rfl, rfl, rfl⟩ := H
    go_wp2_with (first | ((with_reducible refine gate_callee (f := 111) rfl ?_); refine goesL_ (some 48) rfl rfl Tryz.func111 (by kernel_rfl) rfl #[.pointer (some ⟨g, 0, none⟩), .int .i64 40] rfl argsS_ ?_; (with_reducible refine (spec_l1Cur_pick.calls g s0_0 x1001_4 x1002_4 40 t656 t657 t658 w0 _ ?side1 ?side2 A65.out).mono ?_); (case side1 => exact i117_); (case side2 => exact bq2_); rintro e w80 ⟨rfl, hi, hb, hk⟩; refine ⟨_, rfl, ?_⟩; replace BK613 := a0_ (kk_ BK613 hk NB613_0.out); replace BK629 := a0_ (kk_ BK629 hk NB629_0.out); replace HK := a0_ (kt_ HK hk (.inl rfl)); replace HB := a0_ (hb); replace HI0 := a0_ (hi); clear hb hk hi) | ((with_reducible refine gate_dst (N := 58) rfl ?_); refine Kd.R_lit Kd.string _ 9 ?hg (N := 58) ?hd (xs := ([(⟨#[49, 46, 50, 46, 51]⟩ : ByteArray), (⟨#[50, 53, 54, 46, 49, 46, 49, 46, 49]⟩ : ByteArray), (⟨#[42]⟩ : ByteArray), (⟨#[52, 50, 57, 52, 57, 54, 55, 50, 57, 53]⟩ : ByteArray), (⟨#[52, 50, 57, 52, 57, 54, 55, 50, 57, 54]⟩ : ByteArray), (⟨#[55, 48, 48, 48, 48, 32, 97, 46, 98]⟩ : ByteArray), (⟨#[48, 49, 46, 50, 46, 51, 46, 52]⟩ : ByteArray), (⟨#[1]⟩ : ByteArray)] : List ByteArray)) (inner := [.string (⟨#[49, 46, 50, 46, 51]⟩ : ByteArray), .string (⟨#[50, 53, 54, 46, 49, 46, 49, 46, 49]⟩ : ByteArray), .string (⟨#[42]⟩ : ByteArray), .string (⟨#[52, 50, 57, 52, 57, 54, 55, 50, 57, 53]⟩ : ByteArray), .string (⟨#[52, 50, 57, 52, 57, 54, 55, 50, 57, 54]⟩ : ByteArray), .string (⟨#[55, 48, 48, 48, 48, 32, 97, 46, 98]⟩ : ByteArray), .string (⟨#[48, 49, 46, 50, 46, 51, 46, 52]⟩ : ByteArray), .string (⟨#[1]⟩ : ByteArray)]) (ok := fun _ => True) (okp := fun _ => True) ?hr ?hp (fun _ hk => hk) trivial (Below.refl _ _) (Nat.le_refl _) (by simp) ?_; (case hd => rfl); (case hg => rfl); (case hr => first | (go_simp; done) | (go_simp; rfl)); (case hp => exact (Reps.one (show Kd.M Kd.string _ _ _ (⟨#[49, 46, 50, 46, 51]⟩ : ByteArray) [.string (⟨#[49, 46, 50, 46, 51]⟩ : ByteArray)] from rfl) (Reps.one (show Kd.M Kd.string _ _ _ (⟨#[50, 53, 54, 46, 49, 46, 49, 46, 49]⟩ : ByteArray) [.string (⟨#[50, 53, 54, 46, 49, 46, 49, 46, 49]⟩ : ByteArray)] from rfl) (Reps.one (show Kd.M Kd.string _ _ _ (⟨#[42]⟩ : ByteArray) [.string (⟨#[42]⟩ : ByteArray)] from rfl) (Reps.one (show Kd.M Kd.string _ _ _ (⟨#[52, 50, 57, 52, 57, 54, 55, 50, 57, 53]⟩ : ByteArray) [.string (⟨#[52, 50, 57, 52, 57, 54, 55, 50, 57, 53]⟩ : ByteArray)] from rfl) (Reps.one (show Kd.M Kd.string _ _ _ (⟨#[52, 50, 57, 52, 57, 54, 55, 50, 57, 54]⟩ : ByteArray) [.string (⟨#[52, 50, 57, 52, 57, 54, 55, 50, 57, 54]⟩ : ByteArray)] from rfl) (Reps.one (show Kd.M Kd.string _ _ _ (⟨#[55, 48, 48, 48, 48, 32, 97, 46, 98]⟩ : ByteArray) [.string (⟨#[55, 48, 48, 48, 48, 32, 97, 46, 98]⟩ : ByteArray)] from rfl) (Reps.one (show Kd.M Kd.string _ _ _ (⟨#[48, 49, 46, 50, 46, 51, 46, 52]⟩ : ByteArray) [.string (⟨#[48, 49, 46, 50, 46, 51, 46, 52]⟩ : ByteArray)] from rfl) (Reps.one (show Kd.M Kd.string _ _ _ (⟨#[1]⟩ : ByteArray) [.string (⟨#[1]⟩ : ByteArray)] from rfl) (Reps.none _ _)))))))))); intro v666 w81 ho82 hb hg_ hnew_; clear hg_ hnew_; (first | rw [← Ny665.out] at ho82 | (simp only [Int.reduceToNat] at ho82; rw [← Ny665.out] at ho82)); have n0_ := a0_ (Kd.R_lower ho82 (keep_size (w := w) (g := g) (row := none) kq_)); have n1_ := a0_ (bkB_ BK613 hb); have n2_ := a0_ (bkB_ BK629 hb); have n3_ := a0_ (IsS117.below i117_ hb); have n4_ := a0_ (kt_ HK (KeepBut.of_below hb g none) (.inl rfl)); have n5_ := a0_ (below_step bq2_ hb); clear BK613; clear BK629; clear HI0; clear HK; clear HB; have HO667 := n0_; have BK613 := n1_; have BK629 := n2_; have HI0 := n3_; have HK := n4_; have HB := n5_; clear n0_ n1_ n2_ n3_ n4_ n5_; clear hb ho82; obtain ⟨Ao83, co83, eo83⟩ := Kd.R_slice HO667.out; subst eo83) | ((with_reducible refine gate_callee (f := 154) rfl ?_); refine goesL_ (some 59) rfl rfl Tryz.func154 (by kernel_rfl) rfl #[.pointer (some ⟨g, 0, none⟩), .slice Ao83 y665.length co83] rfl argsS_ ?_; (with_reducible refine (spec_l1Cur_of.calls g s0_0 t657 t658 _ _ y665 t668 t669 t670 w0 _ ?side1 ?side2 ?side3 ?side4 ?side5 A79.out).mono ?_); (case side1 => exact i117_); (case side2 => exact bq2_); (case side3 => exact kD_ (Kd.R_reads' HO667.out).2.2); (case side4 => exact (Kd.R_reads' HO667.out).2.1); (case side5 => exact far_slice (IsS117.own_ne HI0.out HO667.out (by decide))); rintro e w84 ⟨rfl, hi, hb, hk⟩; refine ⟨_, rfl, ?_⟩; replace BK613 := a0_ (kk_ BK613 hk NB613_0.out); replace BK629 := a0_ (kk_ BK629 hk NB629_0.out); replace HO667 := a0_ (Kd.R_mono (Kd.R_keep (IsS117.apart (show IsS117 w0 _ g s0_0 t657 t658 from i117_) (kR_ HO667.out) (by decide)) hk (fun _ h => h.2)) (fun _ h => h.1)); replace HK := a0_ (kt_ HK hk (.inl rfl)); replace HB := a0_ (hb); replace HI0 := a0_ (hi); clear hb hk hi; have hnb85 := NB629_613.out; have hnc85 := NB613_629.out; have hnb86 := NB629_0.out; have hnc86 := NB0_629.out; obtain ⟨z87_0, z87_1, z87_2, z87_3, q87_0, q87_1, q87_2, q87_3⟩ := bk4_ BK629.out; have hnb88 := NB613_0.out; have hnc88 := NB0_613.out; obtain ⟨z89_0, z89_1, z89_2, z89_3, q89_0, q89_1, q89_2, q89_3⟩ := bk4_ BK613.out))
    refine bodyPost_ret (results_cell_row rfl _ _ gb613 45 #[.string t614, .int .i64 t620, .int .i64 t626, .string t668] (0, 0) _ rfl (by (with_reducible repeat (first | refine blk_drewN ?_ _ | refine blk_drew ?_ | refine blk_alloc ?_ _)); refine blk_put (cs := #[.string t614, .int .i64 t620, .int .i64 t626, .string (⟨#[]⟩ : ByteArray)]) ?_ 3 _ rfl; (with_reducible repeat (first | refine blk_drewN ?_ _ | refine blk_drew ?_ | refine blk_alloc ?_ _)); refine blk_put (cs := #[.string t614, .int .i64 t620, .int .i64 0, .string (⟨#[]⟩ : ByteArray)]) ?_ 2 _ rfl; (with_reducible repeat (first | refine blk_drewN ?_ _ | refine blk_drew ?_ | refine blk_alloc ?_ _)); refine blk_put (cs := #[.string t614, .int .i64 0, .int .i64 0, .string (⟨#[]⟩ : ByteArray)]) ?_ 1 _ rfl; (with_reducible repeat (first | refine blk_drewN ?_ _ | refine blk_drew ?_ | refine blk_alloc ?_ _)); refine blk_put (cs := #[.string (⟨#[]⟩ : ByteArray), .int .i64 0, .int .i64 0, .string (⟨#[]⟩ : ByteArray)]) ?_ 0 _ rfl; (with_reducible repeat (first | refine blk_drewN ?_ _ | refine blk_drew ?_ | refine blk_alloc ?_ _)); refine blk_far ?_ NB613_629.out _; (with_reducible repeat (first | refine blk_drewN ?_ _ | refine blk_drew ?_ | refine blk_alloc ?_ _)); exact BK613.out) Tryz.underlying45 rfl (by kernel_rfl)) rfl ?_
    exact ⟨rr_, i117_, bq2_, kq_⟩
   rw [if_neg c78] at H
   have c78b0 := beq_eq_false_iff_ne.mpr c78
   have c78b1 := bne_iff_ne.mpr c78
   by_cases c90 : t656 = 2
   case neg =>
    rw [if_neg c90] at H
    have c90b0 := beq_eq_false_iff_ne.mpr c90
    have c90b1 := bne_iff_ne.mpr c90
    simp only [Option.some.injEq, Prod.mk.injEq] at H
    obtain ⟨rfl, rfl, rfl, rfl, rfl, rfl⟩ := H
    go_wp2_with (first | ((with_reducible refine gate_callee (f := 111) rfl ?_); refine goesL_ (some 48) rfl rfl Tryz.func111 (by kernel_rfl) rfl #[.pointer (some ⟨g, 0, none⟩), .int .i64 40] rfl argsS_ ?_; (with_reducible refine (spec_l1Cur_pick.calls g s0_0 x1001_4 x1002_4 40 t656 t657 t658 w0 _ ?side1 ?side2 A65.out).mono ?_); (case side1 => exact i117_); (case side2 => exact bq2_); rintro e w99 ⟨rfl, hi, hb, hk⟩; refine ⟨_, rfl, ?_⟩; replace BK613 := a0_ (kk_ BK613 hk NB613_0.out); replace BK629 := a0_ (kk_ BK629 hk NB629_0.out); replace HK := a0_ (kt_ HK hk (.inl rfl)); replace HB := a0_ (hb); replace HI0 := a0_ (hi); clear hb hk hi; have hnb100 := NB629_613.out; have hnc100 := NB613_629.out; have hnb101 := NB629_0.out; have hnc101 := NB0_629.out; obtain ⟨z102_0, z102_1, z102_2, z102_3, q102_0, q102_1, q102_2, q102_3⟩ := bk4_ BK629.out; have hnb103 := NB613_0.out; have hnc103 := NB0_613.out; obtain ⟨z104_0, z104_1, z104_2, z104_3, q104_0, q104_1, q104_2, q104_3⟩ := bk4_ BK613.out))
    refine bodyPost_ret (results_cell_row rfl _ _ gb613 45 #[.string t614, .int .i64 t620, .int .i64 t626, .string x630003_4] (0, 0) _ rfl (put4_ BK613.out) Tryz.underlying45 rfl (by kernel_rfl)) rfl ?_
    exact ⟨rr_, i117_, bq2_, kq_⟩
   rw [if_pos c90] at H
   have c90b0 := beq_iff_eq.mpr c90
   have c90b1 := bne_eq_false_iff_eq.mpr c90
   clear c90
   obtain ⟨⟨t671, t672, t673⟩, A910, H⟩ := Option.bind_eq_some_iff.mp H
   have A91 := a0_ A910
   clear A910
   simp only [Option.some.injEq, Prod.mk.injEq] at H
   obtain ⟨rfl, rfl, rfl, rfl, rfl, rfl⟩ := H
   go_wp2_with (first | ((with_reducible refine gate_callee (f := 111) rfl ?_); refine goesL_ (some 48) rfl rfl Tryz.func111 (by kernel_rfl) rfl #[.pointer (some ⟨g, 0, none⟩), .int .i64 40] rfl argsS_ ?_; (with_reducible refine (spec_l1Cur_pick.calls g s0_0 x1001_4 x1002_4 40 t656 t657 t658 w0 _ ?side1 ?side2 A65.out).mono ?_); (case side1 => exact i117_); (case side2 => exact bq2_); rintro e w92 ⟨rfl, hi, hb, hk⟩; refine ⟨_, rfl, ?_⟩; replace BK613 := a0_ (kk_ BK613 hk NB613_0.out); replace BK629 := a0_ (kk_ BK629 hk NB629_0.out); replace HK := a0_ (kt_ HK hk (.inl rfl)); replace HB := a0_ (hb); replace HI0 := a0_ (hi); clear hb hk hi) | ((with_reducible refine gate_callee (f := 111) rfl ?_); refine goesL_ (some 64) rfl rfl Tryz.func111 (by kernel_rfl) rfl #[.pointer (some ⟨g, 0, none⟩), .int .i64 20] rfl argsS_ ?_; (with_reducible refine (spec_l1Cur_pick.calls g s0_0 t657 t658 20 t671 t672 t673 w0 _ ?side1 ?side2 A91.out).mono ?_); (case side1 => exact i117_); (case side2 => exact bq2_); rintro e w93 ⟨rfl, hi, hb, hk⟩; refine ⟨_, rfl, ?_⟩; replace BK613 := a0_ (kk_ BK613 hk NB613_0.out); replace BK629 := a0_ (kk_ BK629 hk NB629_0.out); replace HK := a0_ (kt_ HK hk (.inl rfl)); replace HB := a0_ (hb); replace HI0 := a0_ (hi); clear hb hk hi; have hnb94 := NB629_613.out; have hnc94 := NB613_629.out; have hnb95 := NB629_0.out; have hnc95 := NB0_629.out; obtain ⟨z96_0, z96_1, z96_2, z96_3, q96_0, q96_1, q96_2, q96_3⟩ := bk4_ BK629.out; have hnb97 := NB613_0.out; have hnc97 := NB0_613.out; obtain ⟨z98_0, z98_1, z98_2, z98_3, q98_0, q98_1, q98_2, q98_3⟩ := bk4_ BK613.out))
   refine bodyPost_ret (results_cell_row rfl _ _ gb613 45 #[.string t614, .int .i64 t671, .int .i64 t626, .string x630003_4] (0, 0) _ rfl (by (with_reducible repeat (first | refine blk_drewN ?_ _ | refine blk_drew ?_ | refine blk_alloc ?_ _)); refine blk_put (cs := #[.string t614, .int .i64 t671, .int .i64 t626, .string (⟨#[]⟩ : ByteArray)]) ?_ 3 _ rfl; (with_reducible repeat (first | refine blk_drewN ?_ _ | refine blk_drew ?_ | refine blk_alloc ?_ _)); refine blk_put (cs := #[.string t614, .int .i64 t671, .int .i64 0, .string (⟨#[]⟩ : ByteArray)]) ?_ 2 _ rfl; (with_reducible repeat (first | refine blk_drewN ?_ _ | refine blk_drew ?_ | refine blk_alloc ?_ _)); refine blk_put (cs := #[.string t614, .int .i64 0, .int .i64 0, .string (⟨#[]⟩ : ByteArray)]) ?_ 1 _ rfl; (with_reducible repeat (first | refine blk_drewN ?_ _ | refine blk_drew ?_ | refine blk_alloc ?_ _)); refine blk_put (cs := #[.string (⟨#[]⟩ : ByteArray), .int .i64 0, .int .i64 0, .string (⟨#[]⟩ : ByteArray)]) ?_ 0 _ rfl; (with_reducible repeat (first | refine blk_drewN ?_ _ | refine blk_drew ?_ | refine blk_alloc ?_ _)); refine blk_far ?_ NB613_629.out _; (with_reducible repeat (first | refine blk_drewN ?_ _ | refine blk_drew ?_ | refine blk_alloc ?_ _)); exact BK613.out) Tryz.underlying45 rfl (by kernel_rfl)) rfl ?_
   exact ⟨rr_, i117_, bq2_, kq_⟩
end Go.Proofs.YtiegkjimpclmaaaGreatDoor.P
