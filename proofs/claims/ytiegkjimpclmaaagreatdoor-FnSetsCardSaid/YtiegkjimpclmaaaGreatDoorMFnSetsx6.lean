/- FnSets: part 7 of 15 of my texts for this claim, joined; the theorem stands in the last. Conditions: none beyond the statement's. -/
import Derived.Test.YtiegkjimpclmaaaGreatDoorMFnSetsx5
open Go.RowKit Go.Proofs.YtiegkjimpclmaaaGreatDoorW.PrintWords Go.Proofs.YtiegkjimpclmaaaGreatDoorW.PrintLast Go.Proofs.YtiegkjimpclmaaaGreatDoorW.PrintMore
set_option linter.unusedVariables false
set_option linter.unusedSimpArgs false
set_option maxHeartbeats 8000000
set_option maxRecDepth 100000
namespace Go.Proofs.YtiegkjimpclmaaaGreatDoor.P
attribute [local go_sem] max2_int min2_int max_two min_two max_three min_three max_four min_four
mutual
def spec_l1Cur_record.j1 : Nat → List Int → Int → Int → ByteArray → Int → Int → ByteArray → Option (ByteArray × Int × Int × ByteArray × Int × Int)
 | 0, _, _, _, _, _, _, _ => none
 | k + 1, x1000, x1001, x1002, x663000, x663001, x663002, x663003 => (spec_l1Cur_pick.f x1000 x1001 x1002 40).bind fun bt689 => (if bt689.1 = 0 then ((spec_l1Cur_among.f x1000 bt689.2.1 bt689.2.2 (([(-1), 0, 100000, 100001] : List Int))).bind fun bt695 => (some (x663000, x663001, bt695.1, x663003, bt695.2.1, bt695.2.2))) else (if bt689.1 = 1 then ((spec_l1Cur_of.f x1000 bt689.2.1 bt689.2.2 (([⟨#[49, 46, 50, 46, 51]⟩, ⟨#[50, 53, 54, 46, 49, 46, 49, 46, 49]⟩, ⟨#[42]⟩, ⟨#[52, 50, 57, 52, 57, 54, 55, 50, 57, 53]⟩, ⟨#[52, 50, 57, 52, 57, 54, 55, 50, 57, 54]⟩, ⟨#[55, 48, 48, 48, 48, 32, 97, 46, 98]⟩, ⟨#[48, 49, 46, 50, 46, 51, 46, 52]⟩, ⟨#[1]⟩] : List ByteArray))).bind fun bt701 => (some (x663000, x663001, x663002, bt701.1, bt701.2.1, bt701.2.2))) else (if bt689.1 = 2 then ((spec_l1Cur_pick.f x1000 bt689.2.1 bt689.2.2 20).bind fun bt704 => (some (x663000, bt704.1, x663002, x663003, bt704.2.1, bt704.2.2))) else (some (x663000, x663001, x663002, x663003, bt689.2.1, bt689.2.2)))))
def spec_l1Cur_record.j0 : Nat → Int → Bool → List Int → Int → Int → ByteArray → Int → Int → ByteArray → Option (ByteArray × Int × Int × ByteArray × Int × Int)
 | 0, _, _, _, _, _, _, _, _, _ => none
 | k + 1, x14, x25, x1000, x1001, x1002, x663000, x663001, x663002, x663003 => if x25 = true then ((spec_l1Cur_target.f x1000 x1001 x1002).bind fun bt669 => (spec_l1Cur_record.j1 k x1000 bt669.2.1 bt669.2.2 x663000 x663001 x663002 bt669.1)) else (if x14 = 6 then ((spec_l1Cur_pick.f x1000 x1001 x1002 20).bind fun bt672 => ((spec_l1Num.f k bt672.1).bind fun t675 => (spec_l1Cur_record.j1 k x1000 bt672.2.1 bt672.2.2 x663000 x663001 x663002 t675))) else (if x14 = 15 then ((spec_l1Cur_pick.f x1000 x1001 x1002 30).bind fun bt676 => ((spec_l1Num.f k bt676.1).bind fun t679 => (if t679.size + 1 ≤ 9223372036854775807 then ((spec_l1Cur_target.f x1000 bt676.2.1 bt676.2.2).bind fun bt680 => (if (t679 ++ (⟨#[32]⟩ : ByteArray)).size + bt680.1.size ≤ 9223372036854775807 then (spec_l1Cur_record.j1 k x1000 bt680.2.1 bt680.2.2 x663000 x663001 x663002 ((t679 ++ (⟨#[32]⟩ : ByteArray)) ++ bt680.1)) else (none))) else (none)))) else ((spec_l1Cur_of.f x1000 x1001 x1002 (([⟨#[104, 101, 108, 108, 111]⟩, ⟨#[]⟩, ⟨#[118, 61, 49, 32, 120]⟩] : List ByteArray))).bind fun bt686 => (spec_l1Cur_record.j1 k x1000 bt686.2.1 bt686.2.2 x663000 x663001 x663002 bt686.1))))
end
def spec_l1Cur_record.f (k : Nat) (s0_0 : List Int) (s0_1 : Int) (s0_2 : Int) : Option (ByteArray × Int × Int × ByteArray × Int × Int) := (spec_l1Cur_name.f k s0_0 s0_1 s0_2).bind fun bt647 => ((spec_l1Cur_among.f s0_0 bt647.2.1 bt647.2.2 (([1, 1, 1, 2, 5, 15, 16, 6] : List Int))).bind fun bt653 => ((spec_l1Cur_among.f s0_0 bt653.2.1 bt653.2.2 (([5, 60, 60, 300] : List Int))).bind fun bt659 => (if bt653.1 = 1 then ((spec_l1Cur_of.f s0_0 bt659.2.1 bt659.2.2 (([⟨#[49, 46, 50, 46, 51, 46, 52]⟩, ⟨#[49, 46, 50, 46, 51, 46, 53]⟩, ⟨#[49, 48, 46, 48, 46, 48, 46, 49]⟩, ⟨#[57, 46, 57, 46, 57, 46, 57]⟩] : List ByteArray))).bind fun bt666 => (spec_l1Cur_record.j1 k s0_0 bt666.2.1 bt666.2.2 bt647.1 bt653.1 bt659.1 bt666.1)) else (if bt653.1 = 2 then (spec_l1Cur_record.j0 k bt653.1 (bt653.1 == 2) s0_0 bt659.2.1 bt659.2.2 bt647.1 bt653.1 bt659.1 (⟨#[]⟩ : ByteArray)) else (spec_l1Cur_record.j0 k bt653.1 (bt653.1 == 5) s0_0 bt659.2.1 bt659.2.2 bt647.1 bt653.1 bt659.1 (⟨#[]⟩ : ByteArray))))))
theorem spec_l1Cur_record.calls (k : Nat) (g : Nat) (s0_0 : List Int) (s0_1 : Int) (s0_2 : Int) (r1 : ByteArray) (r2 : Int) (r3 : Int) (r4 : ByteArray) (r5 : Int) (r6 : Int) (w0 w : World) (hI : IsS117 w0 w g s0_0 s0_1 s0_2) (hB : Below w0.heap.size w0 w) (h : spec_l1Cur_record.f k s0_0 s0_1 s0_2 = some (r1, r2, r3, r4, r5, r6)) :
 Calls Tryz.prog 97 #[.pointer (some ⟨g, 0, none⟩)] w fun e w' => e = .returned (.agg #[.string r1, .int .i64 r2, .int .i64 r3, .string r4]) ∧ IsS117 w0 w' g s0_0 r5 r6 ∧ Below w0.heap.size w0 w' ∧ KeepBut w w' g none := by
 have hu45 := Tryz.underlying45
 have HI0 := a0_ hI
 have HK := a0_ (KeepBut.refl w g none)
 have HL := a0_ hB.size
 clear hI
 have HW0 := a0_ hB.size
 have HB := a0_ hB
 clear hB
 have H := h
 clear h
 unfold spec_l1Cur_record.f at H
 obtain ⟨⟨t647, t648, t649⟩, A2, H⟩ := ob_ H
 obtain ⟨y650, hy650⟩ : ∃ y_ : List Int, y_ = (([1, 1, 1, 2, 5, 15, 16, 6] : List Int)) := ⟨_, rfl⟩
 rw [← hy650] at H
 have Ny650 := a0_ hy650
 clear hy650
 obtain ⟨⟨t653, t654, t655⟩, A3, H⟩ := ob_ H
 obtain ⟨y656, hy656⟩ : ∃ y_ : List Int, y_ = (([5, 60, 60, 300] : List Int)) := ⟨_, rfl⟩
 rw [← hy656] at H
 have Ny656 := a0_ hy656
 clear hy656
 obtain ⟨⟨t659, t660, t661⟩, A4, H⟩ := ob_ H
 have HC5 := a0_ H
 clear H
 go_enter Tryz.func97, Tryz.ntmps97
 go_upto_block 0 with (first | ((with_reducible refine gate_dst (N := 2) rfl ?_); refine boxS_ 2 #[.string (⟨#[]⟩ : ByteArray), .int .i64 0, .int .i64 0, .string (⟨#[]⟩ : ByteArray)] 45 (fun gb646 hg w6 hbox hb => ?_); replace HB := a0_ (below_step bq2_ hb); have BK646 := a0_ (hbox); have GW646 := a0_ ((by rw [hg]; exact (keep_size (w := w) (g := g) (row := none) kq_) : w.heap.size ≤ gb646)); have GE646 := a0_ ((Nat.le_trans HW0.out (by rw [hg]; exact (keep_size (w := w) (g := g) (row := none) kq_) : w.heap.size ≤ gb646) : w0.heap.size ≤ gb646)); replace HK := a0_ (kt_ HK (KeepBut.of_below hb g none) (.inl rfl)); have NB0_646 := a0_ ((by rw [hg]; exact Nat.ne_of_lt (IsS117.lt (show IsS117 w0 _ g s0_0 s0_1 s0_2 from i117_)) : g ≠ gb646)); have NB646_0 := a0_ ((by rw [hg]; exact Nat.ne_of_gt (IsS117.lt (show IsS117 w0 _ g s0_0 s0_1 s0_2 from i117_)) : gb646 ≠ g)); replace HI0 := a0_ (IsS117.below i117_ hb); clear hb hbox hg) | ((with_reducible refine gt_ 112 rfl ?_); refine gs_ 5 Tryz.func112 #[.pointer (some ⟨g, 0, none⟩)] ?_; (with_reducible refine (spec_l1Cur_name.calls k g s0_0 s0_1 s0_2 t647 t648 t649 w0 _ ?side1 ?side2 A2.out).mono ?_); (case side1 => exact i117_); (case side2 => exact bq2_); rintro e w7 ⟨rfl, hi, hb, hk⟩; refine ⟨_, rfl, ?_⟩; replace BK646 := a0_ (kk_ BK646 hk NB646_0.out); replace HK := a0_ (kt_ HK hk (.inl rfl)); replace HB := a0_ (hb); replace HI0 := a0_ (hi); clear hb hk hi) | ((with_reducible refine gate_dst (N := 7) rfl ?_); refine Kd.R_lit (Kd.int .i64) _ 3 ?hg (N := 7) ?hd (xs := ([1, 1, 1, 2, 5, 15, 16, 6] : List Int)) (inner := [.int .i64 1, .int .i64 1, .int .i64 1, .int .i64 2, .int .i64 5, .int .i64 15, .int .i64 16, .int .i64 6]) (ok := fun _ => True) (okp := fun _ => True) ?hr ?hp (fun _ hk => hk) trivial (Below.refl _ _) (Nat.le_refl _) (by simp) ?_; (case hd => rfl); (case hg => rfl); (case hr => first | (go_simp; done) | (go_simp; rfl)); (case hp => exact (Reps.one (show Kd.M (Kd.int .i64) _ _ _ 1 [.int .i64 1] from rfl) (Reps.one (show Kd.M (Kd.int .i64) _ _ _ 1 [.int .i64 1] from rfl) (Reps.one (show Kd.M (Kd.int .i64) _ _ _ 1 [.int .i64 1] from rfl) (Reps.one (show Kd.M (Kd.int .i64) _ _ _ 2 [.int .i64 2] from rfl) (Reps.one (show Kd.M (Kd.int .i64) _ _ _ 5 [.int .i64 5] from rfl) (Reps.one (show Kd.M (Kd.int .i64) _ _ _ 15 [.int .i64 15] from rfl) (Reps.one (show Kd.M (Kd.int .i64) _ _ _ 16 [.int .i64 16] from rfl) (Reps.one (show Kd.M (Kd.int .i64) _ _ _ 6 [.int .i64 6] from rfl) (Reps.none _ _)))))))))); intro v651 w8 ho9 hb hg_ hnew_; clear hg_ hnew_; (first | rw [← Ny650.out] at ho9 | (simp only [Int.reduceToNat] at ho9; rw [← Ny650.out] at ho9)); have HO652 := a0_ (Kd.R_lower ho9 (keep_size (w := w) (g := g) (row := none) kq_)); replace HI0 := a0_ (IsS117.below i117_ hb); replace BK646 := a0_ (bkB_ BK646 hb); replace HK := a0_ (kt_ HK (KeepBut.of_below hb g none) (.inl rfl)); replace HB := a0_ (below_step bq2_ hb); clear hb ho9; obtain ⟨Ao10, co10, eo10⟩ := Kd.R_slice HO652.out; subst eo10) | ((with_reducible refine gt_ 114 rfl ?_); refine gs_ 8 Tryz.func114 #[.pointer (some ⟨g, 0, none⟩), .slice Ao10 y650.length co10] ?_; (with_reducible refine (spec_l1Cur_among.calls g s0_0 t648 t649 _ _ y650 t653 t654 t655 w0 _ ?side1 ?side2 ?side3 ?side4 ?side5 A3.out).mono ?_); (case side1 => exact i117_); (case side2 => exact bq2_); (case side3 => exact kD_ (Kd.R_reads' HO652.out).2.2); (case side4 => exact (Kd.R_reads' HO652.out).2.1); (case side5 => exact far_slice (IsS117.own_ne HI0.out HO652.out (by decide))); rintro e w11 ⟨rfl, hi, hb, hk⟩; refine ⟨_, rfl, ?_⟩; replace BK646 := a0_ (kk_ BK646 hk NB646_0.out); replace HO652 := a0_ (Kd.R_mono (Kd.R_keep (IsS117.apart (show IsS117 w0 _ g s0_0 t648 t649 from i117_) (kR_ HO652.out) (by decide)) hk (fun _ h => h.2)) (fun _ h => h.1)); replace HK := a0_ (kt_ HK hk (.inl rfl)); replace HB := a0_ (hb); replace HI0 := a0_ (hi); clear hb hk hi) | ((with_reducible refine gate_dst (N := 10) rfl ?_); refine Kd.R_lit (Kd.int .i64) _ 3 ?hg (N := 10) ?hd (xs := ([5, 60, 60, 300] : List Int)) (inner := [.int .i64 5, .int .i64 60, .int .i64 60, .int .i64 300]) (ok := fun _ => True) (okp := fun _ => True) ?hr ?hp (fun _ hk => hk) trivial (Below.refl _ _) (Nat.le_refl _) (by simp) ?_; (case hd => rfl); (case hg => rfl); (case hr => first | (go_simp; done) | (go_simp; rfl)); (case hp => exact (Reps.one (show Kd.M (Kd.int .i64) _ _ _ 5 [.int .i64 5] from rfl) (Reps.one (show Kd.M (Kd.int .i64) _ _ _ 60 [.int .i64 60] from rfl) (Reps.one (show Kd.M (Kd.int .i64) _ _ _ 60 [.int .i64 60] from rfl) (Reps.one (show Kd.M (Kd.int .i64) _ _ _ 300 [.int .i64 300] from rfl) (Reps.none _ _)))))); intro v657 w12 ho13 hb hg_ hnew_; clear hg_ hnew_; (first | rw [← Ny656.out] at ho13 | (simp only [Int.reduceToNat] at ho13; rw [← Ny656.out] at ho13)); have HO658 := a0_ (Kd.R_lower (Kd.R_new' ho13 (Kd.R_lt (kR_ HO652.out))) (keep_size (w := w) (g := g) (row := none) kq_)); replace HO652 := a0_ (Kd.R_elder' (kR_ HO652.out) (Kd.R_base ho13) hb); replace HI0 := a0_ (IsS117.below i117_ hb); replace BK646 := a0_ (bkB_ BK646 hb); replace HK := a0_ (kt_ HK (KeepBut.of_below hb g none) (.inl rfl)); replace HB := a0_ (below_step bq2_ hb); clear hb ho13; obtain ⟨Ao14, co14, eo14⟩ := Kd.R_slice HO658.out; subst eo14) | ((with_reducible refine gt_ 114 rfl ?_); refine gs_ 11 Tryz.func114 #[.pointer (some ⟨g, 0, none⟩), .slice Ao14 y656.length co14] ?_; (with_reducible refine (spec_l1Cur_among.calls g s0_0 t654 t655 _ _ y656 t659 t660 t661 w0 _ ?side1 ?side2 ?side3 ?side4 ?side5 A4.out).mono ?_); (case side1 => exact i117_); (case side2 => exact bq2_); (case side3 => exact kD_ (Kd.R_reads' HO658.out).2.2); (case side4 => exact (Kd.R_reads' HO658.out).2.1); (case side5 => exact far_slice (IsS117.own_ne HI0.out HO658.out (by decide))); rintro e w15 ⟨rfl, hi, hb, hk⟩; refine ⟨_, rfl, ?_⟩; replace BK646 := a0_ (kk_ BK646 hk NB646_0.out); replace HO652 := a0_ (Kd.R_mono (Kd.R_keep (IsS117.apart (show IsS117 w0 _ g s0_0 t654 t655 from i117_) (kR_ HO652.out) (by decide)) hk (fun _ h => h.2)) (fun _ h => h.1)); replace HO658 := a0_ (Kd.R_mono (Kd.R_keep (IsS117.apart (show IsS117 w0 _ g s0_0 t654 t655 from i117_) (kR_ HO658.out) (by decide)) hk (fun _ h => h.2)) (fun _ h => h.1)); replace HK := a0_ (kt_ HK hk (.inl rfl)); replace HB := a0_ (hb); replace HI0 := a0_ (hi); clear hb hk hi) | ((with_reducible refine gate_dst (N := 3) rfl ?_); refine boxS_ 3 #[.string (⟨#[]⟩ : ByteArray), .int .i64 0, .int .i64 0, .string (⟨#[]⟩ : ByteArray)] 45 (fun gb662 hg w16 hbox hb => ?_); replace HO652 := a0_ (Kd.R_below (kR_ HO652.out) hb); replace HO658 := a0_ (Kd.R_below (kR_ HO658.out) hb); replace HB := a0_ (below_step bq2_ hb); have BK662 := a0_ (hbox); have GW662 := a0_ ((by rw [hg]; exact (keep_size (w := w) (g := g) (row := none) kq_) : w.heap.size ≤ gb662)); have GE662 := a0_ ((Nat.le_trans HW0.out (by rw [hg]; exact (keep_size (w := w) (g := g) (row := none) kq_) : w.heap.size ≤ gb662) : w0.heap.size ≤ gb662)); replace HK := a0_ (kt_ HK (KeepBut.of_below hb g none) (.inl rfl)); have NB646_662 := a0_ ((by rw [hg]; exact Nat.ne_of_lt (blk_lt (g := gb646) (o := .cells #[.string (⟨#[]⟩ : ByteArray), .int .i64 0, .int .i64 0, .string (⟨#[]⟩ : ByteArray)] 45 (0, 0)) (kB_ BK646.out)) : gb646 ≠ gb662)); have NB662_646 := a0_ ((by rw [hg]; exact Nat.ne_of_gt (blk_lt (g := gb646) (o := .cells #[.string (⟨#[]⟩ : ByteArray), .int .i64 0, .int .i64 0, .string (⟨#[]⟩ : ByteArray)] 45 (0, 0)) (kB_ BK646.out)) : gb662 ≠ gb646)); replace BK646 := a0_ (bkB_ BK646 hb); have NB0_662 := a0_ ((by rw [hg]; exact Nat.ne_of_lt (IsS117.lt (show IsS117 w0 _ g s0_0 t660 t661 from i117_)) : g ≠ gb662)); have NB662_0 := a0_ ((by rw [hg]; exact Nat.ne_of_gt (IsS117.lt (show IsS117 w0 _ g s0_0 t660 t661 from i117_)) : gb662 ≠ g)); replace HI0 := a0_ (IsS117.below i117_ hb); clear hb hbox hg; have hnb17 := NB662_646.out; have hnc17 := NB646_662.out; have hnb18 := NB662_0.out; have hnc18 := NB0_662.out; obtain ⟨z19_0, z19_1, z19_2, z19_3, q19_0, q19_1, q19_2, q19_3⟩ := bk4_ BK662.out))
 (try simp only [Act.put, List.setIfInBounds_toArray, List.set_cons_zero, List.set_cons_succ])
 go_cut [] (fun wc => ∃ (kq : Nat) (x1001_4 : Int) (x1002_4 : Int) (x663003_4 : ByteArray), Aside0 (spec_l1Cur_record.j1 kq s0_0 x1001_4 x1002_4 t647 t653 t659 x663003_4 = some (r1, r2, r3, r4, r5, r6)) ∧ Aside0 (kq ≤ k) ∧ Aside0 (wc.heap[gb646]? = some (.cells #[.string (⟨#[]⟩ : ByteArray), .int .i64 0, .int .i64 0, .string (⟨#[]⟩ : ByteArray)] 45 (0, 0))) ∧ Aside0 (wc.heap[gb662]? = some (.cells #[.string t647, .int .i64 t653, .int .i64 t659, .string x663003_4] 45 (0, 0))) ∧ Aside0 (IsS117 w0 wc g s0_0 x1001_4 x1002_4) ∧ Aside0 (KeepBut w wc g none) ∧ Aside0 (Below w0.heap.size w0 wc))
 case first =>
  have H := HC5.out
  clear HC5
  by_cases c20 : t653 = 1
  case pos =>
   rw [if_pos c20] at H
   have c20b0 := beq_iff_eq.mpr c20
   have c20b1 := bne_eq_false_iff_eq.mpr c20
   clear c20
   (first | rw [c20b0] | (simp only [i64_w, i32_w]; rw [c20b0]) | skip)
   obtain ⟨y663, hy663⟩ : ∃ y_ : List ByteArray, y_ = (([⟨#[49, 46, 50, 46, 51, 46, 52]⟩, ⟨#[49, 46, 50, 46, 51, 46, 53]⟩, ⟨#[49, 48, 46, 48, 46, 48, 46, 49]⟩, ⟨#[57, 46, 57, 46, 57, 46, 57]⟩] : List ByteArray)) := ⟨_, rfl⟩
   rw [← hy663] at H
   have Ny663 := a0_ hy663
   clear hy663
   obtain ⟨⟨t666, t667, t668⟩, A21, H⟩ := ob_ H
   have H' := a0_ H
   clear H
   go_wp2_with (first | ((with_reducible refine gate_dst (N := 22) rfl ?_); refine ls_ 22 9 ([⟨#[49, 46, 50, 46, 51, 46, 52]⟩, ⟨#[49, 46, 50, 46, 51, 46, 53]⟩, ⟨#[49, 48, 46, 48, 46, 48, 46, 49]⟩, ⟨#[57, 46, 57, 46, 57, 46, 57]⟩] : List ByteArray) ?_; intro v664 w22 ho23 hb hg_ hnew_; clear hg_ hnew_; (first | rw [← Ny663.out] at ho23 | (simp only [Int.reduceToNat] at ho23; rw [← Ny663.out] at ho23)); replace HO652 := a0_ (Kd.R_below (kR_ (farR4_ HO652.out BK662.out)) hb); replace HO658 := a0_ (Kd.R_below (kR_ (farR4_ HO658.out BK662.out)) hb); have HO665 := a0_ (Kd.R_lower ho23 (keep_size (w := w) (g := g) (row := none) kq_)); replace HI0 := a0_ (IsS117.below (show IsS117 w0 ((((w16.setCell ⟨gb662, 0, none⟩ (.string t647)).setCell ⟨gb662, 1, none⟩ (.int .i64 t653)).setCell ⟨gb662, 2, none⟩ (.int .i64 t659)).setCell ⟨gb662, 3, none⟩ (.string (⟨#[]⟩ : ByteArray))) g s0_0 t660 t661 from i117_) hb); replace BK646 := a0_ (blk_below (g := gb646) (o := .cells #[.string (⟨#[]⟩ : ByteArray), .int .i64 0, .int .i64 0, .string (⟨#[]⟩ : ByteArray)] 45 (0, 0)) (bfar4_ NB646_662.out BK646.out) hb); replace BK662 := a0_ (blk_below (g := gb662) (o := .cells #[.string t647, .int .i64 t653, .int .i64 t659, .string (⟨#[]⟩ : ByteArray)] 45 (0, 0)) (put4_ BK662.out) hb); replace HK := a0_ (kt_ HK (KeepBut.of_below hb g none) (.inl rfl)); replace HB := a0_ (below_step bq2_ hb); clear hb ho23; obtain ⟨Ao24, co24, eo24⟩ := Kd.R_slice HO665.out; subst eo24) | ((with_reducible refine gt_ 154 rfl ?_); refine gs_ 23 Tryz.func154 #[.pointer (some ⟨g, 0, none⟩), .slice Ao24 y663.length co24] ?_; (with_reducible refine (spec_l1Cur_of.calls g s0_0 t660 t661 _ _ y663 t666 t667 t668 w0 _ ?side1 ?side2 ?side3 ?side4 ?side5 A21.out).mono ?_); (case side1 => exact i117_); (case side2 => exact bq2_); (case side3 => exact kD_ (Kd.R_reads' HO665.out).2.2); (case side4 => exact (Kd.R_reads' HO665.out).2.1); (case side5 => exact far_slice (IsS117.own_ne HI0.out HO665.out (by decide))); rintro e w25 ⟨rfl, hi, hb, hk⟩; refine ⟨_, rfl, ?_⟩; replace BK646 := a0_ (kk_ BK646 hk NB646_0.out); replace HO652 := a0_ (Kd.R_mono (Kd.R_keep (IsS117.apart (show IsS117 w0 _ g s0_0 t660 t661 from i117_) (kR_ HO652.out) (by decide)) hk (fun _ h => h.2)) (fun _ h => h.1)); replace HO658 := a0_ (Kd.R_mono (Kd.R_keep (IsS117.apart (show IsS117 w0 _ g s0_0 t660 t661 from i117_) (kR_ HO658.out) (by decide)) hk (fun _ h => h.2)) (fun _ h => h.1)); replace BK662 := a0_ (kk_ BK662 hk NB662_0.out); replace HO665 := a0_ (Kd.R_mono (Kd.R_keep (IsS117.apart (show IsS117 w0 _ g s0_0 t660 t661 from i117_) (kR_ HO665.out) (by decide)) hk (fun _ h => h.2)) (fun _ h => h.1)); replace HK := a0_ (kt_ HK hk (.inl rfl)); replace HB := a0_ (hb); replace HI0 := a0_ (hi); clear hb hk hi; have hnb26 := NB662_646.out; have hnc26 := NB646_662.out; have hnb27 := NB662_0.out; have hnc27 := NB0_662.out; obtain ⟨_, _, _, _, _, _, _, _⟩ := bk4_ BK662.out))
   go_meet
   case rel => exact ⟨_, (t667), (t668), (t666), H', ⟨by first | omega | exact Nat.le_refl _⟩, ⟨bz_⟩, ⟨by (with_reducible repeat (first | refine blk_drewN ?_ _ | refine blk_drew ?_ | refine blk_alloc ?_ _)); refine blk_put (cs := #[.string t647, .int .i64 t653, .int .i64 t659, .string (⟨#[]⟩ : ByteArray)]) ?_ 3 _ rfl; (with_reducible repeat (first | refine blk_drewN ?_ _ | refine blk_drew ?_ | refine blk_alloc ?_ _)); exact BK662.out⟩, ⟨i117_⟩, ⟨kq_⟩, ⟨bq2_⟩⟩
  rw [if_neg c20] at H
  have c20b0 := beq_eq_false_iff_ne.mpr c20
  have c20b1 := bne_iff_ne.mpr c20
  (first | rw [c20b0] | (simp only [i64_w, i32_w]; rw [c20b0]) | skip)
  have HC29 := a0_ H
  clear H
  go_upto_if 25 with (fail)
  go_cut [25] (fun v25 wc => ∃ (kq : Nat) (x25_28 : Bool), v25 = .bool x25_28 ∧ Aside0 (spec_l1Cur_record.j0 kq t653 x25_28 s0_0 t660 t661 t647 t653 t659 (⟨#[]⟩ : ByteArray) = some (r1, r2, r3, r4, r5, r6)) ∧ Aside0 (kq ≤ k) ∧ Aside0 (wc.heap[gb646]? = some (.cells #[.string (⟨#[]⟩ : ByteArray), .int .i64 0, .int .i64 0, .string (⟨#[]⟩ : ByteArray)] 45 (0, 0))) ∧ Aside0 (wc.heap[gb662]? = some (.cells #[.string t647, .int .i64 t653, .int .i64 t659, .string (⟨#[]⟩ : ByteArray)] 45 (0, 0))) ∧ Aside0 (IsS117 w0 wc g s0_0 t660 t661) ∧ Aside0 (KeepBut w wc g none) ∧ Aside0 (Below w0.heap.size w0 wc))
  case first =>
   have H := HC29.out
   clear HC29
   by_cases c30 : t653 = 2
   case neg =>
    rw [if_neg c30] at H
    have c30b0 := beq_eq_false_iff_ne.mpr c30
    have c30b1 := bne_iff_ne.mpr c30
    (first | rw [c30b0] | (simp only [i64_w, i32_w]; rw [c30b0]) | skip)
    have H' := a0_ H
    clear H
    go_wp2
    go_meet
    case rel => exact ⟨_, ((t653 == 5)), rs_, H', ⟨by first | omega | exact Nat.le_refl _⟩, ⟨bfar4_ NB646_662.out BK646.out⟩, ⟨put4_ BK662.out⟩, ⟨i117_⟩, ⟨kq_⟩, ⟨bq2_⟩⟩
   rw [if_pos c30] at H
   have c30b0 := beq_iff_eq.mpr c30
   have c30b1 := bne_eq_false_iff_eq.mpr c30
   clear c30
   (first | rw [c30b0] | (simp only [i64_w, i32_w]; rw [c30b0]) | skip)
   have H' := a0_ H
   clear H
   go_wp2
   go_meet
   case rel => exact ⟨_, ((t653 == 2)), rs_, H', ⟨by first | omega | exact Nat.le_refl _⟩, ⟨bfar4_ NB646_662.out BK646.out⟩, ⟨put4_ BK662.out⟩, ⟨i117_⟩, ⟨kq_⟩, ⟨bq2_⟩⟩
  case rest =>
   clear HC29
   try clear c20
   try clear c20b0
   try clear c20b1
   try clear z19_0 z19_1 z19_2 z19_3
   try clear q19_0 q19_1 q19_2 q19_3
   obtain ⟨kq, x25_28, rfl, HA, HJ28, BK646, BK662, HI0, HK, HB⟩ := hcut
   cases kq with
   | zero => exact absurd HA.out (by simp [spec_l1Cur_record.j0])
   | succ kj28 =>
    have H := HA.out
    clear HA
    simp only [spec_l1Cur_record.j0] at H
    by_cases c31 : x25_28 = true
    case pos =>
     subst c31
     rw [if_pos rfl] at H
     obtain ⟨⟨t669, t670, t671⟩, A32, H⟩ := ob_ H
     have H' := a0_ H
     clear H
     go_wp2_with (first | ((with_reducible refine gt_ 155 rfl ?_); refine gs_ 29 Tryz.func155 #[.pointer (some ⟨g, 0, none⟩)] ?_; (with_reducible refine (spec_l1Cur_target.calls g s0_0 t660 t661 t669 t670 t671 w0 _ ?side1 ?side2 A32.out).mono ?_); (case side1 => exact i117_); (case side2 => exact bq2_); rintro e w33 ⟨rfl, hi, hb, hk⟩; refine ⟨_, rfl, ?_⟩; replace BK646 := a0_ (kk_ BK646 hk NB646_0.out); replace BK662 := a0_ (kk_ BK662 hk NB662_0.out); replace HK := a0_ (kt_ HK hk (.inl rfl)); replace HB := a0_ (hb); replace HI0 := a0_ (hi); clear hb hk hi; have hnb34 := NB662_646.out; have hnc34 := NB646_662.out; have hnb35 := NB662_0.out; have hnc35 := NB0_662.out; obtain ⟨_, _, _, _, _, _, _, _⟩ := bk4_ BK662.out))
     go_meet
     case rel => exact ⟨_, (t670), (t671), (t669), H', jl_ HJ28, ⟨bz_⟩, ⟨by (with_reducible repeat (first | refine blk_drewN ?_ _ | refine blk_drew ?_ | refine blk_alloc ?_ _)); refine blk_put (cs := #[.string t647, .int .i64 t653, .int .i64 t659, .string (⟨#[]⟩ : ByteArray)]) ?_ 3 _ rfl; (with_reducible repeat (first | refine blk_drewN ?_ _ | refine blk_drew ?_ | refine blk_alloc ?_ _)); exact BK662.out⟩, ⟨i117_⟩, ⟨kq_⟩, ⟨bq2_⟩⟩
    replace c31 := Bool.eq_false_iff.mpr c31
    subst c31
    rw [if_neg ff_] at H
    by_cases c37 : t653 = 6
    case pos =>
     rw [if_pos c37] at H
     have c37b0 := beq_iff_eq.mpr c37
     have c37b1 := bne_eq_false_iff_eq.mpr c37
     clear c37
     obtain ⟨⟨t672, t673, t674⟩, A38, H⟩ := ob_ H
     obtain ⟨t675, A39, H⟩ := ob_ H
     have H' := a0_ H
     clear H
     go_wp2_with (first | ((with_reducible refine gt_ 111 rfl ?_); refine gs_ 34 Tryz.func111 #[.pointer (some ⟨g, 0, none⟩), .int .i64 20] ?_; (with_reducible refine (spec_l1Cur_pick.calls g s0_0 t660 t661 20 t672 t673 t674 w0 _ ?side1 ?side2 A38.out).mono ?_); (case side1 => exact i117_); (case side2 => exact bq2_); rintro e w40 ⟨rfl, hi, hb, hk⟩; refine ⟨_, rfl, ?_⟩; replace BK646 := a0_ (kk_ BK646 hk NB646_0.out); replace BK662 := a0_ (kk_ BK662 hk NB662_0.out); replace HK := a0_ (kt_ HK hk (.inl rfl)); replace HB := a0_ (hb); replace HI0 := a0_ (hi); clear hb hk hi) | ((with_reducible refine gt_ 52 rfl ?_); refine gs_ 35 Tryz.func52 #[.int .i64 t672] ?_; (with_reducible refine (spec_l1Num.calls kj28 t672 t675 _ A39.out).mono ?_); rintro e w41 ⟨rfl, hb⟩; refine ⟨_, rfl, ?_⟩; replace BK646 := a0_ (bkB_ BK646 hb); replace BK662 := a0_ (bkB_ BK662 hb); replace HI0 := a0_ (IsS117.below i117_ hb); replace HK := a0_ (kt_ HK (KeepBut.of_below hb g none) (.inl rfl)); replace HB := a0_ (below_step bq2_ hb); clear hb; have hnb42 := NB662_646.out; have hnc42 := NB646_662.out; have hnb43 := NB662_0.out; have hnc43 := NB0_662.out; obtain ⟨_, _, _, _, _, _, _, _⟩ := bk4_ BK662.out))
     go_meet
     case rel => exact ⟨_, (t673), (t674), (t675), H', jl_ HJ28, ⟨bz_⟩, ⟨by (with_reducible repeat (first | refine blk_drewN ?_ _ | refine blk_drew ?_ | refine blk_alloc ?_ _)); refine blk_put (cs := #[.string t647, .int .i64 t653, .int .i64 t659, .string (⟨#[]⟩ : ByteArray)]) ?_ 3 _ rfl; (with_reducible repeat (first | refine blk_drewN ?_ _ | refine blk_drew ?_ | refine blk_alloc ?_ _)); exact BK662.out⟩, ⟨i117_⟩, ⟨kq_⟩, ⟨bq2_⟩⟩
    rw [if_neg c37] at H
    have c37b0 := beq_eq_false_iff_ne.mpr c37
    have c37b1 := bne_iff_ne.mpr c37
    by_cases c45 : t653 = 15
    case neg =>
     rw [if_neg c45] at H
     have c45b0 := beq_eq_false_iff_ne.mpr c45
     have c45b1 := bne_iff_ne.mpr c45
     obtain ⟨y683, hy683⟩ : ∃ y_ : List ByteArray, y_ = (([⟨#[104, 101, 108, 108, 111]⟩, ⟨#[]⟩, ⟨#[118, 61, 49, 32, 120]⟩] : List ByteArray)) := ⟨_, rfl⟩
     rw [← hy683] at H
     have Ny683 := a0_ hy683
     clear hy683
     obtain ⟨⟨t686, t687, t688⟩, A57, H⟩ := ob_ H
     have H' := a0_ H
     clear H
     go_wp2_with (first | ((with_reducible refine gate_dst (N := 16) rfl ?_); refine ls_ 16 9 ([⟨#[104, 101, 108, 108, 111]⟩, ⟨#[]⟩, ⟨#[118, 61, 49, 32, 120]⟩] : List ByteArray) ?_; intro v684 w58 ho59 hb hg_ hnew_; clear hg_ hnew_; (first | rw [← Ny683.out] at ho59 | (simp only [Int.reduceToNat] at ho59; rw [← Ny683.out] at ho59)); have HO685 := a0_ (Kd.R_lower ho59 (keep_size (w := w) (g := g) (row := none) kq_)); replace BK646 := a0_ (bkB_ BK646 hb); replace BK662 := a0_ (bkB_ BK662 hb); replace HI0 := a0_ (IsS117.below i117_ hb); replace HK := a0_ (kt_ HK (KeepBut.of_below hb g none) (.inl rfl)); replace HB := a0_ (below_step bq2_ hb); clear hb ho59; obtain ⟨Ao60, co60, eo60⟩ := Kd.R_slice HO685.out; subst eo60) | ((with_reducible refine gt_ 154 rfl ?_); refine gs_ 17 Tryz.func154 #[.pointer (some ⟨g, 0, none⟩), .slice Ao60 y683.length co60] ?_; (with_reducible refine (spec_l1Cur_of.calls g s0_0 t660 t661 _ _ y683 t686 t687 t688 w0 _ ?side1 ?side2 ?side3 ?side4 ?side5 A57.out).mono ?_); (case side1 => exact i117_); (case side2 => exact bq2_); (case side3 => exact kD_ (Kd.R_reads' HO685.out).2.2); (case side4 => exact (Kd.R_reads' HO685.out).2.1); (case side5 => exact far_slice (IsS117.own_ne HI0.out HO685.out (by decide))); rintro e w61 ⟨rfl, hi, hb, hk⟩; refine ⟨_, rfl, ?_⟩; replace BK646 := a0_ (kk_ BK646 hk NB646_0.out); replace BK662 := a0_ (kk_ BK662 hk NB662_0.out); replace HO685 := a0_ (Kd.R_mono (Kd.R_keep (IsS117.apart (show IsS117 w0 _ g s0_0 t660 t661 from i117_) (kR_ HO685.out) (by decide)) hk (fun _ h => h.2)) (fun _ h => h.1)); replace HK := a0_ (kt_ HK hk (.inl rfl)); replace HB := a0_ (hb); replace HI0 := a0_ (hi); clear hb hk hi; have hnb62 := NB662_646.out; have hnc62 := NB646_662.out; have hnb63 := NB662_0.out; have hnc63 := NB0_662.out; obtain ⟨_, _, _, _, _, _, _, _⟩ := bk4_ BK662.out))
     go_meet
     case rel => exact ⟨_, (t687), (t688), (t686), H', jl_ HJ28, ⟨bz_⟩, ⟨by (with_reducible repeat (first | refine blk_drewN ?_ _ | refine blk_drew ?_ | refine blk_alloc ?_ _)); refine blk_put (cs := #[.string t647, .int .i64 t653, .int .i64 t659, .string (⟨#[]⟩ : ByteArray)]) ?_ 3 _ rfl; (with_reducible repeat (first | refine blk_drewN ?_ _ | refine blk_drew ?_ | refine blk_alloc ?_ _)); exact BK662.out⟩, ⟨i117_⟩, ⟨kq_⟩, ⟨bq2_⟩⟩
    rw [if_pos c45] at H
    have c45b0 := beq_iff_eq.mpr c45
    have c45b1 := bne_eq_false_iff_eq.mpr c45
    clear c45
    obtain ⟨⟨t676, t677, t678⟩, A46, H⟩ := ob_ H
    obtain ⟨t679, A47, H⟩ := ob_ H
    by_cases c48 : t679.size + 1 ≤ 9223372036854775807
    case neg =>
     rw [if_neg c48] at H
     exact absurd H (by simp)
    rw [if_pos c48] at H
    have c48b0 := eq_true c48
    have c48b1 := decide_eq_true c48
    try have c48b2 : (9223372036854775807 < t679.size + 1) = False := eq_false (Nat.not_lt.2 c48)
    obtain ⟨⟨t680, t681, t682⟩, A49, H⟩ := ob_ H
    by_cases c50 : (t679 ++ (⟨#[32]⟩ : ByteArray)).size + t680.size ≤ 9223372036854775807
    case neg =>
     rw [if_neg c50] at H
     exact absurd H (by simp)
    rw [if_pos c50] at H
    have c50b0 := eq_true c50
    have c50b1 := decide_eq_true c50
    have c50b3 : (9223372036854775807 < t679.size + 1 + t680.size) = False := eq_false (by have e_ := c50; rw [ByteArray.size_append, show (⟨#[32]⟩ : ByteArray).size = 1 from rfl] at e_; omega); try have c50b2 : (9223372036854775807 < (t679 ++ (⟨#[32]⟩ : ByteArray)).size + t680.size) = False := eq_false (Nat.not_lt.2 c50)
    have H' := a0_ H
    clear H
    go_wp2_with (first | ((with_reducible refine gt_ 111 rfl ?_); refine gs_ 40 Tryz.func111 #[.pointer (some ⟨g, 0, none⟩), .int .i64 30] ?_; (with_reducible refine (spec_l1Cur_pick.calls g s0_0 t660 t661 30 t676 t677 t678 w0 _ ?side1 ?side2 A46.out).mono ?_); (case side1 => exact i117_); (case side2 => exact bq2_); rintro e w51 ⟨rfl, hi, hb, hk⟩; refine ⟨_, rfl, ?_⟩; replace BK646 := a0_ (kk_ BK646 hk NB646_0.out); replace BK662 := a0_ (kk_ BK662 hk NB662_0.out); replace HK := a0_ (kt_ HK hk (.inl rfl)); replace HB := a0_ (hb); replace HI0 := a0_ (hi); clear hb hk hi) | ((with_reducible refine gt_ 52 rfl ?_); refine gs_ 41 Tryz.func52 #[.int .i64 t676] ?_; (with_reducible refine (spec_l1Num.calls kj28 t676 t679 _ A47.out).mono ?_); rintro e w52 ⟨rfl, hb⟩; refine ⟨_, rfl, ?_⟩; replace BK646 := a0_ (bkB_ BK646 hb); replace BK662 := a0_ (bkB_ BK662 hb); replace HI0 := a0_ (IsS117.below i117_ hb); replace HK := a0_ (kt_ HK (KeepBut.of_below hb g none) (.inl rfl)); replace HB := a0_ (below_step bq2_ hb); clear hb) | ((with_reducible refine gt_ 155 rfl ?_); refine gs_ 44 Tryz.func155 #[.pointer (some ⟨g, 0, none⟩)] ?_; (with_reducible refine (spec_l1Cur_target.calls g s0_0 t677 t678 t680 t681 t682 w0 _ ?side1 ?side2 A49.out).mono ?_); (case side1 => exact i117_); (case side2 => exact bq2_); rintro e w53 ⟨rfl, hi, hb, hk⟩; refine ⟨_, rfl, ?_⟩; replace BK646 := a0_ (kk_ BK646 hk NB646_0.out); replace BK662 := a0_ (kk_ BK662 hk NB662_0.out); replace HK := a0_ (kt_ HK hk (.inl rfl)); replace HB := a0_ (hb); replace HI0 := a0_ (hi); clear hb hk hi; have hnb54 := NB662_646.out; have hnc54 := NB646_662.out; have hnb55 := NB662_0.out; have hnc55 := NB0_662.out; obtain ⟨_, _, _, _, _, _, _, _⟩ := bk4_ BK662.out))
    go_meet
    case rel => exact ⟨_, (t681), (t682), ((t679 ++ (⟨#[32]⟩ : ByteArray)) ++ t680), H', jl_ HJ28, ⟨bz_⟩, ⟨by (with_reducible repeat (first | refine blk_drewN ?_ _ | refine blk_drew ?_ | refine blk_alloc ?_ _)); refine blk_put (cs := #[.string t647, .int .i64 t653, .int .i64 t659, .string (⟨#[]⟩ : ByteArray)]) ?_ 3 _ rfl; (with_reducible repeat (first | refine blk_drewN ?_ _ | refine blk_drew ?_ | refine blk_alloc ?_ _)); exact BK662.out⟩, ⟨i117_⟩, ⟨kq_⟩, ⟨bq2_⟩⟩
 case rest =>
  clear HC5
  try clear c20
  try clear c20b0
  try clear c20b1
  try clear z19_0 z19_1 z19_2 z19_3
  try clear q19_0 q19_1 q19_2 q19_3
  obtain ⟨kq, x1001_4, x1002_4, x663003_4, HA, HJ4, BK646, BK662, HI0, HK, HB⟩ := hcut
  cases kq with
  | zero => exact absurd HA.out (by simp [spec_l1Cur_record.j1])
  | succ kj4 =>
   have H := HA.out
   clear HA
   simp only [spec_l1Cur_record.j1] at H
   obtain ⟨⟨t689, t690, t691⟩, A65, H⟩ := ob_ H
   by_cases c66 : t689 = 0
   case pos =>
    rw [if_pos c66] at H
    have c66b0 := beq_iff_eq.mpr c66
    have c66b1 := bne_eq_false_iff_eq.mpr c66
    clear c66
    obtain ⟨y692, hy692⟩ : ∃ y_ : List Int, y_ = (([(-1), 0, 100000, 100001] : List Int)) := ⟨_, rfl⟩
    rw [← hy692] at H
    have Ny692 := a0_ hy692
    clear hy692
    obtain ⟨⟨t695, t696, t697⟩, A67, H⟩ := ob_ H
    simp only [Option.some.injEq, Prod.mk.injEq] at H
    obtain ⟨rfl, rfl, rfl, rfl, rfl, rfl⟩ := H
    go_wp2_with (first | ((with_reducible refine gt_ 111 rfl ?_); refine gs_ 48 Tryz.func111 #[.pointer (some ⟨g, 0, none⟩), .int .i64 40] ?_; (with_reducible refine (spec_l1Cur_pick.calls g s0_0 x1001_4 x1002_4 40 t689 t690 t691 w0 _ ?side1 ?side2 A65.out).mono ?_); (case side1 => exact i117_); (case side2 => exact bq2_); rintro e w68 ⟨rfl, hi, hb, hk⟩; refine ⟨_, rfl, ?_⟩; replace BK646 := a0_ (kk_ BK646 hk NB646_0.out); replace BK662 := a0_ (kk_ BK662 hk NB662_0.out); replace HK := a0_ (kt_ HK hk (.inl rfl)); replace HB := a0_ (hb); replace HI0 := a0_ (hi); clear hb hk hi) | ((with_reducible refine gate_dst (N := 52) rfl ?_); refine Kd.R_lit (Kd.int .i64) _ 3 ?hg (N := 52) ?hd (xs := ([(-1), 0, 100000, 100001] : List Int)) (inner := [.int .i64 (-1), .int .i64 0, .int .i64 100000, .int .i64 100001]) (ok := fun _ => True) (okp := fun _ => True) ?hr ?hp (fun _ hk => hk) trivial (Below.refl _ _) (Nat.le_refl _) (by simp) ?_; (case hd => rfl); (case hg => rfl); (case hr => first | (go_simp; done) | (go_simp; rfl)); (case hp => exact (Reps.one (show Kd.M (Kd.int .i64) _ _ _ (-1) [.int .i64 (-1)] from rfl) (Reps.one (show Kd.M (Kd.int .i64) _ _ _ 0 [.int .i64 0] from rfl) (Reps.one (show Kd.M (Kd.int .i64) _ _ _ 100000 [.int .i64 100000] from rfl) (Reps.one (show Kd.M (Kd.int .i64) _ _ _ 100001 [.int .i64 100001] from rfl) (Reps.none _ _)))))); intro v693 w69 ho70 hb hg_ hnew_; clear hg_ hnew_; (first | rw [← Ny692.out] at ho70 | (simp only [Int.reduceToNat] at ho70; rw [← Ny692.out] at ho70)); have HO694 := a0_ (Kd.R_lower ho70 (keep_size (w := w) (g := g) (row := none) kq_)); replace BK646 := a0_ (bkB_ BK646 hb); replace BK662 := a0_ (bkB_ BK662 hb); replace HI0 := a0_ (IsS117.below i117_ hb); replace HK := a0_ (kt_ HK (KeepBut.of_below hb g none) (.inl rfl)); replace HB := a0_ (below_step bq2_ hb); clear hb ho70; obtain ⟨Ao71, co71, eo71⟩ := Kd.R_slice HO694.out; subst eo71) | ((with_reducible refine gt_ 114 rfl ?_); refine gs_ 53 Tryz.func114 #[.pointer (some ⟨g, 0, none⟩), .slice Ao71 y692.length co71] ?_; (with_reducible refine (spec_l1Cur_among.calls g s0_0 t690 t691 _ _ y692 t695 t696 t697 w0 _ ?side1 ?side2 ?side3 ?side4 ?side5 A67.out).mono ?_); (case side1 => exact i117_); (case side2 => exact bq2_); (case side3 => exact kD_ (Kd.R_reads' HO694.out).2.2); (case side4 => exact (Kd.R_reads' HO694.out).2.1); (case side5 => exact far_slice (IsS117.own_ne HI0.out HO694.out (by decide))); rintro e w72 ⟨rfl, hi, hb, hk⟩; refine ⟨_, rfl, ?_⟩; replace BK646 := a0_ (kk_ BK646 hk NB646_0.out); replace BK662 := a0_ (kk_ BK662 hk NB662_0.out); replace HO694 := a0_ (Kd.R_mono (Kd.R_keep (IsS117.apart (show IsS117 w0 _ g s0_0 t690 t691 from i117_) (kR_ HO694.out) (by decide)) hk (fun _ h => h.2)) (fun _ h => h.1)); replace HK := a0_ (kt_ HK hk (.inl rfl)); replace HB := a0_ (hb); replace HI0 := a0_ (hi); clear hb hk hi; have hnb73 := NB662_646.out; have hnc73 := NB646_662.out; have hnb74 := NB662_0.out; have hnc74 := NB0_662.out; obtain ⟨_, _, _, _, _, _, _, _⟩ := bk4_ BK662.out; have hnb76 := NB646_0.out; have hnc76 := NB0_646.out; obtain ⟨_, _, _, _, _, _, _, _⟩ := bk4_ BK646.out))
    refine bodyPost_ret (results_cell_row rfl _ _ gb646 45 #[.string t647, .int .i64 t653, .int .i64 t695, .string x663003_4] (0, 0) _ rfl (by (with_reducible repeat (first | refine blk_drewN ?_ _ | refine blk_drew ?_ | refine blk_alloc ?_ _)); refine blk_put (cs := #[.string t647, .int .i64 t653, .int .i64 t695, .string (⟨#[]⟩ : ByteArray)]) ?_ 3 _ rfl; (with_reducible repeat (first | refine blk_drewN ?_ _ | refine blk_drew ?_ | refine blk_alloc ?_ _)); refine blk_put (cs := #[.string t647, .int .i64 t653, .int .i64 0, .string (⟨#[]⟩ : ByteArray)]) ?_ 2 _ rfl; (with_reducible repeat (first | refine blk_drewN ?_ _ | refine blk_drew ?_ | refine blk_alloc ?_ _)); refine blk_put (cs := #[.string t647, .int .i64 0, .int .i64 0, .string (⟨#[]⟩ : ByteArray)]) ?_ 1 _ rfl; (with_reducible repeat (first | refine blk_drewN ?_ _ | refine blk_drew ?_ | refine blk_alloc ?_ _)); refine blk_put (cs := #[.string (⟨#[]⟩ : ByteArray), .int .i64 0, .int .i64 0, .string (⟨#[]⟩ : ByteArray)]) ?_ 0 _ rfl; (with_reducible repeat (first | refine blk_drewN ?_ _ | refine blk_drew ?_ | refine blk_alloc ?_ _)); refine blk_far ?_ NB646_662.out _; (with_reducible repeat (first | refine blk_drewN ?_ _ | refine blk_drew ?_ | refine blk_alloc ?_ _)); exact BK646.out) Tryz.underlying45 rfl (by kernel_rfl)) rfl ?_
    exact ⟨rr_, i117_, bq2_, kq_⟩
   rw [if_neg c66] at H
   have c66b0 := beq_eq_false_iff_ne.mpr c66
   have c66b1 := bne_iff_ne.mpr c66
   by_cases c78 : t689 = 1
   case pos =>
    rw [if_pos c78] at H
    have c78b0 := beq_iff_eq.mpr c78
    have c78b1 := bne_eq_false_iff_eq.mpr c78
    clear c78
    obtain ⟨y698, hy698⟩ : ∃ y_ : List ByteArray, y_ = (([⟨#[49, 46, 50, 46, 51]⟩, ⟨#[50, 53, 54, 46, 49, 46, 49, 46, 49]⟩, ⟨#[42]⟩, ⟨#[52, 50, 57, 52, 57, 54, 55, 50, 57, 53]⟩, ⟨#[52, 50, 57, 52, 57, 54, 55, 50, 57, 54]⟩, ⟨#[55, 48, 48, 48, 48, 32, 97, 46, 98]⟩, ⟨#[48, 49, 46, 50, 46, 51, 46, 52]⟩, ⟨#[1]⟩] : List ByteArray)) := ⟨_, rfl⟩
    rw [← hy698] at H
    have Ny698 := a0_ hy698
    clear hy698
    obtain ⟨⟨t701, t702, t703⟩, A79, H⟩ := ob_ H
    simp only [Option.some.injEq, Prod.mk.injEq] at H
    obtain ⟨rfl, rfl, rfl, rfl, rfl, rfl⟩ := H
    go_wp2_with (first | ((with_reducible refine gt_ 111 rfl ?_); refine gs_ 48 Tryz.func111 #[.pointer (some ⟨g, 0, none⟩), .int .i64 40] ?_; (with_reducible refine (spec_l1Cur_pick.calls g s0_0 x1001_4 x1002_4 40 t689 t690 t691 w0 _ ?side1 ?side2 A65.out).mono ?_); (case side1 => exact i117_); (case side2 => exact bq2_); rintro e w80 ⟨rfl, hi, hb, hk⟩; refine ⟨_, rfl, ?_⟩; replace BK646 := a0_ (kk_ BK646 hk NB646_0.out); replace BK662 := a0_ (kk_ BK662 hk NB662_0.out); replace HK := a0_ (kt_ HK hk (.inl rfl)); replace HB := a0_ (hb); replace HI0 := a0_ (hi); clear hb hk hi) | ((with_reducible refine gate_dst (N := 58) rfl ?_); refine ls_ 58 9 ([⟨#[49, 46, 50, 46, 51]⟩, ⟨#[50, 53, 54, 46, 49, 46, 49, 46, 49]⟩, ⟨#[42]⟩, ⟨#[52, 50, 57, 52, 57, 54, 55, 50, 57, 53]⟩, ⟨#[52, 50, 57, 52, 57, 54, 55, 50, 57, 54]⟩, ⟨#[55, 48, 48, 48, 48, 32, 97, 46, 98]⟩, ⟨#[48, 49, 46, 50, 46, 51, 46, 52]⟩, ⟨#[1]⟩] : List ByteArray) ?_; intro v699 w81 ho82 hb hg_ hnew_; clear hg_ hnew_; (first | rw [← Ny698.out] at ho82 | (simp only [Int.reduceToNat] at ho82; rw [← Ny698.out] at ho82)); have HO700 := a0_ (Kd.R_lower ho82 (keep_size (w := w) (g := g) (row := none) kq_)); replace BK646 := a0_ (bkB_ BK646 hb); replace BK662 := a0_ (bkB_ BK662 hb); replace HI0 := a0_ (IsS117.below i117_ hb); replace HK := a0_ (kt_ HK (KeepBut.of_below hb g none) (.inl rfl)); replace HB := a0_ (below_step bq2_ hb); clear hb ho82; obtain ⟨Ao83, co83, eo83⟩ := Kd.R_slice HO700.out; subst eo83) | ((with_reducible refine gt_ 154 rfl ?_); refine gs_ 59 Tryz.func154 #[.pointer (some ⟨g, 0, none⟩), .slice Ao83 y698.length co83] ?_; (with_reducible refine (spec_l1Cur_of.calls g s0_0 t690 t691 _ _ y698 t701 t702 t703 w0 _ ?side1 ?side2 ?side3 ?side4 ?side5 A79.out).mono ?_); (case side1 => exact i117_); (case side2 => exact bq2_); (case side3 => exact kD_ (Kd.R_reads' HO700.out).2.2); (case side4 => exact (Kd.R_reads' HO700.out).2.1); (case side5 => exact far_slice (IsS117.own_ne HI0.out HO700.out (by decide))); rintro e w84 ⟨rfl, hi, hb, hk⟩; refine ⟨_, rfl, ?_⟩; replace BK646 := a0_ (kk_ BK646 hk NB646_0.out); replace BK662 := a0_ (kk_ BK662 hk NB662_0.out); replace HO700 := a0_ (Kd.R_mono (Kd.R_keep (IsS117.apart (show IsS117 w0 _ g s0_0 t690 t691 from i117_) (kR_ HO700.out) (by decide)) hk (fun _ h => h.2)) (fun _ h => h.1)); replace HK := a0_ (kt_ HK hk (.inl rfl)); replace HB := a0_ (hb); replace HI0 := a0_ (hi); clear hb hk hi; have hnb85 := NB662_646.out; have hnc85 := NB646_662.out; have hnb86 := NB662_0.out; have hnc86 := NB0_662.out; obtain ⟨_, _, _, _, _, _, _, _⟩ := bk4_ BK662.out; have hnb88 := NB646_0.out; have hnc88 := NB0_646.out; obtain ⟨_, _, _, _, _, _, _, _⟩ := bk4_ BK646.out))
    refine bodyPost_ret (results_cell_row rfl _ _ gb646 45 #[.string t647, .int .i64 t653, .int .i64 t659, .string t701] (0, 0) _ rfl (by (with_reducible repeat (first | refine blk_drewN ?_ _ | refine blk_drew ?_ | refine blk_alloc ?_ _)); refine blk_put (cs := #[.string t647, .int .i64 t653, .int .i64 t659, .string (⟨#[]⟩ : ByteArray)]) ?_ 3 _ rfl; (with_reducible repeat (first | refine blk_drewN ?_ _ | refine blk_drew ?_ | refine blk_alloc ?_ _)); refine blk_put (cs := #[.string t647, .int .i64 t653, .int .i64 0, .string (⟨#[]⟩ : ByteArray)]) ?_ 2 _ rfl; (with_reducible repeat (first | refine blk_drewN ?_ _ | refine blk_drew ?_ | refine blk_alloc ?_ _)); refine blk_put (cs := #[.string t647, .int .i64 0, .int .i64 0, .string (⟨#[]⟩ : ByteArray)]) ?_ 1 _ rfl; (with_reducible repeat (first | refine blk_drewN ?_ _ | refine blk_drew ?_ | refine blk_alloc ?_ _)); refine blk_put (cs := #[.string (⟨#[]⟩ : ByteArray), .int .i64 0, .int .i64 0, .string (⟨#[]⟩ : ByteArray)]) ?_ 0 _ rfl; (with_reducible repeat (first | refine blk_drewN ?_ _ | refine blk_drew ?_ | refine blk_alloc ?_ _)); refine blk_far ?_ NB646_662.out _; (with_reducible repeat (first | refine blk_drewN ?_ _ | refine blk_drew ?_ | refine blk_alloc ?_ _)); exact BK646.out) Tryz.underlying45 rfl (by kernel_rfl)) rfl ?_
    exact ⟨rr_, i117_, bq2_, kq_⟩
   rw [if_neg c78] at H
   have c78b0 := beq_eq_false_iff_ne.mpr c78
   have c78b1 := bne_iff_ne.mpr c78
   by_cases c90 : t689 = 2
   case neg =>
    rw [if_neg c90] at H
    have c90b0 := beq_eq_false_iff_ne.mpr c90
    have c90b1 := bne_iff_ne.mpr c90
    simp only [Option.some.injEq, Prod.mk.injEq] at H
    obtain ⟨rfl, rfl, rfl, rfl, rfl, rfl⟩ := H
    go_wp2_with (first | ((with_reducible refine gt_ 111 rfl ?_); refine gs_ 48 Tryz.func111 #[.pointer (some ⟨g, 0, none⟩), .int .i64 40] ?_; (with_reducible refine (spec_l1Cur_pick.calls g s0_0 x1001_4 x1002_4 40 t689 t690 t691 w0 _ ?side1 ?side2 A65.out).mono ?_); (case side1 => exact i117_); (case side2 => exact bq2_); rintro e w99 ⟨rfl, hi, hb, hk⟩; refine ⟨_, rfl, ?_⟩; replace BK646 := a0_ (kk_ BK646 hk NB646_0.out); replace BK662 := a0_ (kk_ BK662 hk NB662_0.out); replace HK := a0_ (kt_ HK hk (.inl rfl)); replace HB := a0_ (hb); replace HI0 := a0_ (hi); clear hb hk hi; have hnb100 := NB662_646.out; have hnc100 := NB646_662.out; have hnb101 := NB662_0.out; have hnc101 := NB0_662.out; obtain ⟨_, _, _, _, _, _, _, _⟩ := bk4_ BK662.out; have hnb103 := NB646_0.out; have hnc103 := NB0_646.out; obtain ⟨_, _, _, _, _, _, _, _⟩ := bk4_ BK646.out))
    refine bodyPost_ret (results_cell_row rfl _ _ gb646 45 #[.string t647, .int .i64 t653, .int .i64 t659, .string x663003_4] (0, 0) _ rfl (put4_ BK646.out) Tryz.underlying45 rfl (by kernel_rfl)) rfl ?_
    exact ⟨rr_, i117_, bq2_, kq_⟩
   rw [if_pos c90] at H
   have c90b0 := beq_iff_eq.mpr c90
   have c90b1 := bne_eq_false_iff_eq.mpr c90
   clear c90
   obtain ⟨⟨t704, t705, t706⟩, A91, H⟩ := ob_ H
   simp only [Option.some.injEq, Prod.mk.injEq] at H
   obtain ⟨rfl, rfl, rfl, rfl, rfl, rfl⟩ := H
   go_wp2_with (first | ((with_reducible refine gt_ 111 rfl ?_); refine gs_ 48 Tryz.func111 #[.pointer (some ⟨g, 0, none⟩), .int .i64 40] ?_; (with_reducible refine (spec_l1Cur_pick.calls g s0_0 x1001_4 x1002_4 40 t689 t690 t691 w0 _ ?side1 ?side2 A65.out).mono ?_); (case side1 => exact i117_); (case side2 => exact bq2_); rintro e w92 ⟨rfl, hi, hb, hk⟩; refine ⟨_, rfl, ?_⟩; replace BK646 := a0_ (kk_ BK646 hk NB646_0.out); replace BK662 := a0_ (kk_ BK662 hk NB662_0.out); replace HK := a0_ (kt_ HK hk (.inl rfl)); replace HB := a0_ (hb); replace HI0 := a0_ (hi); clear hb hk hi) | ((with_reducible refine gt_ 111 rfl ?_); refine gs_ 64 Tryz.func111 #[.pointer (some ⟨g, 0, none⟩), .int .i64 20] ?_; (with_reducible refine (spec_l1Cur_pick.calls g s0_0 t690 t691 20 t704 t705 t706 w0 _ ?side1 ?side2 A91.out).mono ?_); (case side1 => exact i117_); (case side2 => exact bq2_); rintro e w93 ⟨rfl, hi, hb, hk⟩; refine ⟨_, rfl, ?_⟩; replace BK646 := a0_ (kk_ BK646 hk NB646_0.out); replace BK662 := a0_ (kk_ BK662 hk NB662_0.out); replace HK := a0_ (kt_ HK hk (.inl rfl)); replace HB := a0_ (hb); replace HI0 := a0_ (hi); clear hb hk hi; have hnb94 := NB662_646.out; have hnc94 := NB646_662.out; have hnb95 := NB662_0.out; have hnc95 := NB0_662.out; obtain ⟨_, _, _, _, _, _, _, _⟩ := bk4_ BK662.out; have hnb97 := NB646_0.out; have hnc97 := NB0_646.out; obtain ⟨_, _, _, _, _, _, _, _⟩ := bk4_ BK646.out))
   refine bodyPost_ret (results_cell_row rfl _ _ gb646 45 #[.string t647, .int .i64 t704, .int .i64 t659, .string x663003_4] (0, 0) _ rfl (by (with_reducible repeat (first | refine blk_drewN ?_ _ | refine blk_drew ?_ | refine blk_alloc ?_ _)); refine blk_put (cs := #[.string t647, .int .i64 t704, .int .i64 t659, .string (⟨#[]⟩ : ByteArray)]) ?_ 3 _ rfl; (with_reducible repeat (first | refine blk_drewN ?_ _ | refine blk_drew ?_ | refine blk_alloc ?_ _)); refine blk_put (cs := #[.string t647, .int .i64 t704, .int .i64 0, .string (⟨#[]⟩ : ByteArray)]) ?_ 2 _ rfl; (with_reducible repeat (first | refine blk_drewN ?_ _ | refine blk_drew ?_ | refine blk_alloc ?_ _)); refine blk_put (cs := #[.string t647, .int .i64 0, .int .i64 0, .string (⟨#[]⟩ : ByteArray)]) ?_ 1 _ rfl; (with_reducible repeat (first | refine blk_drewN ?_ _ | refine blk_drew ?_ | refine blk_alloc ?_ _)); refine blk_put (cs := #[.string (⟨#[]⟩ : ByteArray), .int .i64 0, .int .i64 0, .string (⟨#[]⟩ : ByteArray)]) ?_ 0 _ rfl; (with_reducible repeat (first | refine blk_drewN ?_ _ | refine blk_drew ?_ | refine blk_alloc ?_ _)); refine blk_far ?_ NB646_662.out _; (with_reducible repeat (first | refine blk_drewN ?_ _ | refine blk_drew ?_ | refine blk_alloc ?_ _)); exact BK646.out) Tryz.underlying45 rfl (by kernel_rfl)) rfl ?_
   exact ⟨rr_, i117_, bq2_, kq_⟩
end Go.Proofs.YtiegkjimpclmaaaGreatDoor.P
namespace Go.Proofs.YtiegkjimpclmaaaGreatDoor.P
theorem within_eq (n a b : Int) : impl_within.f n a b = some (decide (a ≤ n ∧ n ≤ b)) := by
 unfold impl_within.f
 by_cases h : n ≥ a
 · rw [if_pos h]; congr 1; rw [decide_eq_decide]; omega
 · rw [if_neg h]; congr 1; rw [eq_comm, decide_eq_false_iff_not]; omega
theorem cutset_byte (b : UInt8) : (([97, 98, 99, 100, 101, 102, 103, 104, 105, 106, 107, 108, 109, 110, 111, 112, 113, 114, 115, 116, 117, 118, 119, 120, 121, 122, 48, 49, 50, 51, 52, 53, 54, 55, 56, 57, 45, 95] : List UInt8).contains b) = labelByte b := by
 have h : ∀ n : Fin 256, (([97, 98, 99, 100, 101, 102, 103, 104, 105, 106, 107, 108, 109, 110, 111, 112, 113, 114, 115, 116, 117, 118, 119, 120, 121, 122, 48, 49, 50, 51, 52, 53, 54, 55, 56, 57, 45, 95] : List UInt8).contains (UInt8.ofFin n)) = labelByte (UInt8.ofFin n) := by decide +kernel
 exact h b.toFin
theorem isLabel_eq (s : ByteArray) : impl_isLabel.f s = some (isLabelL s.data.toList) := by
 unfold impl_isLabel.f isLabelL
 rw [Lib.toList_data, within_eq]
 by_cases h0 : s.data.toList = [42]
 · rw [if_pos h0, h0]; rfl
 · rw [if_neg h0, show (s.data.toList == [42]) = false from beq_eq_false_iff_ne.mpr h0, Bool.false_or]
   simp only [Option.bind_some]
   have hl : decide ((1 : Int) ≤ (s.size : Int) ∧ (s.size : Int) ≤ 20) = decide (1 ≤ s.data.toList.length ∧ s.data.toList.length ≤ 20) := by
    rw [decide_eq_decide, size_len]; omega
   rw [hl]
   by_cases h1 : 1 ≤ s.data.toList.length ∧ s.data.toList.length ≤ 20
   · rw [decide_eq_true h1, if_pos rfl, Bool.true_and]
     unfold strings_Trim.f
     rw [if_pos (by rw [size_len]; omega), if_pos (by decide), if_pos (by decide)]
     simp only [Option.bind_some]
     congr 1
     rw [Lib.toList_data, mkB_data]
     have ht := trimS_nil s.data.toList [97, 98, 99, 100, 101, 102, 103, 104, 105, 106, 107, 108, 109, 110, 111, 112, 113, 114, 115, 116, 117, 118, 119, 120, 121, 122, 48, 49, 50, 51, 52, 53, 54, 55, 56, 57, 45, 95]
     have ha : s.data.toList.all (([97, 98, 99, 100, 101, 102, 103, 104, 105, 106, 107, 108, 109, 110, 111, 112, 113, 114, 115, 116, 117, 118, 119, 120, 121, 122, 48, 49, 50, 51, 52, 53, 54, 55, 56, 57, 45, 95] : List UInt8).contains ·) = s.data.toList.all labelByte := by
      congr 1
      funext b
      exact cutset_byte b
     rw [ha] at ht
     show (Lib.trimS s.data.toList [97, 98, 99, 100, 101, 102, 103, 104, 105, 106, 107, 108, 109, 110, 111, 112, 113, 114, 115, 116, 117, 118, 119, 120, 121, 122, 48, 49, 50, 51, 52, 53, 54, 55, 56, 57, 45, 95] == []) = _
     cases hb : s.data.toList.all labelByte with
     | true => rw [ht.2 hb]; rfl
     | false =>
      rw [beq_eq_false_iff_ne]
      intro h
      rw [ht.1 h] at hb
      cases hb
   · rw [decide_eq_false h1]
     rfl
theorem labelsOf_eq (s : ByteArray) (h : s.size < 4294967281) : impl_labelsOf.f s = some ((labelsL s.data.toList).map mkB) := by
 unfold impl_labelsOf.f labelsL strings_Split.f
 rw [Lib.toList_data]
 by_cases h0 : s.data.toList = []
 · rw [if_pos h0, if_pos h0]; rfl
 · rw [if_neg h0, if_neg h0, if_pos (show (⟨#[46]⟩ : ByteArray).size = 1 from rfl), if_pos h]; rfl
theorem good_closure (x : ByteArray) (W : World) : Calls Tryz.prog 146 #[.string x] W fun e W' => e = .returned (.bool (!isLabelL x.data.toList)) ∧ Below W.heap.size W W' :=
 impl_GoodName_1.calls x _ W (by unfold impl_GoodName_1.f; rw [isLabel_eq]; rfl)
def impl_GoodName.f (s : ByteArray) : Option Bool := some (goodL s.data.toList)
set_option maxHeartbeats 4000000 in
theorem impl_GoodName.calls (a0 : ByteArray) (r : Bool) (w : World) (h : impl_GoodName.f a0 = some r) :
 Calls Tryz.prog 83 #[.string a0] w fun e w' => e = .returned (.bool r) ∧ Below w.heap.size w w' := by
 have HG : Aside0 (goodL a0.data.toList = r) := ⟨Option.some.inj h⟩
 clear h
 by_cases h1 : 60 < a0.size
 · have hg : goodL a0.data.toList = false := by
    unfold goodL
    rw [decide_eq_false (by rw [← size_len]; omega)]
    rfl
   obtain rfl := hg.symm.trans HG.out
   have h2 : decide (60 < a0.size) = true := decide_eq_true h1
   have h3 : decide ((60 : Int) < (a0.size : Int)) = true := decide_eq_true (by omega)
   clear HG hg h1
   go_enter Tryz.func83, Tryz.ntmps83
   go_wp2
   go_ret
   exact ⟨rfl, Below.refl _ _⟩
 · have h2 : decide (60 < a0.size) = false := decide_eq_false h1
   have h3 : decide ((60 : Int) < (a0.size : Int)) = false := decide_eq_false (by omega)
   have cl := impl_labelsOf.calls a0 _ w (labelsOf_eq a0 (by omega))
   have eg : ∀ args w, (callFunc 146 args).run Tryz.prog w = .ok (.enter 146 args) w := enters_of Tryz.func146 (by kernel_rfl) rfl
   have cc := fun A c W hr => contains_str A c ((labelsL a0.data.toList).map mkB) 146 #[] (fun x => !isLabelL x.data.toList) W hr eg (fun x _ W' _ => good_closure x W')
   have hany : ((labelsL a0.data.toList).map mkB).any (fun x => !isLabelL x.data.toList) = !(labelsL a0.data.toList).all isLabelL := by
    rw [List.any_map, List.not_all_eq_any_not]
    simp [Function.comp_def, mkB_data]
   have hlen : ((labelsL a0.data.toList).map mkB).length = (labelsL a0.data.toList).length := List.length_map ..
   have hgd : goodL a0.data.toList = (decide ((labelsL a0.data.toList).length ≤ 8) && (labelsL a0.data.toList).all isLabelL) := by
    unfold goodL
    rw [decide_eq_true (by rw [← size_len]; omega), Bool.true_and]
   rw [hany] at cc
   rw [hgd] at HG
   generalize (labelsL a0.data.toList).map mkB = ls at cl cc hlen
   generalize (labelsL a0.data.toList).length = n at hlen HG
   generalize (labelsL a0.data.toList).all isLabelL = b at cc HG
   clear h1 hany hgd
   by_cases h8 : ls.length ≤ 8
   · have h8a : decide (ls.length ≤ 8) = true := decide_eq_true h8
     have h8b : decide ((ls.length : Int) ≤ 8) = true := decide_eq_true (by omega)
     have hr : b = r := by
      have := HG.out
      rwa [decide_eq_true (by omega), Bool.true_and] at this
     subst hr
     clear HG hlen h8
     go_enter Tryz.func83, Tryz.ntmps83
     go_wp2_with (first | (go_at_call 144; refine cl.mono ?_; rintro e w1 ⟨v, rfl, hR, hb⟩; obtain ⟨A, c, rfl⟩ := Kd.R_slice hR; have hC := (Kd.R_reads' hR).2.2) | (go_at_call 145; refine (cc A c _ hC).mono ?_; rintro e w2 ⟨rfl, hb2⟩))
     go_ret
     exact ⟨by simp, below_then hb hb.size hb2⟩
   · have h8a : decide (ls.length ≤ 8) = false := decide_eq_false h8
     have h8b : decide ((ls.length : Int) ≤ 8) = false := decide_eq_false (by omega)
     have hr : false = r := by
      have := HG.out
      rwa [decide_eq_false (by omega), Bool.false_and] at this
     subst hr
     clear HG hlen h8
     go_enter Tryz.func83, Tryz.ntmps83
     go_wp2_with (first | (go_at_call 144; refine cl.mono ?_; rintro e w1 ⟨v, rfl, hR, hb⟩; obtain ⟨A, c, rfl⟩ := Kd.R_slice hR; have hC := (Kd.R_reads' hR).2.2))
     go_ret
     exact ⟨rfl, hb⟩
end Go.Proofs.YtiegkjimpclmaaaGreatDoor.P
namespace Go.Proofs.YtiegkjimpclmaaaGreatDoor.Pure
open Go.Proofs.YtiegkjimpclmaaaGreatDoor.P
theorem of_some {l : List Int} (hl : Bytes l) {at_ sd : Int} {n : Nat} (hc : Cur at_ n) (hn : n < 4611686018427387000) (zs : List ByteArray) (hz : 0 < zs.length) :
 ∃ x at2 sd2, spec_l1Cur_of.f l at_ sd zs = some (x, at2, sd2) ∧ x ∈ zs ∧ Cur at2 (n + 2) := by
 unfold spec_l1Cur_of.f
 obtain ⟨i, at2, sd2, e, hi, hc2⟩ := pick_some hl hc (by omega) (sd := sd) (zs.length : Int)
 rw [e]
 simp only [Option.bind_some]
 have hlt : i < (zs.length : Int) := by omega
 rw [if_pos hi.1, if_pos hlt]
 refine ⟨_, _, _, rfl, ?_, hc2⟩
 have h2 : i.toNat < zs.length := by omega
 rw [rdOf, List.getD_eq_getElem?_getD, List.getElem?_eq_getElem h2]
 exact List.getElem_mem h2
theorem size_le {zs : List ByteArray} {n : Nat} (h : zs.all (fun x => decide (x.size ≤ n)) = true) {x : ByteArray} (hx : x ∈ zs) : x.size ≤ n := by
 have := List.all_eq_true.1 h x hx
 simpa using this
theorem name_loop {l : List Int} (hl : Bytes l) : ∀ (m : Nat) (at_ sd : Int) (n : Nat) (acc : ByteArray), Cur at_ n → n + 2 * m < 4611686018427387000 → acc.size + 4 * m ≤ 1000 → m ≤ 10 →
 ∃ s at2 sd2, spec_l1Cur_name.l0 (m + 1) acc (m : Int) l at_ sd = some (s, at2, sd2) ∧ s.size ≤ acc.size + 4 * m ∧ Cur at2 (n + 2 * m)
 | 0, at_, sd, n, acc, hc, hn, ha, hm => ⟨acc, at_, sd, by unfold spec_l1Cur_name.l0; rw [if_neg (by omega)], by omega, by simpa using hc⟩
 | m + 1, at_, sd, n, acc, hc, hn, ha, hm => by
  obtain ⟨x, at2, sd2, e, hx, hc2⟩ := of_some hl hc (by omega) (sd := sd) ([(⟨#[97]⟩ : ByteArray), (⟨#[98]⟩ : ByteArray), (⟨#[119, 119, 119]⟩ : ByteArray), (⟨#[115, 117, 98]⟩ : ByteArray), (⟨#[42]⟩ : ByteArray), (⟨#[120, 49]⟩ : ByteArray), (⟨#[110, 115]⟩ : ByteArray)] : List ByteArray) (by decide)
  have hsz : x.size ≤ 3 := size_le (by decide) hx
  have h46 : (⟨#[46]⟩ : ByteArray).size = 1 := rfl
  obtain ⟨s, at3, sd3, f, hs, hc3⟩ := name_loop hl m at2 sd2 (n + 2) ((x ++ (⟨#[46]⟩ : ByteArray)) ++ acc) hc2 (by omega) (by rw [ByteArray.size_append, ByteArray.size_append, h46]; omega) (by omega)
  refine ⟨s, at3, sd3, ?_, ?_, ?_⟩
  · conv => lhs; unfold spec_l1Cur_name.l0
    rw [if_pos (by omega), e, Option.bind_some]
    dsimp only
    rw [if_pos (by omega), if_pos (by rw [ByteArray.size_append, h46]; omega), show wrap64 (((m + 1 : Nat) : Int) - 1) = (m : Int) by unfold wrap64; omega]
    exact f
  · rw [ByteArray.size_append, ByteArray.size_append, h46] at hs
    omega
  · rw [show n + 2 * (m + 1) = n + 2 + 2 * m by omega]
    exact hc3
theorem name_some {l : List Int} (hl : Bytes l) {at_ sd : Int} {n : Nat} (hc : Cur at_ n) (hn : n < 4611686018427380000) :
 ∃ s at2 sd2, Ev (fun k => spec_l1Cur_name.f k l at_ sd) (s, at2, sd2) ∧ s.size ≤ 60 ∧ Cur at2 (n + 20) := by
 have up : ∀ {a : Int} {p q : Nat}, Cur a p → p ≤ q → Cur a q := fun h k => ⟨h.1, by have := h.2; omega⟩
 obtain ⟨i, at2, sd2, e, hi, hc2⟩ := pick_some hl hc (by omega) (sd := sd) 40
 by_cases h0 : i = 0
 · obtain ⟨x, at3, sd3, e3, hx, hc3⟩ := of_some hl hc2 (by omega) (sd := sd2) ([(⟨#[]⟩ : ByteArray), (⟨#[46]⟩ : ByteArray), (⟨#[97, 46, 46, 98]⟩ : ByteArray), (⟨#[65]⟩ : ByteArray), (⟨#[97, 46]⟩ : ByteArray), (⟨#[97, 42]⟩ : ByteArray), (⟨#[97, 46, 98, 46, 99, 46, 100, 46, 101, 46, 102, 46, 103, 46, 104]⟩ : ByteArray), (⟨#[97, 46, 98, 46, 99, 46, 100, 46, 101, 46, 102, 46, 103, 46, 104, 46, 105]⟩ : ByteArray), (⟨#[97, 98, 99, 100, 101, 102, 103, 104, 105, 106, 107, 108, 109, 110, 111, 112, 113, 114, 115, 116]⟩ : ByteArray), (⟨#[97, 98, 99, 100, 101, 102, 103, 104, 105, 106, 107, 108, 109, 110, 111, 112, 113, 114, 115, 116, 117]⟩ : ByteArray)] : List ByteArray) (by decide)
   refine ⟨x, at3, sd3, Ev.congr (fun k => ?_) (Ev.now _), size_le (by decide) hx, up hc3 (by omega)⟩
   unfold spec_l1Cur_name.f
   rw [e]
   simp only [Option.bind_some]
   rw [if_pos h0, e3]
   rfl
 · by_cases h1 : i = 1
   · obtain ⟨x, at3, sd3, e3, hx, hc3⟩ := of_some hl hc2 (by omega) (sd := sd2) ([(⟨#[]⟩ : ByteArray), (⟨#[99, 111, 109]⟩ : ByteArray)] : List ByteArray) (by decide)
     refine ⟨x, at3, sd3, Ev.congr (fun k => ?_) (Ev.now _), size_le (by decide) hx, up hc3 (by omega)⟩
     unfold spec_l1Cur_name.f
     rw [e]
     simp only [Option.bind_some]
     rw [if_neg h0, if_pos h1, e3]
     rfl
   · obtain ⟨x, at3, sd3, e3, hx, hc3⟩ := of_some hl hc2 (by omega) (sd := sd2) ([(⟨#[101, 120]⟩ : ByteArray), (⟨#[99, 111, 109]⟩ : ByteArray), (⟨#[101, 120, 46, 99, 111, 109]⟩ : ByteArray), (⟨#[101, 120, 46, 99, 111, 109]⟩ : ByteArray), (⟨#[101, 120, 46, 99, 111, 109]⟩ : ByteArray)] : List ByteArray) (by decide)
     have hsz : x.size ≤ 6 := size_le (by decide) hx
     obtain ⟨j, at4, sd4, e4, hj, hc4⟩ := pick_some hl hc3 (by omega) (sd := sd3) 3
     obtain ⟨m, rfl⟩ : ∃ m : Nat, j = (m : Int) := ⟨j.toNat, by omega⟩
     obtain ⟨s, at5, sd5, e5, hs, hc5⟩ := name_loop hl m at4 sd4 _ x hc4 (by omega) (by omega) (by omega)
     refine ⟨s, at5, sd5, Ev.of (fun k => spec_l1Cur_name.mono _ _ _ _) (k := m + 1) ?_, by omega, up hc5 (by omega)⟩
     unfold spec_l1Cur_name.f
     rw [e]
     simp only [Option.bind_some]
     rw [if_neg h0, if_neg h1, e3]
     simp only [Option.bind_some]
     rw [e4]
     simp only [Option.bind_some]
     exact e5
end Go.Proofs.YtiegkjimpclmaaaGreatDoor.Pure
namespace Go.Proofs.YtiegkjimpclmaaaGreatDoor.P
attribute [local go_sem] max2_int min2_int max_two min_two max_three min_three max_four min_four
mutual
def spec_l3Bytes.l0 : Nat → ByteArray → List ByteArray → List ByteArray → Int → Int → Option (ByteArray × Bool)
 | 0, _, _, _, _, _ => none
 | k + 1, x6, x7, x19, x20, x21 => if x21 < x20 then (if 0 ≤ x21 then (if x21 < (x19.length : Int) then ((spec_l1Int.f k (rdOf ByteArray.empty x19 x21)).bind fun t165 => ((spec_l1In.f t165 0 255).bind fun t166 => (if t166 = true then ((spec_l3Number.f k t165 1).bind fun t167 => (if x6.size + t167.size ≤ 9223372036854775807 then (spec_l3Bytes.l0 k (x6 ++ t167) x7 x19 x20 (wrap64 (x21 + 1))) else (none))) else (some ((⟨#[]⟩ : ByteArray), false))))) else (none)) else (none)) else (some (x6, ((x7.length : Int) == 4)))
def spec_l3Bytes.j1 : Nat → ByteArray → Int → Bool → Option (ByteArray × Bool)
 | 0, _, _, _ => none
 | k + 1, x1, x14, x39 => if x39 = true then ((spec_l3Target.f k x1).bind fun t168 => (if t168 = true then ((spec_l2Bytes.f k x1).bind fun t169 => (some (t169, true))) else (some ((⟨#[]⟩ : ByteArray), false)))) else (if x14 = 6 then ((spec_l1Int.f k x1).bind fun t170 => ((spec_l3Number.f k t170 4).bind fun t171 => ((spec_l1In.f t170 0 4294967295).bind fun t172 => (some (t171, t172))))) else (if x14 = 15 then ((spec_l1Split.f k x1 32).bind fun t173 => (if (t173.length : Int) = 2 then (if 0 < (t173.length : Int) then ((spec_l1Int.f k (rdOf ByteArray.empty t173 0)).bind fun t177 => ((spec_l1In.f t177 0 65535).bind fun t178 => (if t178 = true then (if 1 < (t173.length : Int) then ((spec_l3Target.f k (rdOf ByteArray.empty t173 1)).bind fun t180 => (spec_l3Bytes.j2 k t173 (!t180))) else (none)) else (spec_l3Bytes.j2 k t173 true)))) else (none)) else (spec_l3Bytes.j2 k t173 true))) else (if x14 = 16 then (spec_l3Bytes.l1 k x1 0) else (some ((⟨#[]⟩ : ByteArray), false)))))
def spec_l3Bytes.j2 : Nat → List ByteArray → Bool → Option (ByteArray × Bool)
 | 0, _, _ => none
 | k + 1, x12, x76 => if x76 = true then (some ((⟨#[]⟩ : ByteArray), false)) else (if 0 < (x12.length : Int) then ((spec_l1Int.f k (rdOf ByteArray.empty x12 0)).bind fun t182 => ((spec_l3Number.f k t182 2).bind fun t183 => (if 1 < (x12.length : Int) then ((spec_l2Bytes.f k (rdOf ByteArray.empty x12 1)).bind fun t185 => (if t183.size + t185.size ≤ 9223372036854775807 then (some (t183 ++ t185, true)) else (none))) else (none)))) else (none))
def spec_l3Bytes.l1 : Nat → ByteArray → Int → Option (ByteArray × Bool)
 | 0, _, _ => none
 | k + 1, x1, x13 => if x13 < (x1.size : Int) then (if 0 ≤ x13 then (if (bt x1 x13) < 32 then (some ((⟨#[]⟩ : ByteArray), false)) else (if (bt x1 x13) > 126 then (some ((⟨#[]⟩ : ByteArray), false)) else (spec_l3Bytes.l1 k x1 (wrap64 (x13 + 1))))) else (none)) else ((some (([((x1.size : Int)) % 256] : List Int) : List Int)).bind fun y186 => (if (strOfNums y186).size + x1.size ≤ 9223372036854775807 then (some ((strOfNums y186) ++ x1, decide ((x1.size : Int) ≤ 30))) else (none)))
end
def spec_l3Bytes.f (k : Nat) (a0 : Int) (a1 : ByteArray) : Option (ByteArray × Bool) := if a0 = 1 then ((spec_l1Split.f k a1 46).bind fun t161 => (spec_l3Bytes.l0 k (⟨#[]⟩ : ByteArray) t161 t161 (t161.length : Int) 0)) else (if a0 = 2 then (spec_l3Bytes.j1 k a1 a0 (a0 == 2)) else (spec_l3Bytes.j1 k a1 a0 (a0 == 5)))
theorem spec_l3Bytes.mono_l : ∀ k, (∀ y0 y1 y2 y3 y4, LeO (spec_l3Bytes.l0 k y0 y1 y2 y3 y4) (spec_l3Bytes.l0 (k + 1) y0 y1 y2 y3 y4)) ∧ (∀ y0 y1 y2, LeO (spec_l3Bytes.j1 k y0 y1 y2) (spec_l3Bytes.j1 (k + 1) y0 y1 y2)) ∧ (∀ y0 y1, LeO (spec_l3Bytes.j2 k y0 y1) (spec_l3Bytes.j2 (k + 1) y0 y1)) ∧ (∀ y0 y1, LeO (spec_l3Bytes.l1 k y0 y1) (spec_l3Bytes.l1 (k + 1) y0 y1))
 | 0 => ⟨fun _ _ _ _ _ r h => by simp [spec_l3Bytes.l0] at h, fun _ _ _ r h => by simp [spec_l3Bytes.j1] at h, fun _ _ r h => by simp [spec_l3Bytes.j2] at h, fun _ _ r h => by simp [spec_l3Bytes.l1] at h⟩
 | k + 1 => by
  obtain ⟨ih0, ih1, ih2, ih3⟩ := spec_l3Bytes.mono_l k
  refine ⟨?_, ?_, ?_, ?_⟩
  · intro y0 y1 y2 y3 y4
    unfold spec_l3Bytes.l0
    repeat' first | (with_reducible first | exact ih0 _ _ _ _ _ | exact ih1 _ _ _ | exact ih2 _ _ | exact ih3 _ _ | exact spec_l1Int.mono _ _ | exact spec_l1Split.mono _ _ _ | exact spec_l2Bytes.mono _ _ | exact spec_l3Number.mono _ _ _ | exact spec_l3Target.mono _ _ | exact LeO.refl _ | exact LeO.none _ | refine LeO.ite ?_ ?_ | refine LeO.bind ?_ (fun _ => ?_)) | exact LeO.none _ | refine LeO.ite ?_ ?_ | refine LeO.bind ?_ (fun _ => ?_)
  · intro y0 y1 y2
    unfold spec_l3Bytes.j1
    repeat' first | (with_reducible first | exact ih0 _ _ _ _ _ | exact ih1 _ _ _ | exact ih2 _ _ | exact ih3 _ _ | exact spec_l1Int.mono _ _ | exact spec_l1Split.mono _ _ _ | exact spec_l2Bytes.mono _ _ | exact spec_l3Number.mono _ _ _ | exact spec_l3Target.mono _ _ | exact LeO.refl _ | exact LeO.none _ | refine LeO.ite ?_ ?_ | refine LeO.bind ?_ (fun _ => ?_)) | exact LeO.none _ | refine LeO.ite ?_ ?_ | refine LeO.bind ?_ (fun _ => ?_)
  · intro y0 y1
    unfold spec_l3Bytes.j2
    repeat' first | (with_reducible first | exact ih0 _ _ _ _ _ | exact ih1 _ _ _ | exact ih2 _ _ | exact ih3 _ _ | exact spec_l1Int.mono _ _ | exact spec_l1Split.mono _ _ _ | exact spec_l2Bytes.mono _ _ | exact spec_l3Number.mono _ _ _ | exact spec_l3Target.mono _ _ | exact LeO.refl _ | exact LeO.none _ | refine LeO.ite ?_ ?_ | refine LeO.bind ?_ (fun _ => ?_)) | exact LeO.none _ | refine LeO.ite ?_ ?_ | refine LeO.bind ?_ (fun _ => ?_)
  · intro y0 y1
    unfold spec_l3Bytes.l1
    repeat' first | (with_reducible first | exact ih0 _ _ _ _ _ | exact ih1 _ _ _ | exact ih2 _ _ | exact ih3 _ _ | exact spec_l1Int.mono _ _ | exact spec_l1Split.mono _ _ _ | exact spec_l2Bytes.mono _ _ | exact spec_l3Number.mono _ _ _ | exact spec_l3Target.mono _ _ | exact LeO.refl _ | exact LeO.none _ | refine LeO.ite ?_ ?_ | refine LeO.bind ?_ (fun _ => ?_)) | exact LeO.none _ | refine LeO.ite ?_ ?_ | refine LeO.bind ?_ (fun _ => ?_)
theorem spec_l3Bytes.mono : ∀ a0 a1 k, LeO (spec_l3Bytes.f k a0 a1) (spec_l3Bytes.f (k + 1) a0 a1) := by
 intro a0 a1 k
 obtain ⟨ih0, ih1, ih2, ih3⟩ := spec_l3Bytes.mono_l k
 unfold spec_l3Bytes.f
 repeat' first | (with_reducible first | exact ih0 _ _ _ _ _ | exact ih1 _ _ _ | exact ih2 _ _ | exact ih3 _ _ | exact spec_l1Int.mono _ _ | exact spec_l1Split.mono _ _ _ | exact spec_l2Bytes.mono _ _ | exact spec_l3Number.mono _ _ _ | exact spec_l3Target.mono _ _ | exact LeO.refl _ | exact LeO.none _ | refine LeO.ite ?_ ?_ | refine LeO.bind ?_ (fun _ => ?_)) | exact LeO.none _ | refine LeO.ite ?_ ?_ | refine LeO.bind ?_ (fun _ => ?_)
def spec_l3Bytes.T26 : Bool × List (List Nat × List Nat) := (true, [([], []), ([0], [0]), ([1], [1]), ([2], [2]), ([3, 3], [3]), ([], []), ([5], [5]), ([6], [6]), ([7, 4], [7]), ([4, 8], [4, 8]), ([9, 8, 0, 1, 2, 3, 4, 5, 6, 7, 8, 9], [9]), ([10, 0, 1, 2, 3, 4, 5, 6, 7, 8, 9, 10], [])])
def spec_l3Bytes.B26 : List Nat := [0, 1, 3, 7, 15, 0, 32, 96, 255, 511, 1023, 2047]
theorem spec_l3Bytes.tab26 : rtab .any (opsOf Tryz.f55 26) = spec_l3Bytes.T26 := by kernel_rfl
theorem spec_l3Bytes.bits26 : waitsOk spec_l3Bytes.T26.2 spec_l3Bytes.B26 = true := by kernel_rfl
theorem spec_l3Bytes.calls (k : Nat) (a0 : Int) (a1 : ByteArray) (r1 : ByteArray) (r2 : Bool) (w : World) (h : spec_l3Bytes.f k a0 a1 = some (r1, r2)) :
 Calls Tryz.prog 55 #[.int .i64 a0, .string a1] w fun e w' => e = .returned (.tuple #[.string r1, .bool r2]) ∧ Below w.heap.size w w' := by
 have HB := a0_ (Below.refl w.heap.size w)
 have H := h
 clear h
 unfold spec_l3Bytes.f at H
 by_cases c3 : a0 = 1
 case pos =>
  rw [if_pos c3] at H
  have c3b0 := beq_iff_eq.mpr c3
  have c3b1 := bne_eq_false_iff_eq.mpr c3
  clear c3
  obtain ⟨t161, A4, H⟩ := ob_ H
  have H' := a0_ H
  clear H
  go_enter Tryz.func55, Tryz.ntmps55
  go_wp2_with (first | ((with_reducible refine gt_ 116 rfl ?_); refine gs_ 18 Tryz.func116 #[.string a1, .int .u8 46] ?_; (with_reducible refine (spec_l1Split.calls k a1 46 t161 _ A4.out).mono ?_); rintro e w5 ⟨v162, rfl, ho0, hb⟩; refine ⟨_, rfl, ?_⟩; have HO163 := a0_ (Kd.R_lower ho0 (below_size bq0_)); replace HB := a0_ (below_step bq0_ hb); clear hb; (try clear ho0); obtain ⟨Ao6, co6, eo6⟩ := Kd.R_slice HO163.out; subst eo6))
  go_loopg [6, 21] k (fun kq v6 v21 w' => ∃ (x6_1 : ByteArray) (x21_1 : Int), v6 = .string x6_1 ∧ v21 = .int .i64 x21_1 ∧ Aside0 (spec_l3Bytes.l0 kq x6_1 t161 t161 (t161.length : Int) x21_1 = some (r1, r2)) ∧ Aside0 (kq ≤ k) ∧ Aside0 (Kd.R Kd.string 9 w' w.heap.size (fun _ => True) (.slice Ao6 t161.length co6) t161) ∧ Aside0 (Kd.R Kd.string 9 w' w.heap.size (fun _ => True) (.slice Ao6 t161.length co6) t161) ∧ Aside0 (Below w.heap.size w w'))
  case atStart => exact ⟨((⟨#[]⟩ : ByteArray)), (0), rs_, rs_, H', ⟨Nat.le_refl _⟩, ⟨kR_ HO163.out⟩, ⟨kR_ HO163.out⟩, ⟨bq0_⟩⟩
  case round =>
   clear H'
   try clear c3
   try clear c3b0
   try clear c3b1
   obtain ⟨x6_1, x21_1, rfl, rfl, HA, HK1, HO_7, HO_19, HB⟩ := hrel
   cases gk with
   | zero => exact absurd HA.out (by simp [spec_l3Bytes.l0])
   | succ k1 =>
    have H := HA.out
    clear HA
    simp only [spec_l3Bytes.l0] at H
    by_cases c7 : x21_1 < (t161.length : Int)
    case neg =>
     rw [if_neg c7] at H
     have c7b0 := decide_eq_false c7
     clear c7
     simp only [Option.some.injEq, Prod.mk.injEq] at H
     obtain ⟨rfl, rfl⟩ := H
     go_wp2
     go_ret2
     exact ⟨rr_, bq0_⟩
    rw [if_pos c7] at H
    have c7b0 := decide_eq_true c7
    clear c7
    by_cases c8 : 0 ≤ x21_1
    case neg =>
     rw [if_neg c8] at H
     exact absurd H (by simp)
    rw [if_pos c8] at H
    have c8b0 := decide_eq_true c8
    clear c8
    by_cases c9 : x21_1 < (t161.length : Int)
    case neg =>
     rw [if_neg c9] at H
     exact absurd H (by simp)
    rw [if_pos c9] at H
    have c9b0 := decide_eq_true c9
    clear c9
    obtain ⟨t165, A10, H⟩ := ob_ H
    obtain ⟨t166, A11, H⟩ := ob_ H
    by_cases c12 : t166 = true
    case neg =>
     replace c12 := Bool.eq_false_iff.mpr c12
     subst c12
     rw [if_neg ff_] at H
     simp only [Option.some.injEq, Prod.mk.injEq] at H
     obtain ⟨rfl, rfl⟩ := H
     have p164 := t0_ (x21_1)
     have q164 := tl_ (x21_1) (t161.length)
     obtain ⟨ad164, e164, hx164_0⟩ := Kd.at_string (Kd.R_reads' HO_19.out).2.2 x21_1 (of_eq_true p164) (of_eq_true q164)
     cases e164
     go_wp2_with (first | ((with_reducible refine gt_ 117 rfl ?_); refine gs_ 26 Tryz.func117 #[.string (rdOf ByteArray.empty t161 x21_1)] ?_; (with_reducible refine (spec_l1Int.calls k1 (rdOf ByteArray.empty t161 x21_1) t165 _ A10.out).mono ?_); rintro e w' ⟨rfl, ⟨nd, rfl⟩⟩; refine ⟨_, rfl, ?_⟩) | ((with_reducible refine gt_ 102 rfl ?_); refine gs_ 28 Tryz.func102 #[.int .i64 t165, .int .i64 0, .int .i64 255] ?_; (with_reducible refine (spec_l1In.calls t165 0 255 false _ A11.out).mono ?_); rintro e w' ⟨rfl, ⟨nd, rfl⟩⟩; refine ⟨_, rfl, ?_⟩))
     go_ret2
     exact ⟨rr_, bq0_⟩
    subst c12
    rw [if_pos rfl] at H
    obtain ⟨t167, A13, H⟩ := ob_ H
    by_cases c14 : x6_1.size + t167.size ≤ 9223372036854775807
    case neg =>
     rw [if_neg c14] at H
     exact absurd H (by simp)
    rw [if_pos c14] at H
    have c14b0 := eq_true c14
    have c14b1 := decide_eq_true c14
    try have c14b2 : (9223372036854775807 < x6_1.size + t167.size) = False := eq_false (Nat.not_lt.2 c14)
    have H' := a0_ H
    clear H
    have p164 := t0_ (x21_1)
    have q164 := tl_ (x21_1) (t161.length)
    obtain ⟨ad164, e164, hx164_0⟩ := Kd.at_string (Kd.R_reads' HO_19.out).2.2 x21_1 (of_eq_true p164) (of_eq_true q164)
    cases e164
    go_wp2_with (first | ((with_reducible refine gt_ 117 rfl ?_); refine gs_ 26 Tryz.func117 #[.string (rdOf ByteArray.empty t161 x21_1)] ?_; (with_reducible refine (spec_l1Int.calls k1 (rdOf ByteArray.empty t161 x21_1) t165 _ A10.out).mono ?_); rintro e w' ⟨rfl, ⟨nd, rfl⟩⟩; refine ⟨_, rfl, ?_⟩) | ((with_reducible refine gt_ 102 rfl ?_); refine gs_ 28 Tryz.func102 #[.int .i64 t165, .int .i64 0, .int .i64 255] ?_; (with_reducible refine (spec_l1In.calls t165 0 255 true _ A11.out).mono ?_); rintro e w' ⟨rfl, ⟨nd, rfl⟩⟩; refine ⟨_, rfl, ?_⟩) | ((with_reducible refine gt_ 118 rfl ?_); refine gs_ 32 Tryz.func118 #[.int .i64 t165, .int .i64 1] ?_; (with_reducible refine (spec_l3Number.calls k1 t165 1 t167 _ A13.out).mono ?_); rintro e w15 ⟨rfl, hb⟩; refine ⟨_, rfl, ?_⟩; replace HO_7 := a0_ (Kd.R_below (kR_ HO_7.out) hb); replace HO_19 := a0_ (Kd.R_below (kR_ HO_19.out) hb); replace HB := a0_ (below_step bq0_ hb); clear hb))
    go_roundg k1
    case measure => have := HK1.out; omega
    case rel => exact ⟨(x6_1 ++ t167), (wrap64 (x21_1 + 1)), rs_, rs_, H', jl_ HK1, ⟨kR_ HO_7.out⟩, ⟨kR_ HO_19.out⟩, ⟨bq0_⟩⟩
 rw [if_neg c3] at H
 have c3b0 := beq_eq_false_iff_ne.mpr c3
 have c3b1 := bne_iff_ne.mpr c3
 have HC16 := a0_ H
 clear H
 go_enter Tryz.func55, Tryz.ntmps55
 go_upto_if 39 with (fail)
 go_cut [39] (fun v39 wc => ∃ (kq : Nat) (x39_15 : Bool), v39 = .bool x39_15 ∧ Aside0 (spec_l3Bytes.j1 kq a1 a0 x39_15 = some (r1, r2)) ∧ Aside0 (kq ≤ k) ∧ Aside0 (Below w.heap.size w wc))
 case first =>
  have H := HC16.out
  clear HC16
  by_cases c17 : a0 = 2
  case neg =>
   rw [if_neg c17] at H
   have c17b0 := beq_eq_false_iff_ne.mpr c17
   have c17b1 := bne_iff_ne.mpr c17
   (first | rw [c17b0] | (simp only [i64_w, i32_w]; rw [c17b0]) | skip)
   have H' := a0_ H
   clear H
   go_wp2
   go_meet
   case rel => exact ⟨_, ((a0 == 5)), rs_, H', ⟨by first | omega | exact Nat.le_refl _⟩, ⟨bq0_⟩⟩
  rw [if_pos c17] at H
  have c17b0 := beq_iff_eq.mpr c17
  have c17b1 := bne_eq_false_iff_eq.mpr c17
  clear c17
  (first | rw [c17b0] | (simp only [i64_w, i32_w]; rw [c17b0]) | skip)
  have H' := a0_ H
  clear H
  go_wp2
  go_meet
  case rel => exact ⟨_, ((a0 == 2)), rs_, H', ⟨by first | omega | exact Nat.le_refl _⟩, ⟨bq0_⟩⟩
 case rest =>
  clear HC16
  try clear c3
  try clear c3b0
  try clear c3b1
  obtain ⟨kq, x39_15, rfl, HA, HJ15, HB⟩ := hcut
  cases kq with
  | zero => exact absurd HA.out (by simp [spec_l3Bytes.j1])
  | succ kj15 =>
   have H := HA.out
   clear HA
   simp only [spec_l3Bytes.j1] at H
   by_cases c18 : x39_15 = true
   case pos =>
    subst c18
    rw [if_pos rfl] at H
    obtain ⟨t168, A19, H⟩ := ob_ H
    by_cases c20 : t168 = true
    case neg =>
     replace c20 := Bool.eq_false_iff.mpr c20
     subst c20
     rw [if_neg ff_] at H
     simp only [Option.some.injEq, Prod.mk.injEq] at H
     obtain ⟨rfl, rfl⟩ := H
     go_wp2_with (first | ((with_reducible refine gt_ 119 rfl ?_); refine gs_ 43 Tryz.func119 #[.string a1] ?_; (with_reducible refine (spec_l3Target.calls kj15 a1 false _ A19.out).mono ?_); rintro e w24 ⟨rfl, hb⟩; refine ⟨_, rfl, ?_⟩; replace HB := a0_ (below_step bq0_ hb); clear hb))
     go_ret2
     exact ⟨rr_, bq0_⟩
    subst c20
    rw [if_pos rfl] at H
    obtain ⟨t169, A21, H⟩ := ob_ H
    simp only [Option.some.injEq, Prod.mk.injEq] at H
    obtain ⟨rfl, rfl⟩ := H
    go_wp2_with (first | ((with_reducible refine gt_ 119 rfl ?_); refine gs_ 43 Tryz.func119 #[.string a1] ?_; (with_reducible refine (spec_l3Target.calls kj15 a1 true _ A19.out).mono ?_); rintro e w22 ⟨rfl, hb⟩; refine ⟨_, rfl, ?_⟩; replace HB := a0_ (below_step bq0_ hb); clear hb) | ((with_reducible refine gt_ 120 rfl ?_); refine gs_ 46 Tryz.func120 #[.string a1] ?_; (with_reducible refine (spec_l2Bytes.calls kj15 a1 t169 _ A21.out).mono ?_); rintro e w23 ⟨rfl, hb⟩; refine ⟨_, rfl, ?_⟩; replace HB := a0_ (below_step bq0_ hb); clear hb))
    go_ret2
    exact ⟨rr_, bq0_⟩
   replace c18 := Bool.eq_false_iff.mpr c18
   subst c18
   rw [if_neg ff_] at H
   by_cases c25 : a0 = 6
   case pos =>
    rw [if_pos c25] at H
    have c25b0 := beq_iff_eq.mpr c25
    have c25b1 := bne_eq_false_iff_eq.mpr c25
    clear c25
    obtain ⟨t170, A26, H⟩ := ob_ H
    obtain ⟨t171, A27, H⟩ := ob_ H
    obtain ⟨t172, A28, H⟩ := ob_ H
    simp only [Option.some.injEq, Prod.mk.injEq] at H
    obtain ⟨rfl, rfl⟩ := H
    go_wp2_with (first | ((with_reducible refine gt_ 117 rfl ?_); refine gs_ 50 Tryz.func117 #[.string a1] ?_; (with_reducible refine (spec_l1Int.calls kj15 a1 t170 _ A26.out).mono ?_); rintro e w' ⟨rfl, ⟨nd, rfl⟩⟩; refine ⟨_, rfl, ?_⟩) | ((with_reducible refine gt_ 118 rfl ?_); refine gs_ 52 Tryz.func118 #[.int .i64 t170, .int .i64 4] ?_; (with_reducible refine (spec_l3Number.calls kj15 t170 4 t171 _ A27.out).mono ?_); rintro e w29 ⟨rfl, hb⟩; refine ⟨_, rfl, ?_⟩; replace HB := a0_ (below_step bq0_ hb); clear hb) | ((with_reducible refine gt_ 102 rfl ?_); refine gs_ 54 Tryz.func102 #[.int .i64 t170, .int .i64 0, .int .i64 4294967295] ?_; (with_reducible refine (spec_l1In.calls t170 0 4294967295 t172 _ A28.out).mono ?_); rintro e w' ⟨rfl, ⟨nd, rfl⟩⟩; refine ⟨_, rfl, ?_⟩))
    go_ret2
    exact ⟨rr_, bq0_⟩
   rw [if_neg c25] at H
   have c25b0 := beq_eq_false_iff_ne.mpr c25
   have c25b1 := bne_iff_ne.mpr c25
   by_cases c30 : a0 = 15
   case neg =>
    rw [if_neg c30] at H
    have c30b0 := beq_eq_false_iff_ne.mpr c30
    have c30b1 := bne_iff_ne.mpr c30
    by_cases c56 : a0 = 16
    case neg =>
     rw [if_neg c56] at H
     have c56b0 := beq_eq_false_iff_ne.mpr c56
     have c56b1 := bne_iff_ne.mpr c56
     simp only [Option.some.injEq, Prod.mk.injEq] at H
     obtain ⟨rfl, rfl⟩ := H
     go_wp2
     go_ret2
     exact ⟨rr_, bq0_⟩
    rw [if_pos c56] at H
    have c56b0 := beq_iff_eq.mpr c56
    have c56b1 := bne_eq_false_iff_eq.mpr c56
    clear c56
    have H' := a0_ H
    clear H
    go_wp2
    go_loopg [13] kj15 (fun kq v13 w' => ∃ (x13_2 : Int), v13 = .int .i64 x13_2 ∧ Aside0 (spec_l3Bytes.l1 kq a1 x13_2 = some (r1, r2)) ∧ Aside0 (kq ≤ kj15) ∧ Aside0 (Below w.heap.size w w'))
    case atStart => exact ⟨(0), rs_, H', ⟨Nat.le_refl _⟩, ⟨bq0_⟩⟩
    case round =>
     clear H'
     try clear c1
     try clear p1
     try clear q1
     try clear hx1
     try clear p2
     try clear c3
     try clear c3b0
     try clear c3b1
     try clear c5
     try clear p6
     try clear c7
     try clear c7b0
     try clear c8
     try clear c8b0
     try clear c9
     try clear c9b0
     try clear c10
     try clear c11
     try clear c12
     try clear c14
     try clear c14b0
     try clear c14b1
     try clear c14b2
     try clear p16
     try clear q16
     try clear hx16
     try clear c17
     try clear c17b0
     try clear c17b1
     try clear c18
     try clear c25
     try clear c25b0
     try clear c25b1
     try clear c30
     try clear c30b0
     try clear c30b1
     try clear c56
     try clear c56b0
     try clear c56b1
     try clear hx164_0
     try clear p1
     try clear p16
     try clear p164
     try clear p2
     try clear p6
     try clear q1
     try clear q16
     try clear q164
     obtain ⟨x13_2, rfl, HA, HK2, HB⟩ := hrel
     cases gk with
     | zero => exact absurd HA.out (by simp [spec_l3Bytes.l1])
     | succ k2 =>
      have H := HA.out
      clear HA
      simp only [spec_l3Bytes.l1] at H
      by_cases c57 : x13_2 < (a1.size : Int)
      case neg =>
       rw [if_neg c57] at H
       have c57b0 := decide_eq_false c57
       clear c57
       obtain ⟨y186, hy186⟩ : ∃ y_ : List Int, y_ = (([((a1.size : Int)) % 256] : List Int)) := ⟨_, rfl⟩
       replace H := by_ hy186 H
       have Ny186 := a0_ hy186
       clear hy186
       by_cases c63 : (strOfNums y186).size + a1.size ≤ 9223372036854775807
       case neg =>
        rw [if_neg c63] at H
        exact absurd H (by simp)
       rw [if_pos c63] at H
       have c63b0 := eq_true c63
       have c63b1 := decide_eq_true c63
       try have c63b2 : (9223372036854775807 < (strOfNums y186).size + a1.size) = False := eq_false (Nat.not_lt.2 c63)
       simp only [Option.some.injEq, Prod.mk.injEq] at H
       obtain ⟨rfl, rfl⟩ := H
       go_wp2_with (first | ((with_reducible refine gate_dst (N := 108) rfl ?_); refine Kd.R_lit (Kd.int .u8) _ 5 ?hg (N := 108) ?hd (xs := ([((a1.size : Int)) % 256] : List Int)) (inner := [.int .u8 (((a1.size : Int)) % 256)]) (ok := fun _ => True) (okp := fun _ => True) ?hr ?hp (fun _ hk => hk) trivial (Below.refl _ _) (Nat.le_refl _) (by simp) ?_; (case hd => rfl); (case hg => rfl); (case hr => first | (go_simp; done) | (go_simp; rfl)); (case hp => exact (Reps.one (show Kd.M (Kd.int .u8) _ _ _ (((a1.size : Int)) % 256) [.int .u8 (((a1.size : Int)) % 256)] from rfl) (Reps.none _ _))); intro v187 w64 ho65 hb hg_ hnew_; clear hg_ hnew_; (first | rw [← Ny186.out] at ho65 | (simp only [Int.reduceToNat] at ho65; rw [← Ny186.out] at ho65)); have HO188 := a0_ (Kd.R_lower ho65 (below_size bq0_)); replace HB := a0_ (below_step bq0_ hb); clear hb ho65; have hcv66 := own_string (P := Tryz.prog) Tryz.underlying43 Tryz.underlying5 Tryz.underlying9 (Kd.own_of_R HO188.out)))
       go_ret2
       exact ⟨rr_, bq0_⟩
      rw [if_pos c57] at H
      have c57b0 := decide_eq_true c57
      clear c57
      by_cases c58 : 0 ≤ x13_2
      case neg =>
       rw [if_neg c58] at H
       exact absurd H (by simp)
      rw [if_pos c58] at H
      have c58b0 := decide_eq_true c58
      clear c58
      by_cases c60 : (bt a1 x13_2) < 32
      case pos =>
       rw [if_pos c60] at H
       have c60b0 := decide_eq_true c60
       clear c60
       simp only [Option.some.injEq, Prod.mk.injEq] at H
       obtain ⟨rfl, rfl⟩ := H
       have p59 := t0_ (x13_2)
       have q59 := tl_ (x13_2) (a1.size)
       have hx59 := bt_at a1 x13_2
       go_wp2
       go_ret2
       exact ⟨rr_, bq0_⟩
      rw [if_neg c60] at H
      have c60b0 := decide_eq_false c60
      clear c60
      by_cases c62 : (bt a1 x13_2) > 126
      case pos =>
       rw [if_pos c62] at H
       have c62b0 := decide_eq_true c62
       clear c62
       simp only [Option.some.injEq, Prod.mk.injEq] at H
       obtain ⟨rfl, rfl⟩ := H
       have p59 := t0_ (x13_2)
       have q59 := tl_ (x13_2) (a1.size)
       have hx59 := bt_at a1 x13_2
       have p61 := t0_ (x13_2)
       have q61 := tl_ (x13_2) (a1.size)
       have hx61 := bt_at a1 x13_2
       go_wp2
       go_ret2
       exact ⟨rr_, bq0_⟩
      rw [if_neg c62] at H
      have c62b0 := decide_eq_false c62
      clear c62
      have H' := a0_ H
      clear H
      have p59 := t0_ (x13_2)
      have q59 := tl_ (x13_2) (a1.size)
      have hx59 := bt_at a1 x13_2
      have p61 := t0_ (x13_2)
      have q61 := tl_ (x13_2) (a1.size)
      have hx61 := bt_at a1 x13_2
      go_wp2
      go_roundg k2
      case measure => have := HJ15.out; have := HK2.out; omega
      case rel => exact ⟨(wrap64 (x13_2 + 1)), rs_, H', jm_ HJ15 HK2, ⟨bq0_⟩⟩
   rw [if_pos c30] at H
   have c30b0 := beq_iff_eq.mpr c30
   have c30b1 := bne_eq_false_iff_eq.mpr c30
   clear c30
   obtain ⟨t173, A31, H⟩ := ob_ H
   have HC32 := a0_ H
   clear H
   go_upto_region 24 with (first | ((with_reducible refine gt_ 116 rfl ?_); refine gs_ 58 Tryz.func116 #[.string a1, .int .u8 32] ?_; (with_reducible refine (spec_l1Split.calls kj15 a1 32 t173 _ A31.out).mono ?_); rintro e w33 ⟨v174, rfl, ho0, hb⟩; refine ⟨_, rfl, ?_⟩; have HO175 := a0_ (Kd.R_lower ho0 (below_size bq0_)); replace HB := a0_ (below_step bq0_ hb); clear hb; (try clear ho0)))
   (try simp only [Act.put, List.setIfInBounds_toArray, List.set_cons_zero, List.set_cons_succ])
   go_cut [76] (fun v76 wc => ∃ (kq : Nat) (x76_31 : Bool), v76 = .bool x76_31 ∧ Aside0 (spec_l3Bytes.j2 kq t173 x76_31 = some (r1, r2)) ∧ Aside0 (kq ≤ kj15) ∧ Aside0 (Kd.R Kd.string 9 wc w.heap.size (fun _ => True) v174 t173) ∧ Aside0 (Below w.heap.size w wc))
   case first =>
    have H := HC32.out
    clear HC32
    by_cases c34 : (t173.length : Int) = 2
    case neg =>
     rw [if_neg c34] at H
     have c34b0 := beq_eq_false_iff_ne.mpr c34
     have c34b1 := bne_iff_ne.mpr c34
     (first | rw [c34b0] | (simp only [i64_w, i32_w]; rw [c34b0]) | skip)
     have H' := a0_ H
     clear H
     obtain ⟨Ao44, co44, eo44⟩ := Kd.R_slice HO175.out
     subst eo44
     go_wp2
     go_meet
     case rel => exact ⟨_, (true), rs_, H', jl_ HJ15, ⟨kR_ HO175.out⟩, ⟨bq0_⟩⟩
    rw [if_pos c34] at H
    have c34b0 := beq_iff_eq.mpr c34
    have c34b1 := bne_eq_false_iff_eq.mpr c34
    clear c34
    (first | rw [c34b0] | (simp only [i64_w, i32_w]; rw [c34b0]) | skip)
    by_cases c35 : 0 < (t173.length : Int)
    case neg =>
     rw [if_neg c35] at H
     exact absurd H (by simp)
    rw [if_pos c35] at H
    have c35b0 := decide_eq_true c35
    have c35b1 : decide (0 < t173.length) = true := decide_eq_true (by omega)
    clear c35
    obtain ⟨t177, A36, H⟩ := ob_ H
    obtain ⟨t178, A37, H⟩ := ob_ H
    by_cases c38 : t178 = true
    case neg =>
     replace c38 := Bool.eq_false_iff.mpr c38
     subst c38
     rw [if_neg ff_] at H
     have H' := a0_ H
     clear H
     obtain ⟨Ao43, co43, eo43⟩ := Kd.R_slice HO175.out
     subst eo43
     have p176 : 0 ≤ (0 : Int) := (by omega)
     have q176 : 0 < (t173.length : Int) := dec_
     obtain ⟨ad176, e176, hx176_0⟩ := Kd.at_string (Kd.R_reads' HO175.out).2.2 0 p176 q176
     cases e176
     have qi176 : (0 < t173.length) = True := eq_true (by omega)
     (try rw [show ((0 : Int)).toNat = 0 from rfl] at hx176_0)
     (try rw [Addr.add_zero'] at hx176_0)
     replace p176 := eq_true p176
     replace q176 := eq_true q176
     go_wp2_with (first | (go_at_call 117; (with_reducible refine (spec_l1Int.calls kj15 (rdOf ByteArray.empty t173 0) t177 _ A36.out).mono ?_); rintro e w' ⟨rfl, ⟨nd, rfl⟩⟩) | (go_at_call 102; (with_reducible refine (spec_l1In.calls t177 0 65535 false _ A37.out).mono ?_); rintro e w' ⟨rfl, ⟨nd, rfl⟩⟩))
     go_meet
     case rel => exact ⟨_, (true), rs_, H', jl_ HJ15, ⟨kR_ HO175.out⟩, ⟨bq0_⟩⟩
    subst c38
    rw [if_pos rfl] at H
    by_cases c39 : 1 < (t173.length : Int)
    case neg =>
     rw [if_neg c39] at H
     exact absurd H (by simp)
    rw [if_pos c39] at H
    have c39b0 := decide_eq_true c39
    have c39b1 : decide (1 < t173.length) = true := decide_eq_true (by omega)
    clear c39
    obtain ⟨t180, A40, H⟩ := ob_ H
    have H' := a0_ H
    clear H
    obtain ⟨Ao41, co41, eo41⟩ := Kd.R_slice HO175.out
    subst eo41
    have p176 : 0 ≤ (0 : Int) := (by omega)
    have q176 : 0 < (t173.length : Int) := dec_
    obtain ⟨ad176, e176, hx176_0⟩ := Kd.at_string (Kd.R_reads' HO175.out).2.2 0 p176 q176
    cases e176
    have qi176 : (0 < t173.length) = True := eq_true (by omega)
    (try rw [show ((0 : Int)).toNat = 0 from rfl] at hx176_0)
    (try rw [Addr.add_zero'] at hx176_0)
    replace p176 := eq_true p176
    replace q176 := eq_true q176
    go_wp2_with (first | (go_at_call 117; (with_reducible refine (spec_l1Int.calls kj15 (rdOf ByteArray.empty t173 0) t177 _ A36.out).mono ?_); rintro e w' ⟨rfl, ⟨nd, rfl⟩⟩) | (go_at_call 102; (with_reducible refine (spec_l1In.calls t177 0 65535 true _ A37.out).mono ?_); rintro e w' ⟨rfl, ⟨nd, rfl⟩⟩; have p179 : 0 ≤ (1 : Int) := (by omega); have q179 : 1 < (t173.length : Int) := dec_; obtain ⟨ad179, e179, hx179_0⟩ := Kd.at_string (Kd.R_reads' HO175.out).2.2 1 p179 q179; obtain rfl : ad176 = ad179 := (by injection e179); (try simp only [show (1 : Int).toNat = 1 from rfl, Nat.reduceMul, Nat.reduceEqDiff, Go.Addr.add, ↓reduceIte] at hx179_0); have qi179 : (1 < t173.length) = True := eq_true (by omega); (try rw [show ((1 : Int)).toNat = 1 from rfl] at hx179_0); replace p179 := eq_true p179; replace q179 := eq_true q179) | (go_at_call 119; (with_reducible refine (spec_l3Target.calls kj15 (rdOf ByteArray.empty t173 1) t180 _ A40.out).mono ?_); rintro e w42 ⟨rfl, hb⟩; replace HO175 := a0_ (Kd.R_below (kR_ HO175.out) hb); replace HB := a0_ (below_step bq0_ hb); clear hb))
    go_meet
    case rel => exact ⟨_, (!t180), rs_, H', jl_ HJ15, ⟨kR_ HO175.out⟩, ⟨bq0_⟩⟩
   case rest =>
    clear HC32
    try clear c1
    try clear p1
    try clear q1
    try clear hx1
    try clear p2
    try clear c3
    try clear c3b0
    try clear c3b1
    try clear c5
    try clear p6
    try clear c7
    try clear c7b0
    try clear c8
    try clear c8b0
    try clear c9
    try clear c9b0
    try clear c10
    try clear c11
    try clear c12
    try clear c14
    try clear c14b0
    try clear c14b1
    try clear c14b2
    try clear p16
    try clear q16
    try clear hx16
    try clear c17
    try clear c17b0
    try clear c17b1
    try clear c18
    try clear c25
    try clear c25b0
    try clear c25b1
    try clear c30
    try clear c30b0
    try clear c30b1
    try clear hx164_0
    try clear p1
    try clear p16
    try clear p164
    try clear p2
    try clear p6
    try clear q1
    try clear q16
    try clear q164
    obtain ⟨kq, x76_31, rfl, HA, HJ31, HO_12, HB⟩ := hcut
    cases kq with
    | zero => exact absurd HA.out (by simp [spec_l3Bytes.j2])
    | succ kj31 =>
     have H := HA.out
     clear HA
     simp only [spec_l3Bytes.j2] at H
     by_cases c45 : x76_31 = true
     case pos =>
      subst c45
      rw [if_pos rfl] at H
      simp only [Option.some.injEq, Prod.mk.injEq] at H
      obtain ⟨rfl, rfl⟩ := H
      go_wp2
      go_ret2
      exact ⟨rr_, bq0_⟩
     replace c45 := Bool.eq_false_iff.mpr c45
     subst c45
     rw [if_neg ff_] at H
     by_cases c46 : 0 < (t173.length : Int)
     case neg =>
      rw [if_neg c46] at H
      exact absurd H (by simp)
     rw [if_pos c46] at H
     have c46b0 := decide_eq_true c46
     have c46b1 : decide (0 < t173.length) = true := decide_eq_true (by omega)
     clear c46
     obtain ⟨t182, A47, H⟩ := ob_ H
     obtain ⟨t183, A48, H⟩ := ob_ H
     by_cases c49 : 1 < (t173.length : Int)
     case neg =>
      rw [if_neg c49] at H
      exact absurd H (by simp)
     rw [if_pos c49] at H
     have c49b0 := decide_eq_true c49
     have c49b1 : decide (1 < t173.length) = true := decide_eq_true (by omega)
     clear c49
     obtain ⟨t185, A50, H⟩ := ob_ H
     by_cases c51 : t183.size + t185.size ≤ 9223372036854775807
     case neg =>
      rw [if_neg c51] at H
      exact absurd H (by simp)
     rw [if_pos c51] at H
     have c51b0 := eq_true c51
     have c51b1 := decide_eq_true c51
     try have c51b2 : (9223372036854775807 < t183.size + t185.size) = False := eq_false (Nat.not_lt.2 c51)
     simp only [Option.some.injEq, Prod.mk.injEq] at H
     obtain ⟨rfl, rfl⟩ := H
     try go_wp2
     replace HO_12 := a0_ (Kd.R_drew HO_12.out)
     replace HB := a0_ (below_drew1 HB.out)
     obtain ⟨Ao53, co53, eo53⟩ := Kd.R_slice HO_12.out
     (first | subst eo53 | (injection eo53 with f1_ f2_ f3_; have f4_ := f1_.symm; have f5_ := f3_.symm; clear f1_ f2_ f3_; subst f4_; subst f5_))
     have p181 : 0 ≤ (0 : Int) := (by omega)
     have q181 : 0 < (t173.length : Int) := dec_
     obtain ⟨ad181, e181, hx181_0⟩ := Kd.at_string (Kd.R_reads' HO_12.out).2.2 0 p181 q181
     cases e181
     have qi181 : (0 < t173.length) = True := eq_true (by omega)
     (try rw [show ((0 : Int)).toNat = 0 from rfl] at hx181_0)
     (try rw [Addr.add_zero'] at hx181_0)
     replace p181 := eq_true p181
     replace q181 := eq_true q181
     have p184 : 0 ≤ (1 : Int) := (by omega)
     have q184 : 1 < (t173.length : Int) := dec_
     obtain ⟨ad184, e184, hx184_0⟩ := Kd.at_string (Kd.R_reads' HO_12.out).2.2 1 p184 q184
     obtain rfl : ad181 = ad184 := (by injection e184)
     (try simp only [show (1 : Int).toNat = 1 from rfl, Nat.reduceMul, Nat.reduceEqDiff, Go.Addr.add, ↓reduceIte] at hx184_0)
     have qi184 : (1 < t173.length) = True := eq_true (by omega)
     (try rw [show ((1 : Int)).toNat = 1 from rfl] at hx184_0)
     replace p184 := eq_true p184
     replace q184 := eq_true q184
     refine stH_ 12 [] (c1_ hx181_0 (e1_ hx184_0)) (fun hHeld => ?_); refine with_tabW spec_l3Bytes.tab26 spec_l3Bytes.bits26 (fun HT_ HW_ => ?_)
     generalize wc.drew = w52 at HO_12 HB hx181_0 hx184_0 hHeld ⊢
     refine p_ 0 77 ?_
     refine p_ 1 78 ?_
     refine p_ 5 82 ?_
     refine p_ 6 83 ?_
     refine t_ 2 79 ?_
     refine t_ 7 84 ?_
     refine oneS_ 3 (some 80) (fun K hK => ?_)
     refine goes_ Tryz.func117 (by kernel_rfl) rfl #[.string (rdOf ByteArray.empty t173 0)] (by rfl) rfl rfl argsS_ ?_
     with_reducible refine (spec_l1Int.calls kj31 (rdOf ByteArray.empty t173 0) t182 _ A47.out).mono ?_
     rintro e w' ⟨rfl, ⟨nd, rfl⟩⟩
     refine ⟨_, rfl, ?_⟩
     refine hK.out _ _ (c1_ hHeld.1 (e1_ hHeld.2)).out (fun hHeld => ?_)
     clear hK K
     refine normS_ ?_
     refine oneS_ 4 (some 81) (fun K hK => ?_)
     refine goes_ Tryz.func118 (by kernel_rfl) rfl #[.int .i64 t182, .int .i64 2] (by rfl) rfl rfl argsS_ ?_
     with_reducible refine (spec_l3Number.calls kj31 t182 2 t183 _ A48.out).mono ?_
     rintro e w54 ⟨rfl, hb⟩
     have HS0_ := (hb.cell (World.block_lt_of_cell? _ _ (hHeld.1))).trans (hHeld.1)
     have HS1_ := (hb.cell (World.block_lt_of_cell? _ _ (hHeld.2))).trans (hHeld.2)
     refine ⟨_, rfl, ?_⟩
     replace HO_12 := a0_ (Kd.R_below (kR_ HO_12.out) hb)
     replace HB := a0_ (below_step bq0_ hb)
     (try clear hb)
     (try clear hb2)
     (try clear hk)
     (try clear hi)
     refine hK.out _ _ (c1_ HS0_ (e1_ HS1_)).out (fun hHeld => ?_)
     clear hK K
     refine normS_ ?_
     refine oneS_ 8 (some 85) (fun K hK => ?_)
     refine goes_ Tryz.func120 (by kernel_rfl) rfl #[.string (rdOf ByteArray.empty t173 1)] (by rfl) rfl rfl argsS_ ?_
     with_reducible refine (spec_l2Bytes.calls kj31 (rdOf ByteArray.empty t173 1) t185 _ A50.out).mono ?_
     rintro e w55 ⟨rfl, hb⟩
     have HS0_ := (hb.cell (World.block_lt_of_cell? _ _ (hHeld.1))).trans (hHeld.1)
     have HS1_ := (hb.cell (World.block_lt_of_cell? _ _ (hHeld.2))).trans (hHeld.2)
     refine ⟨_, rfl, ?_⟩
     replace HO_12 := a0_ (Kd.R_below (kR_ HO_12.out) hb)
     replace HB := a0_ (below_step bq0_ hb)
     (try clear hb)
     (try clear hb2)
     (try clear hk)
     (try clear hi)
     refine hK.out _ _ (c1_ HS0_ (e1_ HS1_)).out (fun hHeld => ?_)
     clear hK K
     refine normS_ ?_
     refine p_ 9 86 ?_
     refine p_ 10 4 ?_
     refine p_ 11 5 ?_
     refine done_ (done_of HT_.out (by kernel_rfl)) ?_
     try go_wp2
     go_ret2
     exact ⟨rr_, bq0_⟩
def impl_isTarget.f (a0 : ByteArray) : Option (Bool) := if a0.toList = ([] : List UInt8) then (some false) else ((impl_GoodName.f a0).bind fun t242 => (if t242 = true then ((strings_Contains.f a0 (⟨#[42]⟩ : ByteArray)).bind fun t243 => (some (!t243))) else (some false)))
theorem impl_isTarget.calls (a0 : ByteArray) (r : Bool) (w : World) (h : impl_isTarget.f a0 = some r) :
 Calls Tryz.prog 90 #[.string a0] w fun e w' => e = .returned (.bool r) ∧ Below w.heap.size w w' := by
 have HB := a0_ (Below.refl w.heap.size w)
 have H := h
 clear h
 unfold impl_isTarget.f at H
 by_cases c2 : a0.toList = ([] : List UInt8)
 case pos =>
  rw [if_pos c2] at H
  have c2b0 := beq_iff_eq.mpr c2
  have c2b1 := bne_eq_false_iff_eq.mpr c2
  clear c2
  obtain rfl := Option.some.inj H
  go_enter Tryz.func90, Tryz.ntmps90
  go_wp2
  go_ret
  exact ⟨rr_, bq0_⟩
 rw [if_neg c2] at H
 have c2b0 := beq_eq_false_iff_ne.mpr c2
 have c2b1 := bne_iff_ne.mpr c2
 obtain ⟨t242, A3, H⟩ := ob_ H
 by_cases c4 : t242 = true
 case neg =>
  replace c4 := Bool.eq_false_iff.mpr c4
  subst c4
  rw [if_neg ff_] at H
  obtain rfl := Option.some.inj H
  go_enter Tryz.func90, Tryz.ntmps90
  go_wp2_with (first | (go_at_call 83; (with_reducible refine (impl_GoodName.calls a0 false _ A3.out).mono ?_); rintro e w7 ⟨rfl, hb⟩; replace HB := a0_ (below_step bq0_ hb); clear hb))
  go_ret
  exact ⟨rr_, bq0_⟩
 subst c4
 rw [if_pos rfl] at H
 obtain ⟨t243, A5, H⟩ := ob_ H
 obtain rfl := Option.some.inj H
 go_enter Tryz.func90, Tryz.ntmps90
 go_wp2_with (first | (go_at_call 83; (with_reducible refine (impl_GoodName.calls a0 true _ A3.out).mono ?_); rintro e w6 ⟨rfl, hb⟩; replace HB := a0_ (below_step bq0_ hb); clear hb) | (go_at_call 151; (with_reducible refine (strings_Contains.calls a0 (⟨#[42]⟩ : ByteArray) t243 _ A5.out).mono ?_); rintro e w' ⟨rfl, ⟨nd, rfl⟩⟩))
 go_ret
 exact ⟨rr_, bq0_⟩
mutual
def spec_l1Cur_records.j0 : Nat → List (S45) → Int → List Int → Int → Int → Option ((List (S45)) × Int × Int)
 | 0, _, _, _, _, _ => none
 | k + 1, x3, x4, x1000, x1001, x1002 => spec_l1Cur_records.l0 k x3 x4 x1000 x1001 x1002
def spec_l1Cur_records.l0 : Nat → List (S45) → Int → List Int → Int → Int → Option ((List (S45)) × Int × Int)
 | 0, _, _, _, _, _ => none
 | k + 1, x3, x4, x1000, x1001, x1002 => if x4 > 0 then ((spec_l1Cur_record.f k x1000 x1001 x1002).bind fun bt1164 => ((spec_l1Cur_one.f x1000 bt1164.2.2.2.2.1 bt1164.2.2.2.2.2 6).bind fun bt1171 => (if bt1171.1 = true then (if x3.length < 2932031007402 then (spec_l1Cur_records.l0 k (x3 ++ [(⟨bt1164.1, bt1164.2.1, bt1164.2.2.1, bt1164.2.2.2.1⟩ : S45)]) (wrap64 (x4 - 1)) x1000 bt1171.2.1 bt1171.2.2) else (none)) else (if x3.length < 2932031007402 then (spec_l1Cur_records.l0 k (x3 ++ [(⟨bt1164.1, bt1164.2.1, 60, bt1164.2.2.2.1⟩ : S45)]) (wrap64 (x4 - 1)) x1000 bt1171.2.1 bt1171.2.2) else (none))))) else (some (x3, x1001, x1002))
end
def spec_l1Cur_records.f (k : Nat) (s0_0 : List Int) (s0_1 : Int) (s0_2 : Int) : Option ((List (S45)) × Int × Int) := (spec_l1Cur_pick.f s0_0 s0_1 s0_2 9).bind fun bt1158 => ((spec_l1Cur_one.f s0_0 bt1158.2.1 bt1158.2.2 30).bind fun bt1161 => (if bt1161.1 = true then (spec_l1Cur_records.j0 k ([] : List (S45)) 61 s0_0 bt1161.2.1 bt1161.2.2) else (spec_l1Cur_records.j0 k ([] : List (S45)) bt1158.1 s0_0 bt1161.2.1 bt1161.2.2)))
theorem spec_l1Cur_records.calls (k : Nat) (g : Nat) (s0_0 : List Int) (s0_1 : Int) (s0_2 : Int) (r1 : List (S45)) (r2 : Int) (r3 : Int) (w0 w : World) (hI : IsS117 w0 w g s0_0 s0_1 s0_2) (hB : Below w0.heap.size w0 w) (h : spec_l1Cur_records.f k s0_0 s0_1 s0_2 = some (r1, r2, r3)) :
 Calls Tryz.prog 109 #[.pointer (some ⟨g, 0, none⟩)] w fun e w' => ∃ v0_ : Value, e = .returned (v0_) ∧ Kd.R k45 45 w' w.heap.size (fun _ => True) v0_ r1 ∧ IsS117 w0 w' g s0_0 r2 r3 ∧ Below w0.heap.size w0 w' ∧ KeepBut w w' g none := by
 have hu45 := Tryz.underlying45
 have HI0 := a0_ hI
 have HK := a0_ (KeepBut.refl w g none)
 have HL := a0_ hB.size
 clear hI
 have HW0 := a0_ hB.size
 have HB := a0_ hB
 clear hB
 have H := h
 clear h
 unfold spec_l1Cur_records.f at H
 obtain ⟨⟨t1158, t1159, t1160⟩, A2, H⟩ := ob_ H
 obtain ⟨⟨t1161, t1162, t1163⟩, A3, H⟩ := ob_ H
 have HC4 := a0_ H
 clear H
 go_enter Tryz.func109, Tryz.ntmps109
 go_upto_if 9 with (first | ((with_reducible refine gt_ 111 rfl ?_); refine gs_ 7 Tryz.func111 #[.pointer (some ⟨g, 0, none⟩), .int .i64 9] ?_; (with_reducible refine (spec_l1Cur_pick.calls g s0_0 s0_1 s0_2 9 t1158 t1159 t1160 w0 _ ?side1 ?side2 A2.out).mono ?_); (case side1 => exact i117_); (case side2 => exact bq2_); rintro e w5 ⟨rfl, hi, hb, hk⟩; refine ⟨_, rfl, ?_⟩; replace HK := a0_ (kt_ HK hk (.inl rfl)); replace HB := a0_ (hb); replace HI0 := a0_ (hi); clear hb hk hi) | ((with_reducible refine gt_ 99 rfl ?_); refine gs_ 9 Tryz.func99 #[.pointer (some ⟨g, 0, none⟩), .int .i64 30] ?_; (with_reducible refine (spec_l1Cur_one.calls g s0_0 t1159 t1160 30 t1161 t1162 t1163 w0 _ ?side1 ?side2 A3.out).mono ?_); (case side1 => exact i117_); (case side2 => exact bq2_); rintro e w6 ⟨rfl, hi, hb, hk⟩; refine ⟨_, rfl, ?_⟩; replace HK := a0_ (kt_ HK hk (.inl rfl)); replace HB := a0_ (hb); replace HI0 := a0_ (hi); clear hb hk hi))
 (try simp only [Act.put, List.setIfInBounds_toArray, List.set_cons_zero, List.set_cons_succ])
 go_cut [4] (fun v4 wc => ∃ (kq : Nat) (x4_3 : Int), v4 = .int .i64 x4_3 ∧ Aside0 (spec_l1Cur_records.j0 kq ([] : List (S45)) x4_3 s0_0 t1162 t1163 = some (r1, r2, r3)) ∧ Aside0 (kq ≤ k) ∧ Aside0 (Kd.R k45 45 wc w.heap.size (fun _ => True) (.slice none 0 0) ([] : List (S45))) ∧ Aside0 (IsS117 w0 wc g s0_0 t1162 t1163) ∧ Aside0 (KeepBut w wc g none) ∧ Aside0 (Below w0.heap.size w0 wc))
 case first =>
  have H := HC4.out
  clear HC4
  by_cases c7 : t1161 = true
  case pos =>
   subst c7
   rw [if_pos rfl] at H
   have H' := a0_ H
   clear H
   go_wp2
   go_meet
   case rel => exact ⟨_, (61), rs_, H', ⟨by first | omega | exact Nat.le_refl _⟩, ⟨by first | exact Kd.R_nil _ _ _ _ _ | exact Kd.N_nil _ _ _ _ _ | exact Kd.V_nil _ _ _ _ _ | exact Kd.Q_nil _ _ _ _ _ | exact Kd.S_nil _ _ _ _ _⟩, ⟨i117_⟩, ⟨kq_⟩, ⟨bq2_⟩⟩
  replace c7 := Bool.eq_false_iff.mpr c7
  subst c7
  rw [if_neg ff_] at H
  have H' := a0_ H
  clear H
  go_wp2
  go_meet
  case rel => exact ⟨_, (t1158), rs_, H', ⟨by first | omega | exact Nat.le_refl _⟩, ⟨by first | exact Kd.R_nil _ _ _ _ _ | exact Kd.N_nil _ _ _ _ _ | exact Kd.V_nil _ _ _ _ _ | exact Kd.Q_nil _ _ _ _ _ | exact Kd.S_nil _ _ _ _ _⟩, ⟨i117_⟩, ⟨kq_⟩, ⟨bq2_⟩⟩
 case rest =>
  clear HC4
  obtain ⟨kq, x4_3, rfl, HA, HJ3, HO_3, HI0, HK, HB⟩ := hcut
  cases kq with
  | zero => exact absurd HA.out (by simp [spec_l1Cur_records.j0])
  | succ kj3 =>
   have H := HA.out
   clear HA
   simp only [spec_l1Cur_records.j0] at H
   have H' := a0_ H
   clear H
   go_wp2
   go_loopg [3, 4] kj3 (fun kq v3 v4 w' => ∃ (x3_2 : List (S45)) (x4_2 : Int) (x1001_2 : Int) (x1002_2 : Int), v4 = .int .i64 x4_2 ∧ Aside0 (spec_l1Cur_records.l0 kq x3_2 x4_2 s0_0 x1001_2 x1002_2 = some (r1, r2, r3)) ∧ Aside0 (kq ≤ kj3) ∧ Aside0 (Kd.R k45 45 w' w.heap.size (fun _ => True) v3 x3_2) ∧ Aside0 (IsS117 w0 w' g s0_0 x1001_2 x1002_2) ∧ Aside0 (KeepBut w w' g none) ∧ Aside0 (Below w0.heap.size w0 w'))
   case atStart => exact ⟨(([] : List (S45))), (x4_3), (t1162), (t1163), rs_, H', ⟨Nat.le_refl _⟩, ⟨kR_ HO_3.out⟩, ⟨i117_⟩, ⟨kq_⟩, ⟨bq2_⟩⟩
   case round =>
    clear H'
    try clear c1
    try clear p2
    try clear c7
    try clear p2
    obtain ⟨x3_2, x4_2, x1001_2, x1002_2, rfl, HA, HK2, HO_3, HI0, HK, HB⟩ := hrel
    cases gk with
    | zero => exact absurd HA.out (by simp [spec_l1Cur_records.l0])
    | succ k2 =>
     have H := HA.out
     clear HA
     simp only [spec_l1Cur_records.l0] at H
     by_cases c8 : x4_2 > 0
     case neg =>
      rw [if_neg c8] at H
      have c8b0 := decide_eq_false c8
      clear c8
      simp only [Option.some.injEq, Prod.mk.injEq] at H
      obtain ⟨rfl, rfl, rfl⟩ := H
      go_wp2
      go_ret
      exact ⟨_, rr_, kR_ HO_3.out, i117_, bq2_, kq_⟩
     rw [if_pos c8] at H
     have c8b0 := decide_eq_true c8
     clear c8
     obtain ⟨⟨t1164, t1165, t1166, t1167, t1168, t1169⟩, A9, H⟩ := ob_ H
     obtain ⟨⟨t1171, t1172, t1173⟩, A10, H⟩ := ob_ H
     by_cases c11 : t1171 = true
     case pos =>
      subst c11
      rw [if_pos rfl] at H
      by_cases c12 : x3_2.length < 2932031007402
      case neg =>
       rw [if_neg c12] at H
       exact absurd H (by simp)
      rw [if_pos c12] at H
      have LMc12 := a0_ c12
      clear c12
      obtain ⟨y1174, hy1174⟩ : ∃ y_ : List (S45), y_ = (x3_2 ++ [(⟨t1164, t1165, t1166, t1167⟩ : S45)]) := ⟨_, rfl⟩
      rw [← hy1174] at H
      have Ny1174 := a0_ hy1174
      clear hy1174
      have H' := a0_ H
      clear H
      go_wp2_with (first | ((with_reducible refine gt_ 97 rfl ?_); refine gs_ 15 Tryz.func97 #[.pointer (some ⟨g, 0, none⟩)] ?_; (with_reducible refine (spec_l1Cur_record.calls k2 g s0_0 x1001_2 x1002_2 t1164 t1165 t1166 t1167 t1168 t1169 w0 _ ?side1 ?side2 A9.out).mono ?_); (case side1 => exact i117_); (case side2 => exact bq2_); rintro e w13 ⟨rfl, hi, hb, hk⟩; refine ⟨_, rfl, ?_⟩; replace HO_3 := a0_ (Kd.R_mono (Kd.R_keep (IsS117.apart (show IsS117 w0 _ g s0_0 x1001_2 x1002_2 from i117_) (kR_ HO_3.out) (by decide)) hk (fun _ h => h.2)) (fun _ h => h.1)); replace HK := a0_ (kt_ HK hk (.inl rfl)); replace HB := a0_ (hb); replace HI0 := a0_ (hi); clear hb hk hi) | ((with_reducible refine gate_dst (N := 5) rfl ?_); refine boxS_ 5 #[.string (⟨#[]⟩ : ByteArray), .int .i64 0, .int .i64 0, .string (⟨#[]⟩ : ByteArray)] 45 (fun gb1170 hg w14 hbox hb => ?_); replace HO_3 := a0_ (Kd.R_below (Kd.R_elderB (kR_ HO_3.out) gb1170 (Nat.le_of_eq hg.symm)) hb); replace HB := a0_ (below_step bq2_ hb); have BK1170 := a0_ (hbox); have GW1170 := a0_ ((by rw [hg]; exact (keep_size (w := w) (g := g) (row := none) kq_) : w.heap.size ≤ gb1170)); have GE1170 := a0_ ((Nat.le_trans HW0.out (by rw [hg]; exact (keep_size (w := w) (g := g) (row := none) kq_) : w.heap.size ≤ gb1170) : w0.heap.size ≤ gb1170)); replace HK := a0_ (kt_ HK (KeepBut.of_below hb g none) (.inl rfl)); have NB0_1170 := a0_ ((by rw [hg]; exact Nat.ne_of_lt (IsS117.lt (show IsS117 w0 _ g s0_0 t1168 t1169 from i117_)) : g ≠ gb1170)); have NB1170_0 := a0_ ((by rw [hg]; exact Nat.ne_of_gt (IsS117.lt (show IsS117 w0 _ g s0_0 t1168 t1169 from i117_)) : gb1170 ≠ g)); replace HI0 := a0_ (IsS117.below i117_ hb); clear hb hbox hg; have hnb15 := NB1170_0.out; have hnc15 := NB0_1170.out; obtain ⟨_, _, _, _, _, _, _, _⟩ := bk4_ BK1170.out) | ((with_reducible refine gt_ 99 rfl ?_); refine gs_ 17 Tryz.func99 #[.pointer (some ⟨g, 0, none⟩), .int .i64 6] ?_; (with_reducible refine (spec_l1Cur_one.calls g s0_0 t1168 t1169 6 true t1172 t1173 w0 _ ?side1 ?side2 A10.out).mono ?_); (case side1 => exact i117_); (case side2 => exact bq2_); rintro e w17 ⟨rfl, hi, hb, hk⟩; refine ⟨_, rfl, ?_⟩; replace HO_3 := a0_ (Kd.R_mono (Kd.R_keep (IsS117.apart (show IsS117 w0 _ g s0_0 t1168 t1169 from i117_) (kR_ (Kd.R_mono (rf4_ gb1170 (Kd.R_mono HO_3.out (fun k_ hk => (⟨hk, hk.2⟩ : _ ∧ k_ ≠ gb1170))) (fun _ hk => hk.2) (.string t1164) (.int .i64 t1165) (.int .i64 t1166) (.string t1167)) (fun _ h_ => h_.1))) (by decide)) hk (fun _ h => h.2)) (fun _ h => h.1)); replace BK1170 := a0_ (KeepBut.blk hk (g' := gb1170) (o := .cells #[.string t1164, .int .i64 t1165, .int .i64 t1166, .string t1167] 45 (0, 0)) (put4_ BK1170.out) NB1170_0.out (by simp)); replace HK := a0_ (kt_ HK hk (.inl rfl)); replace HB := a0_ (hb); replace HI0 := a0_ (hi); clear hb hk hi; obtain ⟨_, _, _, _, _, _, _, _⟩ := bk4_ BK1170.out) | ((with_reducible refine gate_builtin (b := .append) (xs := #[.tmp 20, .tmp 22]) rfl ?_); at_builtin; refine Kd.R_append k45 w.heap.size rfl (.tmp 20) (.tmp 22) 27 45 (.agg #[(.string ⟨#[]⟩), (.int .i64 0), (.int .i64 0), (.string ⟨#[]⟩)]) 48 rfl Tryz.underlying27 info45 rfl (by decide) (by omega) u3 x3_2 (⟨t1164, t1165, t1166, t1167⟩ : S45) [.string t1164, .int .i64 t1165, .int .i64 t1166, .string t1167] (fun k_ => k_ ≠ gb1170) (fun _ => False) rfl rfl ?aP (fun _ hk => hk.elim) ?aF ?aO (Below.refl _ _) ?aS ?aL ?_; (case aP => exact k45_mkM _ _ _ (⟨t1164, t1165, t1166, t1167⟩ : S45)); (case aF => exact (fun k_ hk => Kd.freshB (g := gb1170) (o := .cells #[.string t1164, .int .i64 t1165, .int .i64 t1166, .string t1167] 45 (0, 0)) (kB_ BK1170.out) k_ hk)); (case aO => exact (kR_ (Kd.R_mono HO_3.out (fun _ hk => hk.2)))); (case aS => exact (keep_size (w := w) (g := g) (row := none) kq_)); (case aL => have := LMc12.out; omega); intro v1175 w19 ho hb hg hat; rw [← Ny1174.out] at ho; replace HI0 := a0_ (IsS117.grown (show IsS117 w0 _ g s0_0 t1172 t1173 from i117_) hg (IsS117.own_ne HI0.out HO_3.out (by decide))); replace BK1170 := a0_ (blk_grown (g := gb1170) (o := .cells #[.string t1164, .int .i64 t1165, .int .i64 t1166, .string t1167] 45 (0, 0)) (kB_ BK1170.out) hg (Kd.R_away HO_3.out (fun _ hk => hk.2))); replace HB := a0_ (below_weaken bq2_ HL.out hb); replace HK := a0_ (kt_ HK (KeepBut.of_grown hg g) (Kd.R_base2 HO_3.out)); have HO1176 := a0_ (ho); clear HO_3; clear ho hb hg hat))
      go_roundg k2
      case measure => have := HJ3.out; have := HK2.out; omega
      case rel => exact ⟨(y1174), (wrap64 (x4_2 - 1)), (t1172), (t1173), rs_, H', jm_ HJ3 HK2, ⟨kR_ (Kd.R_mono HO1176.out (fun _ hk => trivial))⟩, ⟨i117_⟩, ⟨kq_⟩, ⟨bq2_⟩⟩
     replace c11 := Bool.eq_false_iff.mpr c11
     subst c11
     rw [if_neg ff_] at H
     by_cases c20 : x3_2.length < 2932031007402
     case neg =>
      rw [if_neg c20] at H
      exact absurd H (by simp)
     rw [if_pos c20] at H
     have LMc20 := a0_ c20
     clear c20
     obtain ⟨y1177, hy1177⟩ : ∃ y_ : List (S45), y_ = (x3_2 ++ [(⟨t1164, t1165, 60, t1167⟩ : S45)]) := ⟨_, rfl⟩
     rw [← hy1177] at H
     have Ny1177 := a0_ hy1177
     clear hy1177
     have H' := a0_ H
     clear H
     go_wp2_with (first | ((with_reducible refine gt_ 97 rfl ?_); refine gs_ 15 Tryz.func97 #[.pointer (some ⟨g, 0, none⟩)] ?_; (with_reducible refine (spec_l1Cur_record.calls k2 g s0_0 x1001_2 x1002_2 t1164 t1165 t1166 t1167 t1168 t1169 w0 _ ?side1 ?side2 A9.out).mono ?_); (case side1 => exact i117_); (case side2 => exact bq2_); rintro e w21 ⟨rfl, hi, hb, hk⟩; refine ⟨_, rfl, ?_⟩; replace HO_3 := a0_ (Kd.R_mono (Kd.R_keep (IsS117.apart (show IsS117 w0 _ g s0_0 x1001_2 x1002_2 from i117_) (kR_ HO_3.out) (by decide)) hk (fun _ h => h.2)) (fun _ h => h.1)); replace HK := a0_ (kt_ HK hk (.inl rfl)); replace HB := a0_ (hb); replace HI0 := a0_ (hi); clear hb hk hi) | ((with_reducible refine gate_dst (N := 5) rfl ?_); refine boxS_ 5 #[.string (⟨#[]⟩ : ByteArray), .int .i64 0, .int .i64 0, .string (⟨#[]⟩ : ByteArray)] 45 (fun gb1170 hg w22 hbox hb => ?_); replace HO_3 := a0_ (Kd.R_below (Kd.R_elderB (kR_ HO_3.out) gb1170 (Nat.le_of_eq hg.symm)) hb); replace HB := a0_ (below_step bq2_ hb); have BK1170 := a0_ (hbox); have GW1170 := a0_ ((by rw [hg]; exact (keep_size (w := w) (g := g) (row := none) kq_) : w.heap.size ≤ gb1170)); have GE1170 := a0_ ((Nat.le_trans HW0.out (by rw [hg]; exact (keep_size (w := w) (g := g) (row := none) kq_) : w.heap.size ≤ gb1170) : w0.heap.size ≤ gb1170)); replace HK := a0_ (kt_ HK (KeepBut.of_below hb g none) (.inl rfl)); have NB0_1170 := a0_ ((by rw [hg]; exact Nat.ne_of_lt (IsS117.lt (show IsS117 w0 _ g s0_0 t1168 t1169 from i117_)) : g ≠ gb1170)); have NB1170_0 := a0_ ((by rw [hg]; exact Nat.ne_of_gt (IsS117.lt (show IsS117 w0 _ g s0_0 t1168 t1169 from i117_)) : gb1170 ≠ g)); replace HI0 := a0_ (IsS117.below i117_ hb); clear hb hbox hg; have hnb23 := NB1170_0.out; have hnc23 := NB0_1170.out; obtain ⟨_, _, _, _, _, _, _, _⟩ := bk4_ BK1170.out) | ((with_reducible refine gt_ 99 rfl ?_); refine gs_ 17 Tryz.func99 #[.pointer (some ⟨g, 0, none⟩), .int .i64 6] ?_; (with_reducible refine (spec_l1Cur_one.calls g s0_0 t1168 t1169 6 false t1172 t1173 w0 _ ?side1 ?side2 A10.out).mono ?_); (case side1 => exact i117_); (case side2 => exact bq2_); rintro e w25 ⟨rfl, hi, hb, hk⟩; refine ⟨_, rfl, ?_⟩; replace HO_3 := a0_ (Kd.R_mono (Kd.R_keep (IsS117.apart (show IsS117 w0 _ g s0_0 t1168 t1169 from i117_) (kR_ (Kd.R_mono (rf4_ gb1170 (Kd.R_mono HO_3.out (fun k_ hk => (⟨hk, hk.2⟩ : _ ∧ k_ ≠ gb1170))) (fun _ hk => hk.2) (.string t1164) (.int .i64 t1165) (.int .i64 t1166) (.string t1167)) (fun _ h_ => h_.1))) (by decide)) hk (fun _ h => h.2)) (fun _ h => h.1)); replace BK1170 := a0_ (KeepBut.blk hk (g' := gb1170) (o := .cells #[.string t1164, .int .i64 t1165, .int .i64 t1166, .string t1167] 45 (0, 0)) (put4_ BK1170.out) NB1170_0.out (by simp)); replace HK := a0_ (kt_ HK hk (.inl rfl)); replace HB := a0_ (hb); replace HI0 := a0_ (hi); clear hb hk hi; obtain ⟨_, _, _, _, _, _, _, _⟩ := bk4_ BK1170.out) | ((with_reducible refine gate_builtin (b := .append) (xs := #[.tmp 20, .tmp 22]) rfl ?_); at_builtin; refine Kd.R_append k45 w.heap.size rfl (.tmp 20) (.tmp 22) 27 45 (.agg #[(.string ⟨#[]⟩), (.int .i64 0), (.int .i64 0), (.string ⟨#[]⟩)]) 48 rfl Tryz.underlying27 info45 rfl (by decide) (by omega) u3 x3_2 (⟨t1164, t1165, 60, t1167⟩ : S45) [.string t1164, .int .i64 t1165, .int .i64 60, .string t1167] (fun k_ => k_ ≠ gb1170) (fun _ => False) rfl (by first | (go_simp; done) | (go_simp; rfl)) ?aP (fun _ hk => hk.elim) ?aF ?aO (Below.refl _ _) ?aS ?aL ?_; (case aP => exact k45_mkM _ _ _ (⟨t1164, t1165, 60, t1167⟩ : S45)); (case aF => exact (fun k_ hk => Kd.freshB (g := gb1170) (o := .cells #[.string t1164, .int .i64 t1165, .int .i64 60, .string t1167] 45 (0, 0)) (by (with_reducible repeat (first | refine blk_drewN ?_ _ | refine blk_drew ?_ | refine blk_alloc ?_ _)); refine blk_put (cs := #[.string t1164, .int .i64 t1165, .int .i64 t1166, .string t1167]) ?_ 2 _ rfl; (with_reducible repeat (first | refine blk_drewN ?_ _ | refine blk_drew ?_ | refine blk_alloc ?_ _)); exact BK1170.out) k_ hk)); (case aO => exact (kR_ (Kd.R_mono (Kd.R_far (p := ⟨gb1170, 2, none⟩) (Kd.R_mono HO_3.out (fun k_ hk => (⟨hk, hk.2⟩ : _ ∧ k_ ≠ gb1170))) (fun _ hk => hk.2) (.int .i64 60)) (fun _ hk => hk.1.2)))); (case aS => exact (keep_size (w := w) (g := g) (row := none) kq_)); (case aL => have := LMc20.out; omega); intro v1178 w27 ho hb hg hat; rw [← Ny1177.out] at ho; replace HI0 := a0_ (IsS117.grown (show IsS117 w0 _ g s0_0 t1172 t1173 from i117_) hg (IsS117.own_ne HI0.out HO_3.out (by decide))); replace BK1170 := a0_ (blk_grown (g := gb1170) (o := .cells #[.string t1164, .int .i64 t1165, .int .i64 60, .string t1167] 45 (0, 0)) (by (with_reducible repeat (first | refine blk_drewN ?_ _ | refine blk_drew ?_ | refine blk_alloc ?_ _)); refine blk_put (cs := #[.string t1164, .int .i64 t1165, .int .i64 t1166, .string t1167]) ?_ 2 _ rfl; (with_reducible repeat (first | refine blk_drewN ?_ _ | refine blk_drew ?_ | refine blk_alloc ?_ _)); exact BK1170.out) hg (Kd.R_away HO_3.out (fun _ hk => hk.2))); replace HB := a0_ (below_weaken bq2_ HL.out hb); replace HK := a0_ (kt_ HK (KeepBut.of_grown hg g) (Kd.R_base2 HO_3.out)); have HO1179 := a0_ (ho); clear HO_3; clear ho hb hg hat))
     go_roundg k2
     case measure => have := HJ3.out; have := HK2.out; omega
     case rel => exact ⟨(y1177), (wrap64 (x4_2 - 1)), (t1172), (t1173), rs_, H', jm_ HJ3 HK2, ⟨kR_ (Kd.R_mono HO1179.out (fun _ hk => trivial))⟩, ⟨i117_⟩, ⟨kq_⟩, ⟨bq2_⟩⟩
end Go.Proofs.YtiegkjimpclmaaaGreatDoor.P
namespace Go.Proofs.YtiegkjimpclmaaaGreatDoor.P
def joinL (l : List ByteArray) : List UInt8 := Lib.join (l.map (·.data.toList)) [46]
theorem label_size {l : List UInt8} (h : isLabelL l = true) : l.length ≤ 20 := by
 unfold isLabelL at h
 simp only [Bool.or_eq_true, Bool.and_eq_true, decide_eq_true_eq, beq_iff_eq] at h
 rcases h with rfl | h
 · simp
 · exact h.1.2
def nameR (l : List ByteArray) : ByteArray × Bool :=
 if decide (l.length ≤ 8) && l.all (fun x => isLabelL x.data.toList) then (if goodL (joinL l) = true then (mkB (joinL l), true) else ((⟨#[]⟩ : ByteArray), false)) else ((⟨#[]⟩ : ByteArray), false)
def impl_NameOf.f (l : List ByteArray) : Option (ByteArray × Bool) := some (nameR l)
end Go.Proofs.YtiegkjimpclmaaaGreatDoor.P
