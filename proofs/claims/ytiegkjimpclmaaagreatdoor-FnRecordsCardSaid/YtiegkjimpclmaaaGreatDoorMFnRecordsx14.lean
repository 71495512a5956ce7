/- FnRecords: part 15 of 29 of my texts for this claim, joined; the theorem stands in the last. Conditions: none beyond the statement's. -/
import Derived.Test.YtiegkjimpclmaaaGreatDoorMFnRecordsx12
import Derived.Test.YtiegkjimpclmaaaGreatDoorMFnRecordsx13
namespace Go.Proofs.YtiegkjimpclmaaaGreatDoor.P
open Go.RowKit Go.Proofs.YtiegkjimpclmaaaGreatDoorW.PrintWords Go.Proofs.YtiegkjimpclmaaaGreatDoorW.PrintLast Go.Proofs.YtiegkjimpclmaaaGreatDoorW.PrintMore
attribute [local go_sem] max2_int min2_int max_two min_two max_three min_three max_four min_four
set_option linter.unusedVariables false
set_option linter.unusedSimpArgs false
mutual
def spec_DrawCompareRecords.j0 : Nat → List Int → Int → Int → ByteArray → Int → Int → ByteArray → ByteArray → Int → Int → ByteArray → Option (ByteArray × Int × Int × ByteArray × ByteArray × Int × Int × ByteArray)
 | 0, _, _, _, _, _, _, _, _, _, _, _ => none
 | k + 1, x773000, x773001, x773002, x780000, x780001, x780002, x780003, x787000, x787001, x787002, x787003 => (spec_l1Cur_one.f x773000 x773001 x773002 6).bind fun bt790 => (if bt790.1 = true then (spec_DrawCompareRecords.j1 k x780000 x780001 x780002 x780003 x780000 x780001 x780002 x780003) else (spec_DrawCompareRecords.j1 k x780000 x780001 x780002 x780003 x787000 x787001 x787002 x787003))
def spec_DrawCompareRecords.j1 : Nat → ByteArray → Int → Int → ByteArray → ByteArray → Int → Int → ByteArray → Option (ByteArray × Int × Int × ByteArray × ByteArray × Int × Int × ByteArray)
 | 0, _, _, _, _, _, _, _, _ => none
 | k + 1, x780000, x780001, x780002, x780003, x787000, x787001, x787002, x787003 => some (x780000, x780001, x780002, x780003, x787000, x787001, x787002, x787003)
end
def spec_DrawCompareRecords.f (k : Nat) (l0 : List Int) : Option (ByteArray × Int × Int × ByteArray × ByteArray × Int × Int × ByteArray) := (spec_l1Cur_record.f k l0 0 0).bind fun bt773 => ((spec_l1Cur_record.f k l0 bt773.2.2.2.2.1 bt773.2.2.2.2.2).bind fun bt780 => ((spec_l1Cur_one.f l0 bt780.2.2.2.2.1 bt780.2.2.2.2.2 3).bind fun bt787 => (if bt787.1 = true then (spec_DrawCompareRecords.j0 k l0 bt787.2.1 bt787.2.2 bt773.1 bt773.2.1 bt773.2.2.1 bt773.2.2.2.1 bt773.1 bt780.2.1 bt780.2.2.1 bt780.2.2.2.1) else (spec_DrawCompareRecords.j0 k l0 bt787.2.1 bt787.2.2 bt773.1 bt773.2.1 bt773.2.2.1 bt773.2.2.2.1 bt780.1 bt780.2.1 bt780.2.2.1 bt780.2.2.2.1))))
set_option maxHeartbeats 8000000 in
set_option maxRecDepth 100000 in
theorem spec_DrawCompareRecords.calls (k : Nat) (A0 : Option Addr) (c0 : Nat) (l0 : List Int) (r1 : ByteArray) (r2 : Int) (r3 : Int) (r4 : ByteArray) (r5 : ByteArray) (r6 : Int) (r7 : Int) (r8 : ByteArray) (w : World) (hr0 : Kd.C (Kd.int .u8) w A0 l0.length l0) (hc0 : l0.length ≤ c0) (h : spec_DrawCompareRecords.f k l0 = some (r1, r2, r3, r4, r5, r6, r7, r8)) :
 Calls Tryz.prog 35 #[.slice A0 l0.length c0] w fun e w' => e = .returned (.tuple #[.agg #[.string r1, .int .i64 r2, .int .i64 r3, .string r4], .agg #[.string r5, .int .i64 r6, .int .i64 r7, .string r8]]) ∧ Below w.heap.size w w' := by
 have hu45 := Tryz.underlying45
 have hu117 := Tryz.underlying117
 have HR0 := a0_ hr0
 have HC0 := a0_ hc0
 clear hr0 hc0
 have HB := a0_ (Below.refl w.heap.size w)
 have H := h
 clear h
 unfold spec_DrawCompareRecords.f at H
 obtain ⟨⟨t773, t774, t775, t776, t777, t778⟩, A20, H⟩ := Option.bind_eq_some_iff.mp H
 have A2 := a0_ A20
 clear A20
 obtain ⟨⟨t780, t781, t782, t783, t784, t785⟩, A30, H⟩ := Option.bind_eq_some_iff.mp H
 have A3 := a0_ A30
 clear A30
 obtain ⟨⟨t787, t788, t789⟩, A40, H⟩ := Option.bind_eq_some_iff.mp H
 have A4 := a0_ A40
 clear A40
 have HC5 := a0_ H
 clear H
 go_enter Tryz.func35, Tryz.ntmps35
 go_upto_if 15 with (first | ((with_reducible refine gate_dst (N := 2) rfl ?_); refine boxS_ 2 #[.string (⟨#[]⟩ : ByteArray), .int .i64 0, .int .i64 0, .string (⟨#[]⟩ : ByteArray)] 45 (fun gb770 hg w6 hbox hb => ?_); have n0_ := a0_ (below_step bq0_ hb); have n1_ := a0_ (hbox); have n2_ := a0_ (gw_ hg : w.heap.size ≤ gb770); have n3_ := n2_; clear HB; have HB := n0_; have BK770 := n1_; have GW770 := n2_; have GE770 := n3_; clear n0_ n1_ n2_ n3_; clear hb hbox hg) | ((with_reducible refine gate_dst (N := 3) rfl ?_); refine boxS_ 3 #[.string (⟨#[]⟩ : ByteArray), .int .i64 0, .int .i64 0, .string (⟨#[]⟩ : ByteArray)] 45 (fun gb771 hg w7 hbox hb => ?_); have n0_ := a0_ (bkB_ BK770 hb); have n1_ := a0_ (below_step bq1_ hb); have n2_ := a0_ (hbox); have n3_ := a0_ (gw_ hg (below_size bq1_) : w.heap.size ≤ gb771); have n4_ := n3_; have n5_ := a0_ ((by rw [hg]; exact Nat.ne_of_lt (blk_lt (g := gb770) (o := .cells #[.string (⟨#[]⟩ : ByteArray), .int .i64 0, .int .i64 0, .string (⟨#[]⟩ : ByteArray)] 45 (0, 0)) (kB_ BK770.out)) : gb770 ≠ gb771)); have n6_ := a0_ ((by rw [hg]; exact Nat.ne_of_gt (blk_lt (g := gb770) (o := .cells #[.string (⟨#[]⟩ : ByteArray), .int .i64 0, .int .i64 0, .string (⟨#[]⟩ : ByteArray)] 45 (0, 0)) (kB_ BK770.out)) : gb771 ≠ gb770)); clear BK770; clear HB; have BK770 := n0_; have HB := n1_; have BK771 := n2_; have GW771 := n3_; have GE771 := n4_; have NB770_771 := n5_; have NB771_770 := n6_; clear n0_ n1_ n2_ n3_ n4_ n5_ n6_; clear hb hbox hg) | ((with_reducible refine gate_dst (N := 9) rfl ?_); refine boxS_ 9 #[.slice A0 l0.length c0, .int .i64 0, .int .u64 0] 117 (fun gb772 hg w8 hbox hb => ?_); have n0_ := a0_ (bkB_ BK770 hb); have n1_ := a0_ (bkB_ BK771 hb); have n2_ := a0_ (below_step bq1_ hb); have n3_ := a0_ ((⟨A0, c0, hbox, (by rw [hg]; exact (below_size bq1_)), HR0.out⟩ : IsS117 w w8 gb772 l0 0 0)); have n4_ := a0_ ((by rw [hg]; exact Nat.ne_of_lt (blk_lt (g := gb770) (o := .cells #[.string (⟨#[]⟩ : ByteArray), .int .i64 0, .int .i64 0, .string (⟨#[]⟩ : ByteArray)] 45 (0, 0)) (kB_ BK770.out)) : gb770 ≠ gb772)); have n5_ := a0_ ((by rw [hg]; exact Nat.ne_of_gt (blk_lt (g := gb770) (o := .cells #[.string (⟨#[]⟩ : ByteArray), .int .i64 0, .int .i64 0, .string (⟨#[]⟩ : ByteArray)] 45 (0, 0)) (kB_ BK770.out)) : gb772 ≠ gb770)); have n6_ := a0_ ((by rw [hg]; exact Nat.ne_of_lt (blk_lt (g := gb771) (o := .cells #[.string (⟨#[]⟩ : ByteArray), .int .i64 0, .int .i64 0, .string (⟨#[]⟩ : ByteArray)] 45 (0, 0)) (kB_ BK771.out)) : gb771 ≠ gb772)); have n7_ := a0_ ((by rw [hg]; exact Nat.ne_of_gt (blk_lt (g := gb771) (o := .cells #[.string (⟨#[]⟩ : ByteArray), .int .i64 0, .int .i64 0, .string (⟨#[]⟩ : ByteArray)] 45 (0, 0)) (kB_ BK771.out)) : gb772 ≠ gb771)); clear BK770; clear BK771; clear HB; have BK770 := n0_; have BK771 := n1_; have HB := n2_; have HI772 := n3_; have NB770_772 := n4_; have NB772_770 := n5_; have NB771_772 := n6_; have NB772_771 := n7_; clear n0_ n1_ n2_ n3_ n4_ n5_ n6_ n7_; clear hb hbox hg) | ((with_reducible refine gate_callee (f := 97) rfl ?_); refine goesL_ (some 11) rfl rfl Tryz.func97 (by kernel_rfl) rfl #[.pointer (some ⟨gb772, 0, none⟩)] rfl argsS_ ?_; (with_reducible refine (spec_l1Cur_record.calls k gb772 l0 0 0 t773 t774 t775 t776 t777 t778 w _ ?side1 ?side2 A2.out).mono ?_); (case side1 => exact i117_); (case side2 => exact bq2_); rintro e w9 ⟨rfl, hi, hb, hk⟩; refine ⟨_, rfl, ?_⟩; replace BK770 := a0_ (kk_ BK770 hk NB770_772.out); replace BK771 := a0_ (kk_ BK771 hk NB771_772.out); replace HB := a0_ (hb); replace HI772 := a0_ (hi); clear hb hk hi) | ((with_reducible refine gate_dst (N := 5) rfl ?_); refine boxS_ 5 #[.string (⟨#[]⟩ : ByteArray), .int .i64 0, .int .i64 0, .string (⟨#[]⟩ : ByteArray)] 45 (fun gb779 hg w10 hbox hb => ?_); have n0_ := a0_ (bkB_ BK770 hb); have n1_ := a0_ (bkB_ BK771 hb); have n2_ := a0_ (IsS117.below i117_ hb); have n3_ := a0_ (below_step bq2_ hb); have n4_ := a0_ (hbox); have n5_ := a0_ ((by rw [hg]; exact (below_size bq2_) : w.heap.size ≤ gb779)); have n6_ := a0_ ((by rw [hg]; exact (below_size bq2_) : w.heap.size ≤ gb779)); have n7_ := a0_ ((by rw [hg]; exact Nat.ne_of_lt (blk_lt (g := gb770) (o := .cells #[.string (⟨#[]⟩ : ByteArray), .int .i64 0, .int .i64 0, .string (⟨#[]⟩ : ByteArray)] 45 (0, 0)) (kB_ BK770.out)) : gb770 ≠ gb779)); have n8_ := a0_ ((by rw [hg]; exact Nat.ne_of_gt (blk_lt (g := gb770) (o := .cells #[.string (⟨#[]⟩ : ByteArray), .int .i64 0, .int .i64 0, .string (⟨#[]⟩ : ByteArray)] 45 (0, 0)) (kB_ BK770.out)) : gb779 ≠ gb770)); have n9_ := a0_ ((by rw [hg]; exact Nat.ne_of_lt (blk_lt (g := gb771) (o := .cells #[.string (⟨#[]⟩ : ByteArray), .int .i64 0, .int .i64 0, .string (⟨#[]⟩ : ByteArray)] 45 (0, 0)) (kB_ BK771.out)) : gb771 ≠ gb779)); have n10_ := a0_ ((by rw [hg]; exact Nat.ne_of_gt (blk_lt (g := gb771) (o := .cells #[.string (⟨#[]⟩ : ByteArray), .int .i64 0, .int .i64 0, .string (⟨#[]⟩ : ByteArray)] 45 (0, 0)) (kB_ BK771.out)) : gb779 ≠ gb771)); have n11_ := a0_ ((by rw [hg]; exact Nat.ne_of_lt (IsS117.lt (show IsS117 w _ gb772 l0 t777 t778 from i117_)) : gb772 ≠ gb779)); have n12_ := a0_ ((by rw [hg]; exact Nat.ne_of_gt (IsS117.lt (show IsS117 w _ gb772 l0 t777 t778 from i117_)) : gb779 ≠ gb772)); clear BK770; clear BK771; clear HI772; clear HB; have BK770 := n0_; have BK771 := n1_; have HI772 := n2_; have HB := n3_; have BK779 := n4_; have GW779 := n5_; have GE779 := n6_; have NB770_779 := n7_; have NB779_770 := n8_; have NB771_779 := n9_; have NB779_771 := n10_; have NB772_779 := n11_; have NB779_772 := n12_; clear n0_ n1_ n2_ n3_ n4_ n5_ n6_ n7_ n8_ n9_ n10_ n11_ n12_; clear hb hbox hg; have hnb11 := NB779_770.out; have hnc11 := NB770_779.out; have hnb12 := NB779_771.out; have hnc12 := NB771_779.out; have hnb13 := NB779_772.out; have hnc13 := NB772_779.out; obtain ⟨z14_0, z14_1, z14_2, z14_3, q14_0, q14_1, q14_2, q14_3⟩ := bk4_ BK779.out) | ((with_reducible refine gate_callee (f := 97) rfl ?_); refine goesL_ (some 13) rfl rfl Tryz.func97 (by kernel_rfl) rfl #[.pointer (some ⟨gb772, 0, none⟩)] rfl argsS_ ?_; (with_reducible refine (spec_l1Cur_record.calls k gb772 l0 t777 t778 t780 t781 t782 t783 t784 t785 w _ ?side1 ?side2 A3.out).mono ?_); (case side1 => exact i117_); (case side2 => exact bq2_); rintro e w15 ⟨rfl, hi, hb, hk⟩; refine ⟨_, rfl, ?_⟩; replace BK770 := a0_ (KeepBut.blk hk (g' := gb770) (o := .cells #[.string (⟨#[]⟩ : ByteArray), .int .i64 0, .int .i64 0, .string (⟨#[]⟩ : ByteArray)] 45 (0, 0)) (bfar4_ NB770_779.out BK770.out) NB770_772.out (by simp)); replace BK771 := a0_ (KeepBut.blk hk (g' := gb771) (o := .cells #[.string (⟨#[]⟩ : ByteArray), .int .i64 0, .int .i64 0, .string (⟨#[]⟩ : ByteArray)] 45 (0, 0)) (bfar4_ NB771_779.out BK771.out) NB771_772.out (by simp)); replace BK779 := a0_ (KeepBut.blk hk (g' := gb779) (o := .cells #[.string t773, .int .i64 t774, .int .i64 t775, .string t776] 45 (0, 0)) (put4_ BK779.out) NB779_772.out (by simp)); replace HB := a0_ (hb); replace HI772 := a0_ (hi); clear hb hk hi) | ((with_reducible refine gate_dst (N := 6) rfl ?_); refine boxS_ 6 #[.string (⟨#[]⟩ : ByteArray), .int .i64 0, .int .i64 0, .string (⟨#[]⟩ : ByteArray)] 45 (fun gb786 hg w16 hbox hb => ?_); have n0_ := a0_ (bkB_ BK770 hb); have n1_ := a0_ (bkB_ BK771 hb); have n2_ := a0_ (IsS117.below i117_ hb); have n3_ := a0_ (bkB_ BK779 hb); have n4_ := a0_ (below_step bq2_ hb); have n5_ := a0_ (hbox); have n6_ := a0_ ((by rw [hg]; exact (below_size bq2_) : w.heap.size ≤ gb786)); have n7_ := a0_ ((by rw [hg]; exact (below_size bq2_) : w.heap.size ≤ gb786)); have n8_ := a0_ ((by rw [hg]; exact Nat.ne_of_lt (blk_lt (g := gb770) (o := .cells #[.string (⟨#[]⟩ : ByteArray), .int .i64 0, .int .i64 0, .string (⟨#[]⟩ : ByteArray)] 45 (0, 0)) (kB_ BK770.out)) : gb770 ≠ gb786)); have n9_ := a0_ ((by rw [hg]; exact Nat.ne_of_gt (blk_lt (g := gb770) (o := .cells #[.string (⟨#[]⟩ : ByteArray), .int .i64 0, .int .i64 0, .string (⟨#[]⟩ : ByteArray)] 45 (0, 0)) (kB_ BK770.out)) : gb786 ≠ gb770)); have n10_ := a0_ ((by rw [hg]; exact Nat.ne_of_lt (blk_lt (g := gb771) (o := .cells #[.string (⟨#[]⟩ : ByteArray), .int .i64 0, .int .i64 0, .string (⟨#[]⟩ : ByteArray)] 45 (0, 0)) (kB_ BK771.out)) : gb771 ≠ gb786)); have n11_ := a0_ ((by rw [hg]; exact Nat.ne_of_gt (blk_lt (g := gb771) (o := .cells #[.string (⟨#[]⟩ : ByteArray), .int .i64 0, .int .i64 0, .string (⟨#[]⟩ : ByteArray)] 45 (0, 0)) (kB_ BK771.out)) : gb786 ≠ gb771)); have n12_ := a0_ ((by rw [hg]; exact Nat.ne_of_lt (blk_lt (g := gb779) (o := .cells #[.string t773, .int .i64 t774, .int .i64 t775, .string t776] 45 (0, 0)) (kB_ BK779.out)) : gb779 ≠ gb786)); have n13_ := a0_ ((by rw [hg]; exact Nat.ne_of_gt (blk_lt (g := gb779) (o := .cells #[.string t773, .int .i64 t774, .int .i64 t775, .string t776] 45 (0, 0)) (kB_ BK779.out)) : gb786 ≠ gb779)); have n14_ := a0_ ((by rw [hg]; exact Nat.ne_of_lt (IsS117.lt (show IsS117 w _ gb772 l0 t784 t785 from i117_)) : gb772 ≠ gb786)); have n15_ := a0_ ((by rw [hg]; exact Nat.ne_of_gt (IsS117.lt (show IsS117 w _ gb772 l0 t784 t785 from i117_)) : gb786 ≠ gb772)); clear BK770; clear BK771; clear HI772; clear BK779; clear HB; have BK770 := n0_; have BK771 := n1_; have HI772 := n2_; have BK779 := n3_; have HB := n4_; have BK786 := n5_; have GW786 := n6_; have GE786 := n7_; have NB770_786 := n8_; have NB786_770 := n9_; have NB771_786 := n10_; have NB786_771 := n11_; have NB779_786 := n12_; have NB786_779 := n13_; have NB772_786 := n14_; have NB786_772 := n15_; clear n0_ n1_ n2_ n3_ n4_ n5_ n6_ n7_ n8_ n9_ n10_ n11_ n12_ n13_ n14_ n15_; clear hb hbox hg; have hnb17 := NB786_770.out; have hnc17 := NB770_786.out; have hnb18 := NB786_771.out; have hnc18 := NB771_786.out; have hnb19 := NB786_779.out; have hnc19 := NB779_786.out; have hnb20 := NB786_772.out; have hnc20 := NB772_786.out; obtain ⟨z21_0, z21_1, z21_2, z21_3, q21_0, q21_1, q21_2, q21_3⟩ := bk4_ BK786.out) | ((with_reducible refine gate_callee (f := 99) rfl ?_); refine goesL_ (some 15) rfl rfl Tryz.func99 (by kernel_rfl) rfl #[.pointer (some ⟨gb772, 0, none⟩), .int .i64 3] rfl argsS_ ?_; (with_reducible refine (spec_l1Cur_one.calls gb772 l0 t784 t785 3 t787 t788 t789 w _ ?side1 ?side2 A4.out).mono ?_); (case side1 => exact i117_); (case side2 => exact bq2_); rintro e w22 ⟨rfl, hi, hb, hk⟩; refine ⟨_, rfl, ?_⟩; replace BK770 := a0_ (KeepBut.blk hk (g' := gb770) (o := .cells #[.string (⟨#[]⟩ : ByteArray), .int .i64 0, .int .i64 0, .string (⟨#[]⟩ : ByteArray)] 45 (0, 0)) (bfar4_ NB770_786.out BK770.out) NB770_772.out (by simp)); replace BK771 := a0_ (KeepBut.blk hk (g' := gb771) (o := .cells #[.string (⟨#[]⟩ : ByteArray), .int .i64 0, .int .i64 0, .string (⟨#[]⟩ : ByteArray)] 45 (0, 0)) (bfar4_ NB771_786.out BK771.out) NB771_772.out (by simp)); replace BK779 := a0_ (KeepBut.blk hk (g' := gb779) (o := .cells #[.string t773, .int .i64 t774, .int .i64 t775, .string t776] 45 (0, 0)) (bfar4_ NB779_786.out BK779.out) NB779_772.out (by simp)); replace BK786 := a0_ (KeepBut.blk hk (g' := gb786) (o := .cells #[.string t780, .int .i64 t781, .int .i64 t782, .string t783] 45 (0, 0)) (put4_ BK786.out) NB786_772.out (by simp)); replace HB := a0_ (hb); replace HI772 := a0_ (hi); clear hb hk hi))
 (try simp only [Act.put, List.setIfInBounds_toArray, List.set_cons_zero, List.set_cons_succ])
 go_cut [] (fun wc => ∃ (kq : Nat) (x787000_4 : ByteArray), Aside0 (spec_DrawCompareRecords.j0 kq l0 t788 t789 t773 t774 t775 t776 x787000_4 t781 t782 t783 = some (r1, r2, r3, r4, r5, r6, r7, r8)) ∧ Aside0 (kq ≤ k) ∧ Aside0 (wc.heap[gb770]? = some (.cells #[.string (⟨#[]⟩ : ByteArray), .int .i64 0, .int .i64 0, .string (⟨#[]⟩ : ByteArray)] 45 (0, 0))) ∧ Aside0 (wc.heap[gb771]? = some (.cells #[.string (⟨#[]⟩ : ByteArray), .int .i64 0, .int .i64 0, .string (⟨#[]⟩ : ByteArray)] 45 (0, 0))) ∧ Aside0 (wc.heap[gb779]? = some (.cells #[.string t773, .int .i64 t774, .int .i64 t775, .string t776] 45 (0, 0))) ∧ Aside0 (wc.heap[gb786]? = some (.cells #[.string x787000_4, .int .i64 t781, .int .i64 t782, .string t783] 45 (0, 0))) ∧ Aside0 (IsS117 w wc gb772 l0 t788 t789) ∧ Aside0 (Below w.heap.size w wc))
 case first =>
  have H := HC5.out
  clear HC5
  by_cases c23 : t787 = true
  case neg =>
   replace c23 := Bool.eq_false_iff.mpr c23
   subst c23
   rw [if_neg (show ¬ (false = true) by decide)] at H
   have H' := a0_ H
   clear H
   go_wp2
   go_meet
   case rel => exact ⟨_, (t780), H', ⟨by first | omega | exact Nat.le_refl _⟩, ⟨bz_⟩, ⟨bz_⟩, ⟨bz_⟩, ⟨bz_⟩, ⟨i117_⟩, ⟨bq2_⟩⟩
  subst c23
  rw [if_pos rfl] at H
  have H' := a0_ H
  clear H
  have hnb24 := NB779_770.out
  have hnc24 := NB770_779.out
  have hnb25 := NB779_771.out
  have hnc25 := NB771_779.out
  have hnb26 := NB779_786.out
  have hnc26 := NB786_779.out
  have hnb27 := NB779_772.out
  have hnc27 := NB772_779.out
  obtain ⟨z28_0, z28_1, z28_2, z28_3, q28_0, q28_1, q28_2, q28_3⟩ := bk4_ BK779.out
  have hnb29 := NB786_770.out
  have hnc29 := NB770_786.out
  have hnb30 := NB786_771.out
  have hnc30 := NB771_786.out
  have hnb31 := NB786_772.out
  have hnc31 := NB772_786.out
  obtain ⟨z32_0, z32_1, z32_2, z32_3, q32_0, q32_1, q32_2, q32_3⟩ := bk4_ BK786.out
  go_wp2
  go_meet
  case rel => exact ⟨_, (t773), H', ⟨by first | omega | exact Nat.le_refl _⟩, ⟨bz_⟩, ⟨bz_⟩, ⟨bz_⟩, ⟨by (with_reducible repeat (first | refine blk_drewN ?_ _ | refine blk_drew ?_ | refine blk_alloc ?_ _)); refine blk_put (cs := #[.string t780, .int .i64 t781, .int .i64 t782, .string t783]) ?_ 0 _ rfl; (with_reducible repeat (first | refine blk_drewN ?_ _ | refine blk_drew ?_ | refine blk_alloc ?_ _)); exact BK786.out⟩, ⟨i117_⟩, ⟨bq2_⟩⟩
 case rest =>
  clear HC5
  try clear z14_0 z14_1 z14_2 z14_3
  try clear z21_0 z21_1 z21_2 z21_3
  try clear q14_0 q14_1 q14_2 q14_3
  try clear q21_0 q21_1 q21_2 q21_3
  obtain ⟨kq, x787000_4, HA, HJ4, BK770, BK771, BK779, BK786, HI772, HB⟩ := hcut
  cases kq with
  | zero => exact absurd HA.out (by simp [spec_DrawCompareRecords.j0])
  | succ kj4 =>
   have H := HA.out
   clear HA
   simp only [spec_DrawCompareRecords.j0] at H
   obtain ⟨⟨t790, t791, t792⟩, A330, H⟩ := Option.bind_eq_some_iff.mp H
   have A33 := a0_ A330
   clear A330
   have HC34 := a0_ H
   clear H
   go_upto_if 20 with (first | ((with_reducible refine gate_callee (f := 99) rfl ?_); refine goesL_ (some 20) rfl rfl Tryz.func99 (by kernel_rfl) rfl #[.pointer (some ⟨gb772, 0, none⟩), .int .i64 6] rfl argsS_ ?_; (with_reducible refine (spec_l1Cur_one.calls gb772 l0 t788 t789 6 t790 t791 t792 w _ ?side1 ?side2 A33.out).mono ?_); (case side1 => exact i117_); (case side2 => exact bq2_); rintro e w35 ⟨rfl, hi, hb, hk⟩; refine ⟨_, rfl, ?_⟩; replace BK770 := a0_ (kk_ BK770 hk NB770_772.out); replace BK771 := a0_ (kk_ BK771 hk NB771_772.out); replace BK779 := a0_ (kk_ BK779 hk NB779_772.out); replace BK786 := a0_ (kk_ BK786 hk NB786_772.out); replace HB := a0_ (hb); replace HI772 := a0_ (hi); clear hb hk hi))
   (try simp only [Act.put, List.setIfInBounds_toArray, List.set_cons_zero, List.set_cons_succ])
   go_cut [] (fun wc => ∃ (kq : Nat) (x787000_33 : ByteArray) (x787001_33 : Int) (x787002_33 : Int) (x787003_33 : ByteArray), Aside0 (spec_DrawCompareRecords.j1 kq t773 t774 t775 t776 x787000_33 x787001_33 x787002_33 x787003_33 = some (r1, r2, r3, r4, r5, r6, r7, r8)) ∧ Aside0 (kq ≤ kj4) ∧ Aside0 (wc.heap[gb770]? = some (.cells #[.string (⟨#[]⟩ : ByteArray), .int .i64 0, .int .i64 0, .string (⟨#[]⟩ : ByteArray)] 45 (0, 0))) ∧ Aside0 (wc.heap[gb771]? = some (.cells #[.string (⟨#[]⟩ : ByteArray), .int .i64 0, .int .i64 0, .string (⟨#[]⟩ : ByteArray)] 45 (0, 0))) ∧ Aside0 (wc.heap[gb779]? = some (.cells #[.string t773, .int .i64 t774, .int .i64 t775, .string t776] 45 (0, 0))) ∧ Aside0 (wc.heap[gb786]? = some (.cells #[.string x787000_33, .int .i64 x787001_33, .int .i64 x787002_33, .string x787003_33] 45 (0, 0))) ∧ Aside0 (Below w.heap.size w wc))
   case first =>
    have H := HC34.out
    clear HC34
    by_cases c36 : t790 = true
    case neg =>
     replace c36 := Bool.eq_false_iff.mpr c36
     subst c36
     rw [if_neg (show ¬ (false = true) by decide)] at H
     have H' := a0_ H
     clear H
     go_wp2
     go_meet
     case rel => exact ⟨_, (x787000_4), (t781), (t782), (t783), H', ⟨by have := HJ4.out; first | omega | exact Nat.le_refl _⟩, ⟨bz_⟩, ⟨bz_⟩, ⟨bz_⟩, ⟨bz_⟩, ⟨bq2_⟩⟩
    subst c36
    rw [if_pos rfl] at H
    have H' := a0_ H
    clear H
    have hnb37 := NB779_770.out
    have hnc37 := NB770_779.out
    have hnb38 := NB779_771.out
    have hnc38 := NB771_779.out
    have hnb39 := NB779_786.out
    have hnc39 := NB786_779.out
    have hnb40 := NB779_772.out
    have hnc40 := NB772_779.out
    obtain ⟨z41_0, z41_1, z41_2, z41_3, q41_0, q41_1, q41_2, q41_3⟩ := bk4_ BK779.out
    have hnb42 := NB786_770.out
    have hnc42 := NB770_786.out
    have hnb43 := NB786_771.out
    have hnc43 := NB771_786.out
    have hnb44 := NB786_772.out
    have hnc44 := NB772_786.out
    obtain ⟨z45_0, z45_1, z45_2, z45_3, q45_0, q45_1, q45_2, q45_3⟩ := bk4_ BK786.out
    go_wp2
    go_meet
    case rel => exact ⟨_, (t773), (t774), (t775), (t776), H', ⟨by have := HJ4.out; first | omega | exact Nat.le_refl _⟩, ⟨bfar4_ NB770_786.out BK770.out⟩, ⟨bfar4_ NB771_786.out BK771.out⟩, ⟨bfar4_ NB779_786.out BK779.out⟩, ⟨put4_ BK786.out⟩, ⟨bq2_⟩⟩
   case rest =>
    clear HC34
    try clear c1
    try clear c2
    try clear p2
    try clear c3
    try clear c9
    try clear c11
    try clear c12
    try clear c13
    try clear c17
    try clear c18
    try clear c19
    try clear c20
    try clear c23
    try clear c24
    try clear c25
    try clear c26
    try clear c27
    try clear c29
    try clear c30
    try clear c31
    try clear z14_0 z14_1 z14_2 z14_3
    try clear z21_0 z21_1 z21_2 z21_3
    try clear z28_0 z28_1 z28_2 z28_3
    try clear z32_0 z32_1 z32_2 z32_3
    try clear q14_0 q14_1 q14_2 q14_3
    try clear q21_0 q21_1 q21_2 q21_3
    try clear q28_0 q28_1 q28_2 q28_3
    try clear q32_0 q32_1 q32_2 q32_3
    try clear p2
    obtain ⟨kq, x787000_33, x787001_33, x787002_33, x787003_33, HA, HJ33, BK770, BK771, BK779, BK786, HB⟩ := hcut
    cases kq with
    | zero => exact absurd HA.out (by simp [spec_DrawCompareRecords.j1])
    | succ kj33 =>
     have H := HA.out
     clear HA
     simp only [spec_DrawCompareRecords.j1] at H
     simp only [Option.some.injEq, Prod.mk.injEq] at H
     obtain ⟨rfl, rfl, rfl, rfl, rfl, rfl, rfl, rfl⟩ := H
     try go_wp2
     replace BK770 := a0_ (blk_drew BK770.out)
     replace BK771 := a0_ (blk_drew BK771.out)
     replace BK779 := a0_ (blk_drew BK779.out)
     replace BK786 := a0_ (blk_drew BK786.out)
     replace HB := a0_ (below_drew1 HB.out)
     refine start_ (n := 4) (S := fun w' => w'.cell? ⟨gb779, 0, none⟩ = some (.string t773) ∧ w'.cell? ⟨gb779, 1, none⟩ = some (.int .i64 t774) ∧ w'.cell? ⟨gb779, 2, none⟩ = some (.int .i64 t775) ∧ w'.cell? ⟨gb779, 3, none⟩ = some (.string t776) ∧ w'.cell? ⟨gb786, 0, none⟩ = some (.string x787000_33) ∧ w'.cell? ⟨gb786, 1, none⟩ = some (.int .i64 x787001_33) ∧ w'.cell? ⟨gb786, 2, none⟩ = some (.int .i64 x787002_33) ∧ w'.cell? ⟨gb786, 3, none⟩ = some (.string x787003_33)) (ds := []) #[false, false, false, false] (by kernel_rfl) rfl rfl ⟨(blk_cell BK779.out 0).trans rfl, (blk_cell BK779.out 1).trans rfl, (blk_cell BK779.out 2).trans rfl, (blk_cell BK779.out 3).trans rfl, (blk_cell BK786.out 0).trans rfl, (blk_cell BK786.out 1).trans rfl, (blk_cell BK786.out 2).trans rfl, (blk_cell BK786.out 3).trans rfl⟩ (fun hHeld => ?_)
     generalize wc.drew = w46 at BK770 BK771 BK779 BK786 HB hHeld ⊢
     refine take_ (i := 0) (N := some 22) (v := ?_) (a' := ?_) #[true, false, false, false] rfl rfl (by kernel_rfl) (fun _ _ _ h => h) (Or.inl ⟨by rfl, ?_⟩) hHeld ?_ ?_
     rotate_left
     · rintro w' ⟨s0, s1, s2, s3, s4, s5, s6, s7⟩
       go_simp
       with_reducible rfl
     rotate_left
     · simp only [Act.put, List.setIfInBounds_toArray, List.set_cons_zero, List.set_cons_succ, i64_w, i32_w]
       rfl
     refine take_ (i := 1) (N := some 23) (v := ?_) (a' := ?_) #[true, true, false, false] rfl rfl (by kernel_rfl) (fun _ _ _ h => h) (Or.inl ⟨by rfl, ?_⟩) hHeld ?_ ?_
     rotate_left
     · rintro w' ⟨s0, s1, s2, s3, s4, s5, s6, s7⟩
       go_simp
       with_reducible rfl
     rotate_left
     · simp only [Act.put, List.setIfInBounds_toArray, List.set_cons_zero, List.set_cons_succ, i64_w, i32_w]
       rfl
     refine one_ (i := 2) (N := none) #[true, true, true, false] rfl rfl (by kernel_rfl) (by decide) (fun K hK => ?_)
     have hs47 : w46.cell? ⟨gb770, 0, none⟩ = some (.string (⟨#[]⟩ : ByteArray)) := (blk_cell BK770.out 0).trans rfl
     have hfs47 := blk_frozen BK770.out 0
     have hns47_1 := NB771_770.out
     have hns47_2 := NB779_770.out
     have hns47_3 := NB786_770.out
     have hms47_1 := NB770_771.out
     have hms47_2 := NB770_779.out
     have hms47_3 := NB770_786.out
     have hs48 : w46.cell? ⟨gb770, 1, none⟩ = some (.int .i64 0) := (blk_cell BK770.out 1).trans rfl
     have hfs48 := blk_frozen BK770.out 1
     have hns48_1 := NB771_770.out
     have hns48_2 := NB779_770.out
     have hns48_3 := NB786_770.out
     have hms48_1 := NB770_771.out
     have hms48_2 := NB770_779.out
     have hms48_3 := NB770_786.out
     have hs49 : w46.cell? ⟨gb770, 2, none⟩ = some (.int .i64 0) := (blk_cell BK770.out 2).trans rfl
     have hfs49 := blk_frozen BK770.out 2
     have hns49_1 := NB771_770.out
     have hns49_2 := NB779_770.out
     have hns49_3 := NB786_770.out
     have hms49_1 := NB770_771.out
     have hms49_2 := NB770_779.out
     have hms49_3 := NB770_786.out
     have hs50 : w46.cell? ⟨gb770, 3, none⟩ = some (.string (⟨#[]⟩ : ByteArray)) := (blk_cell BK770.out 3).trans rfl
     have hfs50 := blk_frozen BK770.out 3
     have hns50_1 := NB771_770.out
     have hns50_2 := NB779_770.out
     have hns50_3 := NB786_770.out
     have hms50_1 := NB770_771.out
     have hms50_2 := NB770_779.out
     have hms50_3 := NB770_786.out
     refine skip_ (w1 := ?_) (by rfl) rfl ?_ ?_
     rotate_left
     · go_simp
       rfl
     refine hK.out _ _ ⟨((cell_far (p := ⟨gb770, _, none⟩) NB779_770.out _).trans (((cell_far (p := ⟨gb770, _, none⟩) NB779_770.out _).trans (((cell_far (p := ⟨gb770, _, none⟩) NB779_770.out _).trans (((cell_far (p := ⟨gb770, _, none⟩) NB779_770.out _).trans (hHeld.1)))))))), ((cell_far (p := ⟨gb770, _, none⟩) NB779_770.out _).trans (((cell_far (p := ⟨gb770, _, none⟩) NB779_770.out _).trans (((cell_far (p := ⟨gb770, _, none⟩) NB779_770.out _).trans (((cell_far (p := ⟨gb770, _, none⟩) NB779_770.out _).trans (hHeld.2.1)))))))), ((cell_far (p := ⟨gb770, _, none⟩) NB779_770.out _).trans (((cell_far (p := ⟨gb770, _, none⟩) NB779_770.out _).trans (((cell_far (p := ⟨gb770, _, none⟩) NB779_770.out _).trans (((cell_far (p := ⟨gb770, _, none⟩) NB779_770.out _).trans (hHeld.2.2.1)))))))), ((cell_far (p := ⟨gb770, _, none⟩) NB779_770.out _).trans (((cell_far (p := ⟨gb770, _, none⟩) NB779_770.out _).trans (((cell_far (p := ⟨gb770, _, none⟩) NB779_770.out _).trans (((cell_far (p := ⟨gb770, _, none⟩) NB779_770.out _).trans (hHeld.2.2.2.1)))))))), ((cell_far (p := ⟨gb770, _, none⟩) NB786_770.out _).trans (((cell_far (p := ⟨gb770, _, none⟩) NB786_770.out _).trans (((cell_far (p := ⟨gb770, _, none⟩) NB786_770.out _).trans (((cell_far (p := ⟨gb770, _, none⟩) NB786_770.out _).trans (hHeld.2.2.2.2.1)))))))), ((cell_far (p := ⟨gb770, _, none⟩) NB786_770.out _).trans (((cell_far (p := ⟨gb770, _, none⟩) NB786_770.out _).trans (((cell_far (p := ⟨gb770, _, none⟩) NB786_770.out _).trans (((cell_far (p := ⟨gb770, _, none⟩) NB786_770.out _).trans (hHeld.2.2.2.2.2.1)))))))), ((cell_far (p := ⟨gb770, _, none⟩) NB786_770.out _).trans (((cell_far (p := ⟨gb770, _, none⟩) NB786_770.out _).trans (((cell_far (p := ⟨gb770, _, none⟩) NB786_770.out _).trans (((cell_far (p := ⟨gb770, _, none⟩) NB786_770.out _).trans (hHeld.2.2.2.2.2.2.1)))))))), ((cell_far (p := ⟨gb770, _, none⟩) NB786_770.out _).trans (((cell_far (p := ⟨gb770, _, none⟩) NB786_770.out _).trans (((cell_far (p := ⟨gb770, _, none⟩) NB786_770.out _).trans (((cell_far (p := ⟨gb770, _, none⟩) NB786_770.out _).trans (hHeld.2.2.2.2.2.2.2))))))))⟩ (fun hHeld => ?_)
     clear hK K
     refine one_ (i := 3) (N := none) #[true, true, true, true] rfl rfl (by kernel_rfl) (by decide) (fun K hK => ?_)
     have hs51 : w46.cell? ⟨gb771, 0, none⟩ = some (.string (⟨#[]⟩ : ByteArray)) := (blk_cell BK771.out 0).trans rfl
     have hfs51 := blk_frozen BK771.out 0
     have hns51_0 := NB770_771.out
     have hns51_2 := NB779_771.out
     have hns51_3 := NB786_771.out
     have hms51_0 := NB771_770.out
     have hms51_2 := NB771_779.out
     have hms51_3 := NB771_786.out
     have hs52 : w46.cell? ⟨gb771, 1, none⟩ = some (.int .i64 0) := (blk_cell BK771.out 1).trans rfl
     have hfs52 := blk_frozen BK771.out 1
     have hns52_0 := NB770_771.out
     have hns52_2 := NB779_771.out
     have hns52_3 := NB786_771.out
     have hms52_0 := NB771_770.out
     have hms52_2 := NB771_779.out
     have hms52_3 := NB771_786.out
     have hs53 : w46.cell? ⟨gb771, 2, none⟩ = some (.int .i64 0) := (blk_cell BK771.out 2).trans rfl
     have hfs53 := blk_frozen BK771.out 2
     have hns53_0 := NB770_771.out
     have hns53_2 := NB779_771.out
     have hns53_3 := NB786_771.out
     have hms53_0 := NB771_770.out
     have hms53_2 := NB771_779.out
     have hms53_3 := NB771_786.out
     have hs54 : w46.cell? ⟨gb771, 3, none⟩ = some (.string (⟨#[]⟩ : ByteArray)) := (blk_cell BK771.out 3).trans rfl
     have hfs54 := blk_frozen BK771.out 3
     have hns54_0 := NB770_771.out
     have hns54_2 := NB779_771.out
     have hns54_3 := NB786_771.out
     have hms54_0 := NB771_770.out
     have hms54_2 := NB771_779.out
     have hms54_3 := NB771_786.out
     refine skip_ (w1 := ?_) (by rfl) rfl ?_ ?_
     rotate_left
     · go_simp
       rfl
     refine hK.out _ _ ⟨((cell_far (p := ⟨gb771, _, none⟩) NB779_771.out _).trans (((cell_far (p := ⟨gb771, _, none⟩) NB779_771.out _).trans (((cell_far (p := ⟨gb771, _, none⟩) NB779_771.out _).trans (((cell_far (p := ⟨gb771, _, none⟩) NB779_771.out _).trans (hHeld.1)))))))), ((cell_far (p := ⟨gb771, _, none⟩) NB779_771.out _).trans (((cell_far (p := ⟨gb771, _, none⟩) NB779_771.out _).trans (((cell_far (p := ⟨gb771, _, none⟩) NB779_771.out _).trans (((cell_far (p := ⟨gb771, _, none⟩) NB779_771.out _).trans (hHeld.2.1)))))))), ((cell_far (p := ⟨gb771, _, none⟩) NB779_771.out _).trans (((cell_far (p := ⟨gb771, _, none⟩) NB779_771.out _).trans (((cell_far (p := ⟨gb771, _, none⟩) NB779_771.out _).trans (((cell_far (p := ⟨gb771, _, none⟩) NB779_771.out _).trans (hHeld.2.2.1)))))))), ((cell_far (p := ⟨gb771, _, none⟩) NB779_771.out _).trans (((cell_far (p := ⟨gb771, _, none⟩) NB779_771.out _).trans (((cell_far (p := ⟨gb771, _, none⟩) NB779_771.out _).trans (((cell_far (p := ⟨gb771, _, none⟩) NB779_771.out _).trans (hHeld.2.2.2.1)))))))), ((cell_far (p := ⟨gb771, _, none⟩) NB786_771.out _).trans (((cell_far (p := ⟨gb771, _, none⟩) NB786_771.out _).trans (((cell_far (p := ⟨gb771, _, none⟩) NB786_771.out _).trans (((cell_far (p := ⟨gb771, _, none⟩) NB786_771.out _).trans (hHeld.2.2.2.2.1)))))))), ((cell_far (p := ⟨gb771, _, none⟩) NB786_771.out _).trans (((cell_far (p := ⟨gb771, _, none⟩) NB786_771.out _).trans (((cell_far (p := ⟨gb771, _, none⟩) NB786_771.out _).trans (((cell_far (p := ⟨gb771, _, none⟩) NB786_771.out _).trans (hHeld.2.2.2.2.2.1)))))))), ((cell_far (p := ⟨gb771, _, none⟩) NB786_771.out _).trans (((cell_far (p := ⟨gb771, _, none⟩) NB786_771.out _).trans (((cell_far (p := ⟨gb771, _, none⟩) NB786_771.out _).trans (((cell_far (p := ⟨gb771, _, none⟩) NB786_771.out _).trans (hHeld.2.2.2.2.2.2.1)))))))), ((cell_far (p := ⟨gb771, _, none⟩) NB786_771.out _).trans (((cell_far (p := ⟨gb771, _, none⟩) NB786_771.out _).trans (((cell_far (p := ⟨gb771, _, none⟩) NB786_771.out _).trans (((cell_far (p := ⟨gb771, _, none⟩) NB786_771.out _).trans (hHeld.2.2.2.2.2.2.2))))))))⟩ (fun hHeld => ?_)
     clear hK K
     refine done_ (by kernel_rfl) ?_
     try go_wp2
     refine bodyPost_ret (results_cc rfl _ _ gb770 gb771 45 45 #[.string t773, .int .i64 t774, .int .i64 t775, .string t776] #[.string x787000_33, .int .i64 x787001_33, .int .i64 x787002_33, .string x787003_33] (0, 0) (0, 0) _ _ rfl (by (with_reducible repeat (first | refine blk_drewN ?_ _ | refine blk_drew ?_ | refine blk_alloc ?_ _)); refine blk_far ?_ NB770_771.out _; (with_reducible repeat (first | refine blk_drewN ?_ _ | refine blk_drew ?_ | refine blk_alloc ?_ _)); refine blk_far ?_ NB770_771.out _; (with_reducible repeat (first | refine blk_drewN ?_ _ | refine blk_drew ?_ | refine blk_alloc ?_ _)); refine blk_far ?_ NB770_771.out _; (with_reducible repeat (first | refine blk_drewN ?_ _ | refine blk_drew ?_ | refine blk_alloc ?_ _)); refine blk_far ?_ NB770_771.out _; (with_reducible repeat (first | refine blk_drewN ?_ _ | refine blk_drew ?_ | refine blk_alloc ?_ _)); refine blk_put (cs := #[.string t773, .int .i64 t774, .int .i64 t775, .string (⟨#[]⟩ : ByteArray)]) ?_ 3 _ rfl; (with_reducible repeat (first | refine blk_drewN ?_ _ | refine blk_drew ?_ | refine blk_alloc ?_ _)); refine blk_put (cs := #[.string t773, .int .i64 t774, .int .i64 0, .string (⟨#[]⟩ : ByteArray)]) ?_ 2 _ rfl; (with_reducible repeat (first | refine blk_drewN ?_ _ | refine blk_drew ?_ | refine blk_alloc ?_ _)); refine blk_put (cs := #[.string t773, .int .i64 0, .int .i64 0, .string (⟨#[]⟩ : ByteArray)]) ?_ 1 _ rfl; (with_reducible repeat (first | refine blk_drewN ?_ _ | refine blk_drew ?_ | refine blk_alloc ?_ _)); refine blk_put (cs := #[.string (⟨#[]⟩ : ByteArray), .int .i64 0, .int .i64 0, .string (⟨#[]⟩ : ByteArray)]) ?_ 0 _ rfl; (with_reducible repeat (first | refine blk_drewN ?_ _ | refine blk_drew ?_ | refine blk_alloc ?_ _)); exact BK770.out) Tryz.underlying45 rfl (by kernel_rfl) rfl (by (with_reducible repeat (first | refine blk_drewN ?_ _ | refine blk_drew ?_ | refine blk_alloc ?_ _)); refine blk_put (cs := #[.string x787000_33, .int .i64 x787001_33, .int .i64 x787002_33, .string (⟨#[]⟩ : ByteArray)]) ?_ 3 _ rfl; (with_reducible repeat (first | refine blk_drewN ?_ _ | refine blk_drew ?_ | refine blk_alloc ?_ _)); refine blk_put (cs := #[.string x787000_33, .int .i64 x787001_33, .int .i64 0, .string (⟨#[]⟩ : ByteArray)]) ?_ 2 _ rfl; (with_reducible repeat (first | refine blk_drewN ?_ _ | refine blk_drew ?_ | refine blk_alloc ?_ _)); refine blk_put (cs := #[.string x787000_33, .int .i64 0, .int .i64 0, .string (⟨#[]⟩ : ByteArray)]) ?_ 1 _ rfl; (with_reducible repeat (first | refine blk_drewN ?_ _ | refine blk_drew ?_ | refine blk_alloc ?_ _)); refine blk_put (cs := #[.string (⟨#[]⟩ : ByteArray), .int .i64 0, .int .i64 0, .string (⟨#[]⟩ : ByteArray)]) ?_ 0 _ rfl; (with_reducible repeat (first | refine blk_drewN ?_ _ | refine blk_drew ?_ | refine blk_alloc ?_ _)); refine blk_far ?_ NB771_770.out _; (with_reducible repeat (first | refine blk_drewN ?_ _ | refine blk_drew ?_ | refine blk_alloc ?_ _)); refine blk_far ?_ NB771_770.out _; (with_reducible repeat (first | refine blk_drewN ?_ _ | refine blk_drew ?_ | refine blk_alloc ?_ _)); refine blk_far ?_ NB771_770.out _; (with_reducible repeat (first | refine blk_drewN ?_ _ | refine blk_drew ?_ | refine blk_alloc ?_ _)); refine blk_far ?_ NB771_770.out _; (with_reducible repeat (first | refine blk_drewN ?_ _ | refine blk_drew ?_ | refine blk_alloc ?_ _)); exact BK771.out) Tryz.underlying45 rfl (by kernel_rfl)) rfl ?_
     exact ⟨rr_, bq1_⟩
end Go.Proofs.YtiegkjimpclmaaaGreatDoor.P
namespace Go.Proofs.YtiegkjimpclmaaaGreatDoor.P
open Go.RowKit Go.Proofs.YtiegkjimpclmaaaGreatDoorW.PrintWords Go.Proofs.YtiegkjimpclmaaaGreatDoorW.PrintLast Go.Proofs.YtiegkjimpclmaaaGreatDoorW.PrintMore
set_option linter.unusedVariables false
set_option linter.unusedSimpArgs false
theorem builderX : Builder.Extra Tryz.prog Tryz.lays156_ren where
 sizeBuilder := by kernel_rfl
 liesBuilder := by kernel_rfl
 t5 := Tryz.underlying5
 a5 := Tryz.isAgg5
 z5 := Tryz.sizeOf5
 v5 := Tryz.zeroValue5
 infoByte := by kernel_rfl
 cellsByte := by kernel_rfl
 sizeByte := by kernel_rfl
 neB5 := by decide
def joinL (l : List ByteArray) : List UInt8 := Lib.join (l.map (·.data.toList)) [46]
theorem spot_R {T : Nat} {w : World} {b : Nat} {ok : Nat → Prop} {A : Option Addr} {n c : Nat} {xs : List ByteArray} (h : Kd.R Kd.string T w b ok (.slice A n c) xs) : ∀ ad, A = some ad → ad.spot = none := by
 intro ad e
 obtain ⟨cs, hown, _⟩ := h.2
 rcases hown.2 with ⟨h1, _⟩ | ⟨g, cap, cur, h1, _⟩
 · injection h1 with h2
   rw [e] at h2
   cases h2
 · injection h1 with h2
   rw [e] at h2
   injection h2 with h2
   rw [h2]
theorem join_calls (A : Option Addr) (c : Nat) (xs : List ByteArray) (w : World) (hr : Kd.C Kd.string w A xs.length xs) (hc : xs.length ≤ c) (hs : ∀ ad, A = some ad → ad.spot = none)
 (hl : (joinL xs).length ≤ 140737488355328) (hn : xs.length ≤ 8) :
 Calls Tryz.prog 57 #[.slice A xs.length c, .string (⟨#[46]⟩ : ByteArray)] w fun e w' => e = .returned (.string (mkB (joinL xs))) ∧ Below w.heap.size w w' := by
 cases xs with
 | nil => exact (Any.strings_Join_none Tryz.lays156 builderX A c _ w).mono fun e w' ⟨he, hw⟩ => ⟨he, hw ▸ Below.refl _ _⟩
 | cons x r =>
  obtain ⟨ad, rfl, hx⟩ := Kd.at_string hr 0 (by omega) (by simp)
  have hsp := hs ad rfl
  obtain ⟨bk, o, sp⟩ := ad
  simp only at hsp
  subst hsp
  refine Any.strings_Join Tryz.lays156 builderX bk o c (x :: r) (⟨#[46]⟩ : ByteArray) w ?_ (World.block_lt_of_cell? _ _ hx) (by omega) hc hl
  intro j y hj
  have hjl : j < (x :: r).length := (List.getElem?_eq_some_iff.1 hj).1
  obtain ⟨ad, e0, hx⟩ := Kd.at_string hr (j : Int) (by omega) (by omega)
  cases e0
  rw [Int.toNat_natCast] at hx
  have hy : rdOf ByteArray.empty (x :: r) (j : Int) = y := by
   unfold rdOf
   rw [Int.toNat_natCast, List.getD_eq_getElem?_getD, hj]
   rfl
  rw [hy] at hx
  by_cases hj0 : j = 0
  · subst hj0
    simpa [Addr.add] using hx
  · simpa [Addr.add, hj0] using hx
theorem joinL_len (l : List ByteArray) (h : ∀ x ∈ l, x.size ≤ 20) : (joinL l).length ≤ l.length * 21 := by
 unfold joinL
 cases l with
 | nil => simp [Lib.join_nil]
 | cons x r =>
  rw [List.map_cons, Lib.join_cons, List.length_append]
  have h1 := h x List.mem_cons_self
  have h2 : ∀ m : List ByteArray, (∀ y ∈ m, y.size ≤ 20) → (Lib.joinTail [46] (m.map (·.data.toList))).length ≤ m.length * 21 := by
   intro m
   induction m with
   | nil => intro _; simp [Lib.joinTail]
   | cons y m ih =>
    intro hy
    have := hy y List.mem_cons_self
    have := ih fun z hz => hy z (List.mem_cons_of_mem _ hz)
    simp [Lib.joinTail] at this ⊢
    rw [size_len] at *
    simp at *
    omega
  have h3 := h2 r fun y hy => h y (List.mem_cons_of_mem _ hy)
  rw [size_len] at h1
  simp only [List.length_cons]
  omega
theorem label_size {l : List UInt8} (h : isLabelL l = true) : l.length ≤ 20 := by
 unfold isLabelL at h
 simp only [Bool.or_eq_true, Bool.and_eq_true, decide_eq_true_eq, beq_iff_eq] at h
 rcases h with rfl | h
 · simp
 · exact h.1.2
def nameR (l : List ByteArray) : ByteArray × Bool :=
 if decide (l.length ≤ 8) && l.all (fun x => isLabelL x.data.toList) then (if goodL (joinL l) = true then (mkB (joinL l), true) else ((⟨#[]⟩ : ByteArray), false)) else ((⟨#[]⟩ : ByteArray), false)
def impl_NameOf.f (l : List ByteArray) : Option (ByteArray × Bool) := some (nameR l)
theorem name_closure (x : ByteArray) (W : World) : Calls Tryz.prog 207 #[.string x] W fun e W' => e = .returned (.bool (!isLabelL x.data.toList)) ∧ Below W.heap.size W W' :=
 impl_NameOf_1.calls x _ W (by unfold impl_NameOf_1.f; rw [isLabel_eq]; rfl)
set_option maxHeartbeats 4000000 in
theorem impl_NameOf.calls (A0 : Option Addr) (c0 : Nat) (l0 : List ByteArray) (r1 : ByteArray) (r2 : Bool) (w : World) (hr0 : Kd.C Kd.string w A0 l0.length l0) (hc0 : l0.length ≤ c0) (h : impl_NameOf.f l0 = some (r1, r2))
 (hs : ∀ ad, A0 = some ad → ad.spot = none := by first | exact spot_R (Aside0.out (by assumption)) | exact spot_R (by assumption)) :
 Calls Tryz.prog 175 #[.slice A0 l0.length c0] w fun e w' => e = .returned (.tuple #[.string r1, .bool r2]) ∧ Below w.heap.size w w' := by
 have HR : Aside0 (nameR l0 = (r1, r2)) := ⟨Option.some.inj h⟩
 clear h
 unfold nameR at HR
 by_cases h8 : l0.length ≤ 8
 · have eg : ∀ args w, (callFunc 207 args).run Tryz.prog w = .ok (.enter 207 args) w := enters_of Tryz.func207 (by kernel_rfl) rfl
   have cc := contains_str A0 c0 l0 207 #[] (fun x => !isLabelL x.data.toList) w hr0 eg (fun x _ W' _ => name_closure x W')
   have hany : l0.any (fun x => !isLabelL x.data.toList) = !l0.all (fun x => isLabelL x.data.toList) := by rw [List.not_all_eq_any_not]
   rw [hany] at cc
   rw [decide_eq_true h8, Bool.true_and] at HR
   have h8a : decide (8 < l0.length) = false := decide_eq_false (by omega)
   have h8b : decide ((8 : Int) < (l0.length : Int)) = false := decide_eq_false (by omega)
   have hsz := Aside0.mk (fun (ha : l0.all (fun x => isLabelL x.data.toList) = true) => joinL_len l0 (fun x hx => by
    rw [size_len]; exact label_size (List.all_eq_true.1 ha x hx)))
   cases ha : l0.all (fun x => isLabelL x.data.toList) with
   | false =>
    rw [ha] at cc
    rw [ha, if_neg (by simp)] at HR
    obtain ⟨rfl, rfl⟩ := Prod.mk.inj HR.out
    clear HR hsz ha hany
    go_enter Tryz.func175, Tryz.ntmps175
    go_wp2_with (first | (go_at_call 145; refine cc.mono ?_; rintro e w1 ⟨rfl, hb⟩))
    go_ret2
    exact ⟨rfl, hb⟩
   | true =>
    rw [ha] at cc
    rw [ha, if_pos rfl] at HR
    have hlen := hsz.out ha
    have hjs : (joinL l0).length < 4294967281 := by omega
    clear hsz ha hany
    have hj := Aside0.mk (fun W (hb : Below w.heap.size w W) => join_calls A0 c0 l0 W (Kd.C_below hr0 hb) hc0 hs (by omega) h8)
    have gc := fun W => impl_GoodName.calls (mkB (joinL l0)) _ W rfl
    rw [mkB_data] at gc
    clear hlen
    cases hg : goodL (joinL l0) with
    | true =>
     rw [hg] at gc
     rw [hg, if_pos rfl] at HR
     obtain ⟨rfl, rfl⟩ := Prod.mk.inj HR.out
     clear HR hg
     go_enter Tryz.func175, Tryz.ntmps175
     go_wp2_with (first | (go_at_call 145; refine cc.mono ?_; rintro e w1 ⟨rfl, hb⟩) | (go_at_call 57; refine (hj.out _ hb).mono ?_; rintro e w2 ⟨rfl, hb2⟩) | (go_at_call 83; refine (gc _).mono ?_; rintro e w3 ⟨rfl, hb3⟩))
     go_ret2
     exact ⟨rfl, below_then (below_then hb hb.size hb2) (below_then hb hb.size hb2).size hb3⟩
    | false =>
     rw [hg] at gc
     rw [hg, if_neg (by simp)] at HR
     obtain ⟨rfl, rfl⟩ := Prod.mk.inj HR.out
     clear HR hg
     go_enter Tryz.func175, Tryz.ntmps175
     go_wp2_with (first | (go_at_call 145; refine cc.mono ?_; rintro e w1 ⟨rfl, hb⟩) | (go_at_call 57; refine (hj.out _ hb).mono ?_; rintro e w2 ⟨rfl, hb2⟩) | (go_at_call 83; refine (gc _).mono ?_; rintro e w3 ⟨rfl, hb3⟩))
     go_ret2
     exact ⟨rfl, below_then (below_then hb hb.size hb2) (below_then hb hb.size hb2).size hb3⟩
 · have h8a : decide (8 < l0.length) = true := decide_eq_true (by omega)
   have h8b : decide ((8 : Int) < (l0.length : Int)) = true := decide_eq_true (by omega)
   rw [decide_eq_false h8, Bool.false_and, if_neg (by simp)] at HR
   obtain ⟨rfl, rfl⟩ := Prod.mk.inj HR.out
   clear HR h8
   go_enter Tryz.func175, Tryz.ntmps175
   go_wp2
   go_ret2
   exact ⟨rfl, Below.refl _ _⟩
end Go.Proofs.YtiegkjimpclmaaaGreatDoor.P
namespace Go.Proofs.YtiegkjimpclmaaaGreatDoor.Pure
open Go.RowKit Go.Proofs.YtiegkjimpclmaaaGreatDoor.P Go.Proofs.YtiegkjimpclmaaaGreatDoorW.PrintWords Go.Proofs.YtiegkjimpclmaaaGreatDoorW.PrintLast
set_option linter.unusedVariables false
set_option linter.unusedSimpArgs false
theorem specGood_ev (s : ByteArray) (hs : s.size < 549755813888) : Ev (fun k => spec_GoodName.f k s) (goodL s.data.toList) := by
 obtain ⟨r, h1, h2⟩ := good_ev s hs
 refine Ev.congr (f := fun k => (spec_l1Labels.f k s).bind fun bt => some bt.2) (fun k => rfl) (Ev.bind h1 ?_)
 rw [h2]
 exact Ev.now _
theorem good_size {l : List UInt8} (h : goodL l = true) : l.length ≤ 60 := by
 unfold goodL at h
 simp at h
 exact h.1
end Go.Proofs.YtiegkjimpclmaaaGreatDoor.Pure
namespace Go.Proofs.YtiegkjimpclmaaaGreatDoor.P
open Go.RowKit Go.Proofs.YtiegkjimpclmaaaGreatDoorW.PrintWords Go.Proofs.YtiegkjimpclmaaaGreatDoorW.PrintLast Go.Proofs.YtiegkjimpclmaaaGreatDoorW.PrintMore
attribute [local go_sem] max2_int min2_int max_two min_two max_three min_three max_four min_four
set_option linter.unusedVariables false
set_option linter.unusedSimpArgs false
def spec_DrawRecordText.f (k : Nat) (l0 : List Int) : Option (ByteArray × Int × Int × ByteArray) := (spec_DrawGoodRecord.f k l0).bind fun bt683 => (some (bt683.1, bt683.2.1, bt683.2.2.1, bt683.2.2.2))
set_option maxHeartbeats 8000000 in
set_option maxRecDepth 100000 in
theorem spec_DrawRecordText.calls (k : Nat) (A0 : Option Addr) (c0 : Nat) (l0 : List Int) (r1 : ByteArray) (r2 : Int) (r3 : Int) (r4 : ByteArray) (w : World) (hr0 : Kd.C (Kd.int .u8) w A0 l0.length l0) (hc0 : l0.length ≤ c0) (h : spec_DrawRecordText.f k l0 = some (r1, r2, r3, r4)) :
 Calls Tryz.prog 26 #[.slice A0 l0.length c0] w fun e w' => e = .returned (.agg #[.string r1, .int .i64 r2, .int .i64 r3, .string r4]) ∧ Below w.heap.size w w' := by
 have hu45 := Tryz.underlying45
 have HR0 := a0_ hr0
 have HC0 := a0_ hc0
 clear hr0 hc0
 have HB := a0_ (Below.refl w.heap.size w)
 have H := h
 clear h
 unfold spec_DrawRecordText.f at H
 obtain ⟨⟨t683, t684, t685, t686⟩, A20, H⟩ := Option.bind_eq_some_iff.mp H
 have A2 := a0_ A20
 clear A20
 simp only [Option.some.injEq, Prod.mk.injEq] at H
 obtain ⟨rfl, rfl, rfl, rfl⟩ := H
 go_enter Tryz.func26, Tryz.ntmps26
 go_wp2_with (first | ((with_reducible refine gate_dst (N := 2) rfl ?_); refine boxS_ 2 #[.string (⟨#[]⟩ : ByteArray), .int .i64 0, .int .i64 0, .string (⟨#[]⟩ : ByteArray)] 45 (fun gb682 hg w3 hbox hb => ?_); have n0_ := a0_ (below_step bq0_ hb); have n1_ := a0_ (hbox); have n2_ := a0_ (gw_ hg : w.heap.size ≤ gb682); have n3_ := n2_; clear HB; have HB := n0_; have BK682 := n1_; have GW682 := n2_; have GE682 := n3_; clear n0_ n1_ n2_ n3_; clear hb hbox hg) | ((with_reducible refine gate_callee (f := 80) rfl ?_); refine goesL_ (some 4) rfl rfl Tryz.func80 (by kernel_rfl) rfl #[.slice A0 l0.length c0] rfl argsS_ ?_; (with_reducible refine (spec_DrawGoodRecord.calls k _ _ l0 t683 t684 t685 t686 _ ?side1 ?side2 A2.out).mono ?_); (case side1 => exact kC_ HR0.out HB.out); (case side2 => exact HC0.out); rintro e w4 ⟨rfl, hb⟩; refine ⟨_, rfl, ?_⟩; replace BK682 := a0_ (bkB_ BK682 hb); replace HB := a0_ (below_step bq1_ hb); clear hb; obtain ⟨z5_0, z5_1, z5_2, z5_3, q5_0, q5_1, q5_2, q5_3⟩ := bk4_ BK682.out))
 refine bodyPost_ret (results_cell_row rfl _ _ gb682 45 #[.string t683, .int .i64 t684, .int .i64 t685, .string t686] (0, 0) _ rfl (put4_ BK682.out) Tryz.underlying45 rfl (by kernel_rfl)) rfl ?_
 exact ⟨rr_, bq1_⟩
end Go.Proofs.YtiegkjimpclmaaaGreatDoor.P
