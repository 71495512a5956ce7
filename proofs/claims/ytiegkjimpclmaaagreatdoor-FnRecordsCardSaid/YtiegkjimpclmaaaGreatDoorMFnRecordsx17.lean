/- FnRecords: part 18 of 29 of my texts for this claim, joined; the theorem stands in the last. Conditions: none beyond the statement's. -/
import Derived.Test.YtiegkjimpclmaaaGreatDoorMFnRecordsx16
import Derived.Lib.ItoaLen
namespace Go.Proofs.YtiegkjimpclmaaaGreatDoor.P
open Go.RowKit Go.Proofs.YtiegkjimpclmaaaGreatDoorW.PrintWords Go.Proofs.YtiegkjimpclmaaaGreatDoorW.PrintLast Go.Proofs.YtiegkjimpclmaaaGreatDoorW.PrintMore
attribute [local go_sem] max2_int min2_int max_two min_two max_three min_three max_four min_four
set_option linter.unusedVariables false
set_option linter.unusedSimpArgs false
def spec_DrawReadData.f (k : Nat) (l0 : List Int) : Option (Int × ByteArray) := (spec_l1Cur_record.f k l0 0 0).bind fun bt755 => ((spec_DataBytes.f k bt755.2.1 bt755.2.2.2.1).bind fun bt762 => ((spec_l1Cur_one.f l0 bt755.2.2.2.2.1 bt755.2.2.2.2.2 4).bind fun bt764 => (if bt764.1 = true then ((spec_l1Cur_spoilt.f k l0 bt764.2.1 bt764.2.2 bt762.1 (⟨#[0, 1, 97]⟩ : ByteArray)).bind fun bt767 => (some (bt755.2.1, bt767.1))) else (some (bt755.2.1, bt762.1)))))
set_option maxHeartbeats 8000000 in
set_option maxRecDepth 100000 in
theorem spec_DrawReadData.calls (k : Nat) (A0 : Option Addr) (c0 : Nat) (l0 : List Int) (r1 : Int) (r2 : ByteArray) (w : World) (hr0 : Kd.C (Kd.int .u8) w A0 l0.length l0) (hc0 : l0.length ≤ c0) (h : spec_DrawReadData.f k l0 = some (r1, r2)) :
 Calls Tryz.prog 34 #[.slice A0 l0.length c0] w fun e w' => e = .returned (.tuple #[.int .i64 r1, .string r2]) ∧ Below w.heap.size w w' := by
 have hu117 := Tryz.underlying117
 have hu45 := Tryz.underlying45
 have HR0 := a0_ hr0
 have HC0 := a0_ hc0
 clear hr0 hc0
 have HB := a0_ (Below.refl w.heap.size w)
 have H := h
 clear h
 unfold spec_DrawReadData.f at H
 obtain ⟨⟨t755, t756, t757, t758, t759, t760⟩, A20, H⟩ := Option.bind_eq_some_iff.mp H
 have A2 := a0_ A20
 clear A20
 obtain ⟨⟨t762, t763⟩, A30, H⟩ := Option.bind_eq_some_iff.mp H
 have A3 := a0_ A30
 clear A30
 obtain ⟨⟨t764, t765, t766⟩, A40, H⟩ := Option.bind_eq_some_iff.mp H
 have A4 := a0_ A40
 clear A40
 by_cases c5 : t764 = true
 case neg =>
  replace c5 := Bool.eq_false_iff.mpr c5
  subst c5
  rw [if_neg (show ¬ (false = true) by decide)] at H
  simp only [Option.some.injEq, Prod.mk.injEq] at H
  obtain ⟨rfl, rfl⟩ := H
  go_enter Tryz.func34, Tryz.ntmps34
  go_wp2_with (first | ((with_reducible refine gate_dst (N := 10) rfl ?_); refine boxS_ 10 #[.slice A0 l0.length c0, .int .i64 0, .int .u64 0] 117 (fun gb754 hg w16 hbox hb => ?_); have n0_ := a0_ (below_step bq0_ hb); have n1_ := a0_ ((⟨A0, c0, hbox, (by rw [hg]; exact (below_size bq0_)), HR0.out⟩ : IsS117 w w16 gb754 l0 0 0)); clear HB; have HB := n0_; have HI754 := n1_; clear n0_ n1_; clear hb hbox hg) | ((with_reducible refine gate_callee (f := 97) rfl ?_); refine goesL_ (some 12) rfl rfl Tryz.func97 (by kernel_rfl) rfl #[.pointer (some ⟨gb754, 0, none⟩)] rfl argsS_ ?_; (with_reducible refine (spec_l1Cur_record.calls k gb754 l0 0 0 t755 t756 t757 t758 t759 t760 w _ ?side1 ?side2 A2.out).mono ?_); (case side1 => exact i117_); (case side2 => exact bq2_); rintro e w17 ⟨rfl, hi, hb, hk⟩; refine ⟨_, rfl, ?_⟩; replace HB := a0_ (hb); replace HI754 := a0_ (hi); clear hb hk hi) | ((with_reducible refine gate_dst (N := 5) rfl ?_); refine boxS_ 5 #[.string (⟨#[]⟩ : ByteArray), .int .i64 0, .int .i64 0, .string (⟨#[]⟩ : ByteArray)] 45 (fun gb761 hg w18 hbox hb => ?_); have n0_ := a0_ (IsS117.below i117_ hb); have n1_ := a0_ (below_step bq2_ hb); have n2_ := a0_ (hbox); have n3_ := a0_ ((by rw [hg]; exact (below_size bq2_) : w.heap.size ≤ gb761)); have n4_ := a0_ ((by rw [hg]; exact (below_size bq2_) : w.heap.size ≤ gb761)); have n5_ := a0_ ((by rw [hg]; exact Nat.ne_of_lt (IsS117.lt (show IsS117 w _ gb754 l0 t759 t760 from i117_)) : gb754 ≠ gb761)); have n6_ := a0_ ((by rw [hg]; exact Nat.ne_of_gt (IsS117.lt (show IsS117 w _ gb754 l0 t759 t760 from i117_)) : gb761 ≠ gb754)); clear HI754; clear HB; have HI754 := n0_; have HB := n1_; have BK761 := n2_; have GW761 := n3_; have GE761 := n4_; have NB754_761 := n5_; have NB761_754 := n6_; clear n0_ n1_ n2_ n3_ n4_ n5_ n6_; clear hb hbox hg; have hnb19 := NB761_754.out; have hnc19 := NB754_761.out; obtain ⟨z20_0, z20_1, z20_2, z20_3, q20_0, q20_1, q20_2, q20_3⟩ := bk4_ BK761.out) | ((with_reducible refine gate_callee (f := 98) rfl ?_); refine goesL_ (some 18) rfl rfl Tryz.func98 (by kernel_rfl) rfl #[.int .i64 t756, .string t758] rfl argsS_ ?_; (with_reducible refine (spec_DataBytes.calls k t756 t758 t762 t763 _ A3.out).mono ?_); rintro e w21 ⟨rfl, hb⟩; refine ⟨_, rfl, ?_⟩; have n0_ := a0_ (IsS117.below (show IsS117 w ((((w18.setCell ⟨gb761, 0, none⟩ (.string t755)).setCell ⟨gb761, 1, none⟩ (.int .i64 t756)).setCell ⟨gb761, 2, none⟩ (.int .i64 t757)).setCell ⟨gb761, 3, none⟩ (.string t758)) gb754 l0 t759 t760 from i117_) hb); have n1_ := a0_ (blk_below (g := gb761) (o := .cells #[.string t755, .int .i64 t756, .int .i64 t757, .string t758] 45 (0, 0)) (put4_ BK761.out) hb); have n2_ := a0_ (below_step bq2_ hb); clear HI754; clear BK761; clear HB; have HI754 := n0_; have BK761 := n1_; have HB := n2_; clear n0_ n1_ n2_; clear hb) | ((with_reducible refine gate_callee (f := 99) rfl ?_); refine goesL_ (some 22) rfl rfl Tryz.func99 (by kernel_rfl) rfl #[.pointer (some ⟨gb754, 0, none⟩), .int .i64 4] rfl argsS_ ?_; (with_reducible refine (spec_l1Cur_one.calls gb754 l0 t759 t760 4 false t765 t766 w _ ?side1 ?side2 A4.out).mono ?_); (case side1 => exact i117_); (case side2 => exact bq2_); rintro e w22 ⟨rfl, hi, hb, hk⟩; refine ⟨_, rfl, ?_⟩; replace BK761 := a0_ (kk_ BK761 hk NB761_754.out); replace HB := a0_ (hb); replace HI754 := a0_ (hi); clear hb hk hi; obtain ⟨z23_0, z23_1, z23_2, z23_3, q23_0, q23_1, q23_2, q23_3⟩ := bk4_ BK761.out))
  go_ret2
  exact ⟨rr_, bq2_⟩
 subst c5
 rw [if_pos rfl] at H
 obtain ⟨⟨t767, t768, t769⟩, A60, H⟩ := Option.bind_eq_some_iff.mp H
 have A6 := a0_ A60
 clear A60
 simp only [Option.some.injEq, Prod.mk.injEq] at H
 obtain ⟨rfl, rfl⟩ := H
 go_enter Tryz.func34, Tryz.ntmps34
 go_wp2_with (first | ((with_reducible refine gate_dst (N := 10) rfl ?_); refine boxS_ 10 #[.slice A0 l0.length c0, .int .i64 0, .int .u64 0] 117 (fun gb754 hg w7 hbox hb => ?_); have n0_ := a0_ (below_step bq0_ hb); have n1_ := a0_ ((⟨A0, c0, hbox, (by rw [hg]; exact (below_size bq0_)), HR0.out⟩ : IsS117 w w7 gb754 l0 0 0)); clear HB; have HB := n0_; have HI754 := n1_; clear n0_ n1_; clear hb hbox hg) | ((with_reducible refine gate_callee (f := 97) rfl ?_); refine goesL_ (some 12) rfl rfl Tryz.func97 (by kernel_rfl) rfl #[.pointer (some ⟨gb754, 0, none⟩)] rfl argsS_ ?_; (with_reducible refine (spec_l1Cur_record.calls k gb754 l0 0 0 t755 t756 t757 t758 t759 t760 w _ ?side1 ?side2 A2.out).mono ?_); (case side1 => exact i117_); (case side2 => exact bq2_); rintro e w8 ⟨rfl, hi, hb, hk⟩; refine ⟨_, rfl, ?_⟩; replace HB := a0_ (hb); replace HI754 := a0_ (hi); clear hb hk hi) | ((with_reducible refine gate_dst (N := 5) rfl ?_); refine boxS_ 5 #[.string (⟨#[]⟩ : ByteArray), .int .i64 0, .int .i64 0, .string (⟨#[]⟩ : ByteArray)] 45 (fun gb761 hg w9 hbox hb => ?_); have n0_ := a0_ (IsS117.below i117_ hb); have n1_ := a0_ (below_step bq2_ hb); have n2_ := a0_ (hbox); have n3_ := a0_ ((by rw [hg]; exact (below_size bq2_) : w.heap.size ≤ gb761)); have n4_ := a0_ ((by rw [hg]; exact (below_size bq2_) : w.heap.size ≤ gb761)); have n5_ := a0_ ((by rw [hg]; exact Nat.ne_of_lt (IsS117.lt (show IsS117 w _ gb754 l0 t759 t760 from i117_)) : gb754 ≠ gb761)); have n6_ := a0_ ((by rw [hg]; exact Nat.ne_of_gt (IsS117.lt (show IsS117 w _ gb754 l0 t759 t760 from i117_)) : gb761 ≠ gb754)); clear HI754; clear HB; have HI754 := n0_; have HB := n1_; have BK761 := n2_; have GW761 := n3_; have GE761 := n4_; have NB754_761 := n5_; have NB761_754 := n6_; clear n0_ n1_ n2_ n3_ n4_ n5_ n6_; clear hb hbox hg; have hnb10 := NB761_754.out; have hnc10 := NB754_761.out; obtain ⟨z11_0, z11_1, z11_2, z11_3, q11_0, q11_1, q11_2, q11_3⟩ := bk4_ BK761.out) | ((with_reducible refine gate_callee (f := 98) rfl ?_); refine goesL_ (some 18) rfl rfl Tryz.func98 (by kernel_rfl) rfl #[.int .i64 t756, .string t758] rfl argsS_ ?_; (with_reducible refine (spec_DataBytes.calls k t756 t758 t762 t763 _ A3.out).mono ?_); rintro e w12 ⟨rfl, hb⟩; refine ⟨_, rfl, ?_⟩; have n0_ := a0_ (IsS117.below (show IsS117 w ((((w9.setCell ⟨gb761, 0, none⟩ (.string t755)).setCell ⟨gb761, 1, none⟩ (.int .i64 t756)).setCell ⟨gb761, 2, none⟩ (.int .i64 t757)).setCell ⟨gb761, 3, none⟩ (.string t758)) gb754 l0 t759 t760 from i117_) hb); have n1_ := a0_ (blk_below (g := gb761) (o := .cells #[.string t755, .int .i64 t756, .int .i64 t757, .string t758] 45 (0, 0)) (put4_ BK761.out) hb); have n2_ := a0_ (below_step bq2_ hb); clear HI754; clear BK761; clear HB; have HI754 := n0_; have BK761 := n1_; have HB := n2_; clear n0_ n1_ n2_; clear hb) | ((with_reducible refine gate_callee (f := 99) rfl ?_); refine goesL_ (some 22) rfl rfl Tryz.func99 (by kernel_rfl) rfl #[.pointer (some ⟨gb754, 0, none⟩), .int .i64 4] rfl argsS_ ?_; (with_reducible refine (spec_l1Cur_one.calls gb754 l0 t759 t760 4 true t765 t766 w _ ?side1 ?side2 A4.out).mono ?_); (case side1 => exact i117_); (case side2 => exact bq2_); rintro e w13 ⟨rfl, hi, hb, hk⟩; refine ⟨_, rfl, ?_⟩; replace BK761 := a0_ (kk_ BK761 hk NB761_754.out); replace HB := a0_ (hb); replace HI754 := a0_ (hi); clear hb hk hi) | ((with_reducible refine gate_callee (f := 100) rfl ?_); refine goesL_ (some 25) rfl rfl Tryz.func100 (by kernel_rfl) rfl #[.pointer (some ⟨gb754, 0, none⟩), .string t762, .string (⟨#[0, 1, 97]⟩ : ByteArray)] rfl argsS_ ?_; (with_reducible refine (spec_l1Cur_spoilt.calls k gb754 l0 t765 t766 t762 (⟨#[0, 1, 97]⟩ : ByteArray) t767 t768 t769 w _ ?side1 ?side2 A6.out).mono ?_); (case side1 => exact i117_); (case side2 => exact bq2_); rintro e w14 ⟨rfl, hi, hb, hk⟩; refine ⟨_, rfl, ?_⟩; replace BK761 := a0_ (kk_ BK761 hk NB761_754.out); replace HB := a0_ (hb); replace HI754 := a0_ (hi); clear hb hk hi; obtain ⟨z15_0, z15_1, z15_2, z15_3, q15_0, q15_1, q15_2, q15_3⟩ := bk4_ BK761.out))
 go_ret2
 exact ⟨rr_, bq2_⟩
def impl_dataBytes.f (k : Nat) (a0 : Int) (a1 : ByteArray) : Option (ByteArray) := (impl_DataBytes.f k a0 a1).bind fun bt402 => (if bt402.2 = true then (some bt402.1) else (some (⟨#[]⟩ : ByteArray)))
set_option maxHeartbeats 8000000 in
set_option maxRecDepth 100000 in
theorem impl_dataBytes.calls (k : Nat) (a0 : Int) (a1 : ByteArray) (r : ByteArray) (w : World) (h : impl_dataBytes.f k a0 a1 = some r) (hv_ : Vars w := by exact vv_) :
 Calls Tryz.prog 141 #[.int .i64 a0, .string a1] w fun e w' => e = .returned (.string r) ∧ Below w.heap.size w w' := by
 have HV_ := a0_ hv_
 clear hv_
 have HB := a0_ (Below.refl w.heap.size w)
 have H := h
 clear h
 unfold impl_dataBytes.f at H
 obtain ⟨⟨t402, t403⟩, A30, H⟩ := Option.bind_eq_some_iff.mp H
 have A3 := a0_ A30
 clear A30
 by_cases c4 : t403 = true
 case pos =>
  subst c4
  rw [if_pos rfl] at H
  obtain rfl := Option.some.inj H
  go_enter Tryz.func141, Tryz.ntmps141
  go_wp2_with (first | ((with_reducible refine gate_callee (f := 31) rfl ?_); refine goesL_ (some 10) rfl rfl Tryz.func31 (by kernel_rfl) rfl #[.int .i64 a0, .string a1] rfl argsS_ ?_; (with_reducible refine (impl_DataBytes.calls k a0 a1 t402 true _ A3.out).mono ?_); rintro e w5 ⟨rfl, hb⟩; refine ⟨_, rfl, ?_⟩; replace HB := a0_ (below_step bq0_ hb); clear hb))
  go_ret
  exact ⟨rr_, bq0_⟩
 replace c4 := Bool.eq_false_iff.mpr c4
 subst c4
 rw [if_neg (show ¬ (false = true) by decide)] at H
 obtain rfl := Option.some.inj H
 go_enter Tryz.func141, Tryz.ntmps141
 go_wp2_with (first | ((with_reducible refine gate_callee (f := 31) rfl ?_); refine goesL_ (some 10) rfl rfl Tryz.func31 (by kernel_rfl) rfl #[.int .i64 a0, .string a1] rfl argsS_ ?_; (with_reducible refine (impl_DataBytes.calls k a0 a1 t402 false _ A3.out).mono ?_); rintro e w6 ⟨rfl, hb⟩; refine ⟨_, rfl, ?_⟩; replace HB := a0_ (below_step bq0_ hb); clear hb))
 go_ret
 exact ⟨rr_, bq0_⟩
def spec_CompareRecords.f (k : Nat) (a0_0 : ByteArray) (a0_1 : Int) (a0_2 : Int) (a0_3 : ByteArray) (a1_0 : ByteArray) (a1_1 : Int) (a1_2 : Int) (a1_3 : ByteArray) : Option (Int × Bool) := (spec_GoodRecord.f k a0_0 a0_1 a0_2 a0_3).bind fun t800 => (if t800 = true then ((spec_GoodRecord.f k a1_0 a1_1 a1_2 a1_3).bind fun t801 => (if t801 = true then ((spec_l3Compare.f k a0_0 a0_1 a0_2 a0_3 a1_0 a1_1 a1_2 a1_3).bind fun t802 => (some (t802, true))) else (some (0, false)))) else (some (0, false)))
set_option maxHeartbeats 8000000 in
set_option maxRecDepth 100000 in
theorem spec_CompareRecords.calls (k : Nat) (a0_0 : ByteArray) (a0_1 : Int) (a0_2 : Int) (a0_3 : ByteArray) (a1_0 : ByteArray) (a1_1 : Int) (a1_2 : Int) (a1_3 : ByteArray) (r1 : Int) (r2 : Bool) (w : World) (h : spec_CompareRecords.f k a0_0 a0_1 a0_2 a0_3 a1_0 a1_1 a1_2 a1_3 = some (r1, r2)) :
 Calls Tryz.prog 37 #[.agg #[.string a0_0, .int .i64 a0_1, .int .i64 a0_2, .string a0_3], .agg #[.string a1_0, .int .i64 a1_1, .int .i64 a1_2, .string a1_3]] w fun e w' => e = .returned (.tuple #[.int .i64 r1, .bool r2]) ∧ Below w.heap.size w w' := by
 have hu45 := Tryz.underlying45
 have HB := a0_ (Below.refl w.heap.size w)
 have H := h
 clear h
 unfold spec_CompareRecords.f at H
 obtain ⟨t800, A30, H⟩ := Option.bind_eq_some_iff.mp H
 have A3 := a0_ A30
 clear A30
 by_cases c4 : t800 = true
 case neg =>
  replace c4 := Bool.eq_false_iff.mpr c4
  subst c4
  rw [if_neg (show ¬ (false = true) by decide)] at H
  simp only [Option.some.injEq, Prod.mk.injEq] at H
  obtain ⟨rfl, rfl⟩ := H
  go_enter Tryz.func37, Tryz.ntmps37
  go_wp2_with (first | ((with_reducible refine gate_dst (N := 2) rfl ?_); refine boxS_ 2 #[.string a0_0, .int .i64 a0_1, .int .i64 a0_2, .string a0_3] 45 (fun gb798 hg w25 hbox hb => ?_); have n0_ := a0_ (below_step bq0_ hb); have n1_ := a0_ (hbox); have n2_ := a0_ (gw_ hg : w.heap.size ≤ gb798); have n3_ := n2_; clear HB; have HB := n0_; have BK798 := n1_; have GW798 := n2_; have GE798 := n3_; clear n0_ n1_ n2_ n3_; clear hb hbox hg) | ((with_reducible refine gate_dst (N := 3) rfl ?_); refine boxS_ 3 #[.string a1_0, .int .i64 a1_1, .int .i64 a1_2, .string a1_3] 45 (fun gb799 hg w26 hbox hb => ?_); have n0_ := a0_ (bkB_ BK798 hb); have n1_ := a0_ (below_step bq1_ hb); have n2_ := a0_ (hbox); have n3_ := a0_ (gw_ hg (below_size bq1_) : w.heap.size ≤ gb799); have n4_ := n3_; have n5_ := a0_ ((by rw [hg]; exact Nat.ne_of_lt (blk_lt (g := gb798) (o := .cells #[.string a0_0, .int .i64 a0_1, .int .i64 a0_2, .string a0_3] 45 (0, 0)) (kB_ BK798.out)) : gb798 ≠ gb799)); have n6_ := a0_ ((by rw [hg]; exact Nat.ne_of_gt (blk_lt (g := gb798) (o := .cells #[.string a0_0, .int .i64 a0_1, .int .i64 a0_2, .string a0_3] 45 (0, 0)) (kB_ BK798.out)) : gb799 ≠ gb798)); clear BK798; clear HB; have BK798 := n0_; have HB := n1_; have BK799 := n2_; have GW799 := n3_; have GE799 := n4_; have NB798_799 := n5_; have NB799_798 := n6_; clear n0_ n1_ n2_ n3_ n4_ n5_ n6_; clear hb hbox hg; have hnb27 := NB798_799.out; have hnc27 := NB799_798.out; obtain ⟨z28_0, z28_1, z28_2, z28_3, q28_0, q28_1, q28_2, q28_3⟩ := bk4_ BK798.out) | ((with_reducible refine gate_callee (f := 61) rfl ?_); refine goesL_ (some 7) rfl rfl Tryz.func61 (by kernel_rfl) rfl #[.agg #[.string a0_0, .int .i64 a0_1, .int .i64 a0_2, .string a0_3]] rfl argsS_ ?_; (with_reducible refine (spec_GoodRecord.calls k a0_0 a0_1 a0_2 a0_3 false _ A3.out).mono ?_); rintro e w29 ⟨rfl, hb⟩; refine ⟨_, rfl, ?_⟩; replace BK798 := a0_ (bkB_ BK798 hb); replace BK799 := a0_ (bkB_ BK799 hb); replace HB := a0_ (below_step bq1_ hb); clear hb))
  go_ret2
  exact ⟨rr_, bq1_⟩
 subst c4
 rw [if_pos rfl] at H
 obtain ⟨t801, A50, H⟩ := Option.bind_eq_some_iff.mp H
 have A5 := a0_ A50
 clear A50
 by_cases c6 : t801 = true
 case neg =>
  replace c6 := Bool.eq_false_iff.mpr c6
  subst c6
  rw [if_neg (show ¬ (false = true) by decide)] at H
  simp only [Option.some.injEq, Prod.mk.injEq] at H
  obtain ⟨rfl, rfl⟩ := H
  go_enter Tryz.func37, Tryz.ntmps37
  go_wp2_with (first | ((with_reducible refine gate_dst (N := 2) rfl ?_); refine boxS_ 2 #[.string a0_0, .int .i64 a0_1, .int .i64 a0_2, .string a0_3] 45 (fun gb798 hg w18 hbox hb => ?_); have n0_ := a0_ (below_step bq0_ hb); have n1_ := a0_ (hbox); have n2_ := a0_ (gw_ hg : w.heap.size ≤ gb798); have n3_ := n2_; clear HB; have HB := n0_; have BK798 := n1_; have GW798 := n2_; have GE798 := n3_; clear n0_ n1_ n2_ n3_; clear hb hbox hg) | ((with_reducible refine gate_dst (N := 3) rfl ?_); refine boxS_ 3 #[.string a1_0, .int .i64 a1_1, .int .i64 a1_2, .string a1_3] 45 (fun gb799 hg w19 hbox hb => ?_); have n0_ := a0_ (bkB_ BK798 hb); have n1_ := a0_ (below_step bq1_ hb); have n2_ := a0_ (hbox); have n3_ := a0_ (gw_ hg (below_size bq1_) : w.heap.size ≤ gb799); have n4_ := n3_; have n5_ := a0_ ((by rw [hg]; exact Nat.ne_of_lt (blk_lt (g := gb798) (o := .cells #[.string a0_0, .int .i64 a0_1, .int .i64 a0_2, .string a0_3] 45 (0, 0)) (kB_ BK798.out)) : gb798 ≠ gb799)); have n6_ := a0_ ((by rw [hg]; exact Nat.ne_of_gt (blk_lt (g := gb798) (o := .cells #[.string a0_0, .int .i64 a0_1, .int .i64 a0_2, .string a0_3] 45 (0, 0)) (kB_ BK798.out)) : gb799 ≠ gb798)); clear BK798; clear HB; have BK798 := n0_; have HB := n1_; have BK799 := n2_; have GW799 := n3_; have GE799 := n4_; have NB798_799 := n5_; have NB799_798 := n6_; clear n0_ n1_ n2_ n3_ n4_ n5_ n6_; clear hb hbox hg; have hnb20 := NB798_799.out; have hnc20 := NB799_798.out; obtain ⟨z21_0, z21_1, z21_2, z21_3, q21_0, q21_1, q21_2, q21_3⟩ := bk4_ BK798.out) | ((with_reducible refine gate_callee (f := 61) rfl ?_); refine goesL_ (some 7) rfl rfl Tryz.func61 (by kernel_rfl) rfl #[.agg #[.string a0_0, .int .i64 a0_1, .int .i64 a0_2, .string a0_3]] rfl argsS_ ?_; (with_reducible refine (spec_GoodRecord.calls k a0_0 a0_1 a0_2 a0_3 true _ A3.out).mono ?_); rintro e w22 ⟨rfl, hb⟩; refine ⟨_, rfl, ?_⟩; replace BK798 := a0_ (bkB_ BK798 hb); replace BK799 := a0_ (bkB_ BK799 hb); replace HB := a0_ (below_step bq1_ hb); clear hb; obtain ⟨z23_0, z23_1, z23_2, z23_3, q23_0, q23_1, q23_2, q23_3⟩ := bk4_ BK799.out) | (go_at_call 61; (with_reducible refine (spec_GoodRecord.calls k a1_0 a1_1 a1_2 a1_3 false _ A5.out).mono ?_); rintro e w24 ⟨rfl, hb⟩; replace BK798 := a0_ (bkB_ BK798 hb); replace BK799 := a0_ (bkB_ BK799 hb); replace HB := a0_ (below_step bq1_ hb); clear hb))
  go_ret2
  exact ⟨rr_, bq1_⟩
 subst c6
 rw [if_pos rfl] at H
 obtain ⟨t802, A70, H⟩ := Option.bind_eq_some_iff.mp H
 have A7 := a0_ A70
 clear A70
 simp only [Option.some.injEq, Prod.mk.injEq] at H
 obtain ⟨rfl, rfl⟩ := H
 go_enter Tryz.func37, Tryz.ntmps37
 go_wp2_with (first | ((with_reducible refine gate_dst (N := 2) rfl ?_); refine boxS_ 2 #[.string a0_0, .int .i64 a0_1, .int .i64 a0_2, .string a0_3] 45 (fun gb798 hg w8 hbox hb => ?_); have n0_ := a0_ (below_step bq0_ hb); have n1_ := a0_ (hbox); have n2_ := a0_ (gw_ hg : w.heap.size ≤ gb798); have n3_ := n2_; clear HB; have HB := n0_; have BK798 := n1_; have GW798 := n2_; have GE798 := n3_; clear n0_ n1_ n2_ n3_; clear hb hbox hg) | ((with_reducible refine gate_dst (N := 3) rfl ?_); refine boxS_ 3 #[.string a1_0, .int .i64 a1_1, .int .i64 a1_2, .string a1_3] 45 (fun gb799 hg w9 hbox hb => ?_); have n0_ := a0_ (bkB_ BK798 hb); have n1_ := a0_ (below_step bq1_ hb); have n2_ := a0_ (hbox); have n3_ := a0_ (gw_ hg (below_size bq1_) : w.heap.size ≤ gb799); have n4_ := n3_; have n5_ := a0_ ((by rw [hg]; exact Nat.ne_of_lt (blk_lt (g := gb798) (o := .cells #[.string a0_0, .int .i64 a0_1, .int .i64 a0_2, .string a0_3] 45 (0, 0)) (kB_ BK798.out)) : gb798 ≠ gb799)); have n6_ := a0_ ((by rw [hg]; exact Nat.ne_of_gt (blk_lt (g := gb798) (o := .cells #[.string a0_0, .int .i64 a0_1, .int .i64 a0_2, .string a0_3] 45 (0, 0)) (kB_ BK798.out)) : gb799 ≠ gb798)); clear BK798; clear HB; have BK798 := n0_; have HB := n1_; have BK799 := n2_; have GW799 := n3_; have GE799 := n4_; have NB798_799 := n5_; have NB799_798 := n6_; clear n0_ n1_ n2_ n3_ n4_ n5_ n6_; clear hb hbox hg; have hnb10 := NB798_799.out; have hnc10 := NB799_798.out; obtain ⟨z11_0, z11_1, z11_2, z11_3, q11_0, q11_1, q11_2, q11_3⟩ := bk4_ BK798.out) | ((with_reducible refine gate_callee (f := 61) rfl ?_); refine goesL_ (some 7) rfl rfl Tryz.func61 (by kernel_rfl) rfl #[.agg #[.string a0_0, .int .i64 a0_1, .int .i64 a0_2, .string a0_3]] rfl argsS_ ?_; (with_reducible refine (spec_GoodRecord.calls k a0_0 a0_1 a0_2 a0_3 true _ A3.out).mono ?_); rintro e w12 ⟨rfl, hb⟩; refine ⟨_, rfl, ?_⟩; replace BK798 := a0_ (bkB_ BK798 hb); replace BK799 := a0_ (bkB_ BK799 hb); replace HB := a0_ (below_step bq1_ hb); clear hb; obtain ⟨z13_0, z13_1, z13_2, z13_3, q13_0, q13_1, q13_2, q13_3⟩ := bk4_ BK799.out) | (go_at_call 61; (with_reducible refine (spec_GoodRecord.calls k a1_0 a1_1 a1_2 a1_3 true _ A5.out).mono ?_); rintro e w14 ⟨rfl, hb⟩; replace BK798 := a0_ (bkB_ BK798 hb); replace BK799 := a0_ (bkB_ BK799 hb); replace HB := a0_ (below_step bq1_ hb); clear hb; obtain ⟨z15_0, z15_1, z15_2, z15_3, q15_0, q15_1, q15_2, q15_3⟩ := bk4_ BK798.out; obtain ⟨z16_0, z16_1, z16_2, z16_3, q16_0, q16_1, q16_2, q16_3⟩ := bk4_ BK799.out) | ((with_reducible refine gate_callee (f := 62) rfl ?_); refine goesL_ (some 16) rfl rfl Tryz.func62 (by kernel_rfl) rfl #[.agg #[.string a0_0, .int .i64 a0_1, .int .i64 a0_2, .string a0_3], .agg #[.string a1_0, .int .i64 a1_1, .int .i64 a1_2, .string a1_3]] rfl argsS_ ?_; (with_reducible refine (spec_l3Compare.calls k a0_0 a0_1 a0_2 a0_3 a1_0 a1_1 a1_2 a1_3 t802 _ A7.out).mono ?_); rintro e w17 ⟨rfl, hb⟩; refine ⟨_, rfl, ?_⟩; replace BK798 := a0_ (bkB_ BK798 hb); replace BK799 := a0_ (bkB_ BK799 hb); replace HB := a0_ (below_step bq1_ hb); clear hb))
 go_ret2
 exact ⟨rr_, bq1_⟩
end Go.Proofs.YtiegkjimpclmaaaGreatDoor.P
namespace Go.Proofs.YtiegkjimpclmaaaGreatDoor.Pure
open Go.RowKit Go.Proofs.YtiegkjimpclmaaaGreatDoor.P Go.Proofs.YtiegkjimpclmaaaGreatDoorW.PrintWords Go.Proofs.YtiegkjimpclmaaaGreatDoorW.PrintLast
set_option linter.unusedVariables false
set_option linter.unusedSimpArgs false
theorem nb_rd (l : List ByteArray) (i : Nat) (h : i < l.length) : rdOf ByteArray.empty l (i : Int) = l[i] := by
 unfold rdOf
 rw [Int.toNat_natCast, List.getD_eq_getElem?_getD, List.getElem?_eq_getElem h]
 rfl
theorem nb_loops (parts : List ByteArray) (hp : ∀ p ∈ parts, p.size ≤ 1000) (hl : parts.length ≤ 1000) : ∀ (m i : Nat) (acc : ByteArray), i + m = parts.length → acc.size + m * 1024 < 1099511627776 →
 ∃ r, Ev (fun k => impl_labelBytes.l0 k acc parts (parts.length : Int) (i : Int)) r ∧ Ev (fun k => spec_l2Bytes.l0 k acc parts (parts.length : Int) (i : Int)) (r ++ (⟨#[0]⟩ : ByteArray)) ∧ r.size = acc.size + ((parts.drop i).map fun p => 1 + p.size).sum ∧ r.size < 1099511627776
 | 0, i, acc, him, ha => by
  refine ⟨acc, Ev.step (f := fun _ => some acc) (fun k => ?_) (Ev.now _), Ev.step (f := fun _ => some (acc ++ (⟨#[0]⟩ : ByteArray))) (fun k => ?_) (Ev.now _), by rw [List.drop_of_length_le (by omega)]; rfl, by omega⟩
  · show impl_labelBytes.l0 (k + 1) acc parts (parts.length : Int) (i : Int) = _
    unfold impl_labelBytes.l0
    rw [if_neg (by omega)]
  · show spec_l2Bytes.l0 (k + 1) acc parts (parts.length : Int) (i : Int) = _
    unfold spec_l2Bytes.l0
    rw [if_neg (by omega), if_pos (by omega)]
 | m + 1, i, acc, him, ha => by
  have hi : i < parts.length := by omega
  have hs : ∀ v : Int, (strOfNums [v]).size = 1 := fun v => by rw [strOfNums_size]; rfl
  have hpi := hp _ (List.getElem_mem hi)
  obtain ⟨r, h1, h2, h3, h4⟩ := nb_loops parts hp hl m (i + 1) (acc ++ (strOfNums [((parts[i].size : Int)) % 256] ++ parts[i])) (by omega) (by
   rw [ByteArray.size_append, ByteArray.size_append, hs]; omega)
  refine ⟨r, Ev.step (fun k => ?_) h1, Ev.step (fun k => ?_) h2, ?_, h4⟩
  · show impl_labelBytes.l0 (k + 1) acc parts (parts.length : Int) (i : Int) = _
    conv => lhs; unfold impl_labelBytes.l0
    rw [if_pos (by omega), if_pos (by omega), if_pos (by omega), nb_rd _ _ hi, Option.bind_some, if_pos (by rw [hs]; omega), if_pos (by rw [ByteArray.size_append, hs]; omega), w64n (by omega)]
  · show spec_l2Bytes.l0 (k + 1) acc parts (parts.length : Int) (i : Int) = _
    conv => lhs; unfold spec_l2Bytes.l0
    rw [if_pos (by omega), if_pos (by omega), if_pos (by omega), nb_rd _ _ hi, Option.bind_some, if_pos (by rw [hs]; omega), if_pos (by rw [ByteArray.size_append, hs]; omega), w64n (by omega)]
  · rw [h3, ByteArray.size_append, ByteArray.size_append, hs, List.drop_eq_getElem_cons hi, List.map_cons, List.sum_cons]
    omega
theorem split_sum : ∀ l : List UInt8, ((splitL 46 l).map fun p => 1 + p.length).sum = l.length + 1
 | [] => rfl
 | x :: xs => by
  have ih := split_sum xs
  unfold splitL
  split
  · rw [List.map_cons, List.sum_cons, ih, List.length_cons, List.length_nil]
    omega
  · cases hs : splitL 46 xs with
    | nil => exact absurd hs (splitL_ne 46 xs)
    | cons p ps =>
     rw [hs, List.map_cons, List.sum_cons] at ih
     rw [List.map_cons, List.sum_cons, List.length_cons, List.length_cons]
     omega
theorem nb_both (s : ByteArray) (h : goodL s.data.toList = true) : ∃ r, Ev (fun k => impl_labelBytes.f k s) r ∧ Ev (fun k => spec_l2Bytes.f k s) (r ++ (⟨#[0]⟩ : ByteArray)) ∧ r.size = (if s.size = 0 then 0 else s.size + 1) := by
 have hg := good_size h
 have hss := size_len s
 obtain ⟨q, e1, e2, e3⟩ := labels_ev s (by omega)
 have e3 := e3 (e2.trans h)
 have hlen : (labelsL s.data.toList).length ≤ 61 := by
  unfold labelsL
  split
  · simp
  · have := splitL_len 46 s.data.toList; omega
 obtain ⟨r, h1, h2, h3, h4⟩ := nb_loops ((labelsL s.data.toList).map mkB) (by
  intro p hp
  obtain ⟨x, hx, rfl⟩ := List.mem_map.1 hp
  rw [mkB_size]
  unfold labelsL at hx
  split at hx
  · cases hx
  · have := splitL_part 46 _ x hx; omega) (by rw [List.length_map]; omega) _ 0 (⟨#[]⟩ : ByteArray) (Nat.zero_add _) (by rw [List.length_map]; show 0 + _ < _; omega)
 refine ⟨r, ?_, ?_, ?_⟩
 · refine Ev.congr (f := fun k => impl_labelBytes.l0 k (⟨#[]⟩ : ByteArray) ((labelsL s.data.toList).map mkB) (((labelsL s.data.toList).map mkB).length : Int) 0) (fun k => ?_) h1
   unfold impl_labelBytes.f
   rw [labelsOf_eq s (by omega)]
   rfl
 · refine Ev.congr (f := fun k => (spec_l1Labels.f k s).bind fun bt137 => (spec_l2Bytes.l0 k (⟨#[]⟩ : ByteArray) bt137.1 (bt137.1.length : Int) 0)) (fun k => rfl) (Ev.bind e1 ?_)
   rw [e3]
   exact h2
 · rw [h3, List.drop_zero, List.map_map]
   have e : ((fun p : ByteArray => 1 + p.size) ∘ mkB) = fun p => 1 + p.length := by funext p; show 1 + (mkB p).size = _; rw [mkB_size]
   rw [e]
   unfold labelsL
   by_cases h0 : s.data.toList = []
   · rw [if_pos h0, if_pos (by rw [hss, h0]; rfl)]; rfl
   · rw [if_neg h0, if_neg (by rw [hss]; have := List.length_pos_iff.2 h0; omega), split_sum, ← hss]
     show 0 + (s.size + 1) = _
     omega
end Go.Proofs.YtiegkjimpclmaaaGreatDoor.Pure
namespace Go.Proofs.YtiegkjimpclmaaaGreatDoor.Pure
open Go.RowKit Go.Proofs.YtiegkjimpclmaaaGreatDoor.P Go.Proofs.YtiegkjimpclmaaaGreatDoorW.PrintWords Go.Proofs.YtiegkjimpclmaaaGreatDoorW.PrintLast Go.Proofs.YtiegkjimpclmaaaGreatDoorW.PrintMore
set_option linter.unusedVariables false
set_option linter.unusedSimpArgs false
theorem num_one (n : Int) (h0 : 0 ≤ n) (h9 : n < 10) : strOfNums [(wrap64 (48 + n)) % 256] = mkB [UInt8.ofNat (48 + n.toNat)] := by
 have e : wrap64 (48 + n) % 256 = ((48 + n.toNat : Nat) : Int) := by unfold wrap64; omega
 rw [e]
 show strOfNums [((48 + n.toNat : Nat) : Int)] = mkB [UInt8.ofNat (((48 + n.toNat : Nat) : Int).toNat)]
 rfl
theorem mkB_app (p q : List UInt8) : mkB p ++ mkB q = mkB (p ++ q) := by
 apply ByteArray.ext
 simp [mkB, ByteArray.append]
theorem digits_len (u : Nat) (h : u < 9223372036854775807) : (Lib.decDigits u).length ≤ 21 := by
 have := Lib.itoa_length_le (u : Int) (by omega) (by omega)
 rwa [Lib.itoa_nonneg] at this
theorem num_ev : ∀ (n u : Nat), u ≤ n → u < 9223372036854775807 → Ev (fun k => spec_l1Num.f k (u : Int)) (mkB (Lib.decDigits u))
 | n, u, hn, hu => by
  by_cases h10 : u < 10
  · refine Ev.step (f := fun _ => some (mkB (Lib.decDigits u))) (fun k => ?_) (Ev.now _)
    show spec_l1Num.f (k + 1) (u : Int) = _
    unfold spec_l1Num.f
    rw [if_pos (by omega), num_one _ (by omega) (by omega), Lib.decDigits_one h10, Int.toNat_natCast]
  · cases n with
    | zero => omega
    | succ n =>
     have ih := num_ev n (u / 10) (by omega) (by omega)
     have hlen := digits_len (u / 10) (by omega)
     have e1 : wrap64 (Int.tdiv (u : Int) 10) = ((u / 10 : Nat) : Int) := by
      rw [Int.tdiv_eq_ediv_of_nonneg (by omega), show (u : Int) / 10 = ((u / 10 : Nat) : Int) by omega]
      unfold wrap64; omega
     have e2 : Int.tmod (u : Int) 10 = ((u % 10 : Nat) : Int) := by
      rw [Int.tmod_eq_emod_of_nonneg (by omega)]
      omega
     rw [← e1] at ih
     refine Ev.step (f := fun k => (spec_l1Num.f k (wrap64 (Int.tdiv u 10))).bind fun t285 => ((some (([(wrap64 (48 + (Int.tmod u 10))) % 256] : List Int) : List Int)).bind fun y286 => (if t285.size + (strOfNums y286).size ≤ 9223372036854775807 then (some (t285 ++ (strOfNums y286))) else (none)))) (fun k => ?_) (Ev.bind ih ?_)
     · show spec_l1Num.f (k + 1) (u : Int) = _
       rw [spec_l1Num.f, if_neg (by omega)]
     · simp only [Option.bind_some]
       rw [e2, num_one _ (by omega) (by omega), Int.toNat_natCast, mkB_size, mkB_size]
       simp only [if_pos (show (Lib.decDigits (u / 10)).length + [UInt8.ofNat (48 + u % 10)].length ≤ 9223372036854775807 by simp only [List.length_cons, List.length_nil]; omega)]
       rw [mkB_app, show Lib.decDigits (u / 10) ++ [UInt8.ofNat (48 + u % 10)] = Lib.decDigits u by rw [Lib.decDigits.eq_1 u, dif_neg h10]]
       exact Ev.now _
def itB (n : Int) : ByteArray := mkB (Lib.decDigits n.toNat)
theorem itB_size (n : Int) (h0 : 0 ≤ n) (h1 : n < 9223372036854775807) : (itB n).size ≤ 21 := by
 unfold itB
 rw [mkB_size]
 exact digits_len _ (by omega)
theorem sp1 : (⟨#[32]⟩ : ByteArray).size = 1 := rfl
theorem num_it (n : Int) (h0 : 0 ≤ n) (h1 : n < 9223372036854775807) : Ev (fun k => spec_l1Num.f k n) (itB n) := by
 have := num_ev n.toNat n.toNat (Nat.le_refl _) (by omega)
 rwa [show ((n.toNat : Nat) : Int) = n by omega] at this
theorem itoa_it (n : Int) (h0 : 0 ≤ n) (h1 : n < 9223372036854775807) : strconv_Itoa.f n = some (itB n) := by
 unfold strconv_Itoa.f itB Lib.itoa
 rw [if_pos (by omega), if_neg (by omega)]
 rfl
end Go.Proofs.YtiegkjimpclmaaaGreatDoor.Pure
namespace Go.Proofs.YtiegkjimpclmaaaGreatDoor.Pure
open Go.RowKit Go.Proofs.YtiegkjimpclmaaaGreatDoor.P Go.Proofs.YtiegkjimpclmaaaGreatDoorW.PrintWords Go.Proofs.YtiegkjimpclmaaaGreatDoorW.PrintLast
set_option linter.unusedVariables false
set_option linter.unusedSimpArgs false
theorem swap_ends (p m q : List ByteArray) (a b : ByteArray) : ((p ++ (a :: (m ++ [b])) ++ q).set p.length b).set (p.length + m.length + 1) a = (p ++ [b]) ++ m ++ (a :: q) := by
 have h1 : (p ++ (a :: (m ++ [b])) ++ q).set p.length b = p ++ b :: (m ++ b :: q) := by simp [List.set_append]
 have h2 : (p ++ b :: (m ++ b :: q)) = (p ++ b :: m) ++ b :: q := by simp
 have h3 : p.length + m.length + 1 = (p ++ b :: m).length := by simp; omega
 rw [h1, h2, h3, List.set_append_right _ _ (Nat.le_refl _), Nat.sub_self]
 simp
theorem get_first (p m q : List ByteArray) (a b : ByteArray) : rdOf ByteArray.empty (p ++ (a :: (m ++ [b])) ++ q) (p.length : Int) = a := by
 unfold rdOf
 simp [List.getD_eq_getElem?_getD]
theorem get_last (p m q : List ByteArray) (a b : ByteArray) : rdOf ByteArray.empty (p ++ (a :: (m ++ [b])) ++ q) ((p.length + m.length + 1 : Nat) : Int) = b := by
 have h2 : p ++ (a :: (m ++ [b])) ++ q = (p ++ a :: m) ++ b :: q := by simp
 have h3 : p.length + m.length + 1 = (p ++ a :: m).length := by simp; omega
 unfold rdOf
 rw [Int.toNat_natCast, h2, h3]
 simp [List.getD_eq_getElem?_getD]
theorem reverse_loop : ∀ (n : Nat) (p m q : List ByteArray), m.length ≤ n → p.length + m.length + q.length < 1099511627776 →
 Ev (fun k => slices_Reverse_string_string.l0 k (p ++ m ++ q) (p.length : Int) ((p.length : Int) + (m.length : Int) - 1)) (p ++ m.reverse ++ q)
 | n, p, [], q, hn, hb => by
  refine Ev.step (f := fun _ => some _) (fun k => ?_) (Ev.now _)
  show slices_Reverse_string_string.l0 (k + 1) (p ++ [] ++ q) (p.length : Int) ((p.length : Int) + (0 : Int) - 1) = _
  unfold slices_Reverse_string_string.l0
  rw [if_neg (by omega)]
  rfl
 | n, p, a :: t, q, hn, hb => by
  rcases List.eq_nil_or_concat t with rfl | ⟨m, b, rfl⟩
  · refine Ev.step (f := fun _ => some _) (fun k => ?_) (Ev.now _)
    show slices_Reverse_string_string.l0 (k + 1) (p ++ [a] ++ q) (p.length : Int) ((p.length : Int) + (1 : Int) - 1) = _
    unfold slices_Reverse_string_string.l0
    rw [if_neg (by omega)]
    rfl
  · rw [List.concat_eq_append] at hn hb ⊢
    have hl : (a :: (m ++ [b])).length = m.length + 2 := by simp
    rw [hl] at hn hb ⊢
    match n, hn with
    | n + 1, hn =>
     have ih := reverse_loop n (p ++ [b]) m (a :: q) (by omega) (by simp; omega)
     have e : p ++ (a :: (m ++ [b])).reverse ++ q = (p ++ [b]) ++ m.reverse ++ (a :: q) := by simp
     rw [e]
     refine Ev.step (fun k => ?_) ih
     show slices_Reverse_string_string.l0 (k + 1) (p ++ (a :: (m ++ [b])) ++ q) (p.length : Int) ((p.length : Int) + ((m.length + 2 : Nat) : Int) - 1) = _
     have hj : (p.length : Int) + ((m.length + 2 : Nat) : Int) - 1 = ((p.length + m.length + 1 : Nat) : Int) := by omega
     have hlen : (p ++ (a :: (m ++ [b])) ++ q).length = p.length + m.length + 2 + q.length := by simp; omega
     rw [hj]
     conv => lhs; unfold slices_Reverse_string_string.l0
     rw [hlen, if_pos (by omega), if_pos (by omega), if_pos (by omega), if_pos (by omega), if_pos (by omega), get_first, get_last, Int.toNat_natCast, Int.toNat_natCast, swap_ends]
     rw [w64n (by omega), show wrap64 (((p.length + m.length + 1 : Nat) : Int) - 1) = ((p.length + m.length : Nat) : Int) by unfold wrap64; omega]
     have e1 : (p ++ [b]).length = p.length + 1 := by simp
     rw [e1]
     congr 1
     omega
theorem reverse_ev (l : List ByteArray) (h : l.length < 1099511627776) : Ev (fun k => slices_Reverse_string_string.f k l) l.reverse := by
 have := reverse_loop l.length [] l [] (Nat.le_refl _) (by simpa using h)
 simp only [List.nil_append, List.append_nil, List.length_nil] at this
 refine Ev.congr (fun k => ?_) this
 unfold slices_Reverse_string_string.f
 congr 1
 unfold wrap64
 show _ = (0 : Int) + (l.length : Int) - 1
 omega
def cmpP (a b : ByteArray) : Int := if Op.bytesLess a.toList b.toList = true then -1 else (if Op.bytesLess b.toList a.toList = true then 1 else 0)
def cmpL : List ByteArray → List ByteArray → Int
 | [], [] => 0
 | [], _ :: _ => -1
 | _ :: _, [] => 1
 | a :: x, b :: y => if cmpP a b = 0 then cmpL x y else cmpP a b
theorem cmp_eq (a b : ByteArray) : cmp_Compare_string.f a b = some (cmpP a b) := by
 unfold cmp_Compare_string.f cmp_isNaN_string.f cmpP
 simp only [bne_self_eq_false, Option.bind_some]
 rw [if_neg (by simp), if_neg (by simp)]
 split
 · rfl
 · split <;> rfl
theorem rd_at (l : List ByteArray) (i : Nat) (h : i < l.length) : rdOf ByteArray.empty l (i : Int) = l[i] := by
 unfold rdOf
 rw [Int.toNat_natCast, List.getD_eq_getElem?_getD, List.getElem?_eq_getElem h]
 rfl
theorem compare_loop (x y : List ByteArray) (hx : x.length < 1099511627776) (hy : y.length < 1099511627776) : ∀ (m i : Nat), i + m = x.length → i ≤ y.length →
 Ev (fun k => slices_Compare_string_string.l0 k x y x (x.length : Int) (i : Int)) (cmpL (x.drop i) (y.drop i))
 | 0, i, h, hiy => by
  refine Ev.step (f := fun _ => some _) (fun k => ?_) (Ev.now _)
  show slices_Compare_string_string.l0 (k + 1) x y x (x.length : Int) (i : Int) = _
  unfold slices_Compare_string_string.l0
  rw [if_neg (by omega), List.drop_of_length_le (by omega)]
  by_cases hl : (x.length : Int) < (y.length : Int)
  · rw [if_pos hl, List.drop_eq_getElem_cons (show i < y.length by omega)]
    rfl
  · rw [if_neg hl, List.drop_of_length_le (by omega)]
    rfl
 | m + 1, i, h, hiy => by
  by_cases hl : (i : Int) ≥ (y.length : Int)
  · refine Ev.step (f := fun _ => some _) (fun k => ?_) (Ev.now _)
    show slices_Compare_string_string.l0 (k + 1) x y x (x.length : Int) (i : Int) = _
    unfold slices_Compare_string_string.l0
    rw [if_pos (by omega), if_pos (by omega), if_pos (by omega), if_pos hl, List.drop_of_length_le (show y.length ≤ i by omega), List.drop_eq_getElem_cons (show i < x.length by omega)]
    rfl
  · have ih := compare_loop x y hx hy m (i + 1) (by omega) (by omega)
    have hc : cmpL (x.drop i) (y.drop i) = if cmpP x[i] y[i] = 0 then cmpL (x.drop (i + 1)) (y.drop (i + 1)) else cmpP x[i] y[i] := by
     rw [List.drop_eq_getElem_cons (show i < x.length by omega), List.drop_eq_getElem_cons (show i < y.length by omega)]
     rfl
    refine Ev.step (f := fun k => if cmpP x[i] y[i] = 0 then slices_Compare_string_string.l0 k x y x (x.length : Int) ((i + 1 : Nat) : Int) else some (cmpP x[i] y[i])) (fun k => ?_) ?_
    · show slices_Compare_string_string.l0 (k + 1) x y x (x.length : Int) (i : Int) = _
      conv => lhs; unfold slices_Compare_string_string.l0
      rw [if_pos (by omega), if_pos (by omega), if_pos (by omega), if_neg hl, if_pos (by omega), rd_at x i (by omega), rd_at y i (by omega), cmp_eq, w64n (by omega)]
      rfl
    · rw [hc]
      by_cases h0 : cmpP x[i] y[i] = 0
      · simp only [if_pos h0]; exact ih
      · simp only [if_neg h0]; exact Ev.now _
theorem compare_ev (x y : List ByteArray) (hx : x.length < 1099511627776) (hy : y.length < 1099511627776) : Ev (fun k => slices_Compare_string_string.f k x y) (cmpL x y) := by
 have := compare_loop x y hx hy x.length 0 (by omega) (by omega)
 exact this
theorem speccomp_loop (x y : List ByteArray) (hx : x.length < 1099511627776) (hy : y.length < 1099511627776) : ∀ (m i : Nat), i + m = x.length → i ≤ y.length →
 Ev (fun k => spec_l1Compare.l0 k x y ((i + 1 : Nat) : Int)) (cmpL (x.reverse.drop i) (y.reverse.drop i))
 | m, i, h, hiy => by
  have hj : ∀ k, spec_l1Compare.l0 (k + 1) x y ((i + 1 : Nat) : Int) = spec_l1Compare.j1 k x y ((i + 1 : Nat) : Int) (decide (i + 1 ≤ x.length ∧ i + 1 ≤ y.length)) := by
   intro k
   conv => lhs; unfold spec_l1Compare.l0
   by_cases hl : ((i + 1 : Nat) : Int) ≤ (x.length : Int)
   · rw [if_pos hl]
     congr 1
     rw [decide_eq_decide]; omega
   · rw [if_neg hl]
     congr 1
     rw [eq_comm, decide_eq_false_iff_not]; omega
  refine Ev.step hj ?_
  by_cases hd : i + 1 ≤ x.length ∧ i + 1 ≤ y.length
  · obtain ⟨m, rfl⟩ : ∃ m', m = m' + 1 := ⟨m - 1, by omega⟩
    have hrx : i < x.reverse.length := by rw [List.length_reverse]; omega
    have hry : i < y.reverse.length := by rw [List.length_reverse]; omega
    have ih := speccomp_loop x y hx hy m (i + 1) (by omega) (by omega)
    have hwx : wrap64 ((x.length : Int) - ((i + 1 : Nat) : Int)) = ((x.length - 1 - i : Nat) : Int) := by unfold wrap64; omega
    have hwy : wrap64 ((y.length : Int) - ((i + 1 : Nat) : Int)) = ((y.length - 1 - i : Nat) : Int) := by unfold wrap64; omega
    have gx : rdOf ByteArray.empty x ((x.length - 1 - i : Nat) : Int) = x.reverse[i] := by rw [rd_at _ _ (by omega), List.getElem_reverse]
    have gy : rdOf ByteArray.empty y ((y.length - 1 - i : Nat) : Int) = y.reverse[i] := by rw [rd_at _ _ (by omega), List.getElem_reverse]
    have hc : cmpL (x.reverse.drop i) (y.reverse.drop i) = if cmpP x.reverse[i] y.reverse[i] = 0 then cmpL (x.reverse.drop (i + 1)) (y.reverse.drop (i + 1)) else cmpP x.reverse[i] y.reverse[i] := by
     rw [List.drop_eq_getElem_cons hrx, List.drop_eq_getElem_cons hry]
     rfl
    refine Ev.step (f := fun k => if cmpP x.reverse[i] y.reverse[i] = 0 then spec_l1Compare.l0 k x y ((i + 1 + 1 : Nat) : Int) else some (cmpP x.reverse[i] y.reverse[i])) (fun k => ?_) ?_
    · rw [decide_eq_true hd]
      conv => lhs; unfold spec_l1Compare.j1
      rw [if_pos rfl, hwx, hwy, if_pos (by omega), if_pos (by omega), if_pos (by omega), if_pos (by omega), gx, gy, w64n (by omega)]
      unfold cmpP
      by_cases h1 : Op.bytesLess x.reverse[i].toList y.reverse[i].toList = true
      · rw [if_pos h1, if_pos h1]; rfl
      · rw [if_neg h1, if_neg h1]
        by_cases h2 : Op.bytesLess y.reverse[i].toList x.reverse[i].toList = true
        · rw [if_pos h2, if_pos h2]; rfl
        · rw [if_neg h2, if_neg h2]; rfl
    · rw [hc]
      by_cases h0 : cmpP x.reverse[i] y.reverse[i] = 0
      · simp only [if_pos h0]; exact ih
      · simp only [if_neg h0]; exact Ev.now _
  · refine Ev.step (f := fun _ => some _) (fun k => ?_) (Ev.now _)
    rw [decide_eq_false hd]
    conv => lhs; unfold spec_l1Compare.j1
    rw [if_neg (by simp)]
    have hcase : ∀ (p q : List ByteArray), (p = [] ∨ q = []) → cmpL p q = if p.length < q.length then -1 else if p.length > q.length then 1 else 0 := by
     intro p q hpq
     cases p <;> cases q <;> first | rfl | (simp at hpq)| (simp [cmpL])
    rw [hcase _ _ (by
     by_cases h1 : i + 1 ≤ x.length
     · right; apply List.drop_of_length_le; rw [List.length_reverse]; omega
     · left; apply List.drop_of_length_le; rw [List.length_reverse]; omega)]
    simp only [List.length_drop, List.length_reverse]
    by_cases h1 : (x.length : Int) < (y.length : Int)
    · rw [if_pos h1, if_pos (by omega)]
    · by_cases h2 : (x.length : Int) > (y.length : Int)
      · rw [if_neg h1, if_pos h2, if_neg (by omega), if_pos (by omega)]
      · rw [if_neg h1, if_neg h2, if_neg (by omega), if_neg (by omega)]
 termination_by m => m
def ordL (a b : List UInt8) : Int := cmpL ((labelsL a).map mkB).reverse ((labelsL b).map mkB).reverse
theorem labs_len (s : ByteArray) (hs : s.size ≤ 1048576) : ((labelsL s.data.toList).map mkB).length ≤ 1048577 := by
 rw [List.length_map]
 unfold labelsL
 split
 · simp
 · have := splitL_len 46 s.data.toList; rw [← size_len] at this; omega
theorem implComp_ev (a b : ByteArray) (ha : a.size ≤ 1048576) (hb : b.size ≤ 1048576) : Ev (fun k => impl_compareNames.f k a b) (ordL a.data.toList b.data.toList) := by
 have h1 := labs_len a ha
 have h2 := labs_len b hb
 refine Ev.congr (f := fun k => (slices_Reverse_string_string.f k ((labelsL a.data.toList).map mkB)).bind fun t151 => (slices_Reverse_string_string.f k ((labelsL b.data.toList).map mkB)).bind fun t152 => (slices_Compare_string_string.f k t151 t152).bind fun t153 => some t153) (fun k => ?_) ?_
 · unfold impl_compareNames.f
   rw [labelsOf_eq a (by omega), labelsOf_eq b (by omega)]
   rfl
 · refine Ev.bind (reverse_ev _ (by omega)) (Ev.bind (reverse_ev _ (by omega)) (Ev.bind (compare_ev _ _ ?_ ?_) (Ev.now _)))
   · rw [List.length_reverse]; omega
   · rw [List.length_reverse]; omega
theorem specComp_ev (a b : ByteArray) (ha : a.size ≤ 1048576) (hb : b.size ≤ 1048576) (ga : goodL a.data.toList = true) (gb : goodL b.data.toList = true) : Ev (fun k => spec_l1Compare.f k a b) (ordL a.data.toList b.data.toList) := by
 obtain ⟨r1, e1, e2, e3⟩ := labels_ev a (by omega)
 obtain ⟨r2, f1, f2, f3⟩ := labels_ev b (by omega)
 have h1 := labs_len a ha
 have h2 := labs_len b hb
 refine Ev.congr (fun k => rfl) (Ev.bind e1 (Ev.bind f1 ?_))
 rw [e3 (e2.trans ga), f3 (f2.trans gb)]
 exact speccomp_loop _ _ (by omega) (by omega) _ 0 (Nat.zero_add _) (by omega)
end Go.Proofs.YtiegkjimpclmaaaGreatDoor.Pure
namespace Go.Proofs.YtiegkjimpclmaaaGreatDoor.Pure
open Go.RowKit Go.Proofs.YtiegkjimpclmaaaGreatDoor.P Go.Proofs.YtiegkjimpclmaaaGreatDoorW.PrintWords Go.Proofs.YtiegkjimpclmaaaGreatDoorW.PrintLast Go.Proofs.YtiegkjimpclmaaaGreatDoorW.PrintMore
set_option linter.unusedVariables false
set_option linter.unusedSimpArgs false
theorem sp3 (p w q : ByteArray) : ((p ++ w) ++ q).size = p.size + w.size + q.size := by rw [ByteArray.size_append, ByteArray.size_append]
set_option maxHeartbeats 4000000 in
theorem spoilt_loop {l : List Int} (hl : Bytes l) (y : ByteArray) (hy : 0 < y.size) : ∀ (m : Nat) (at_ sd : Int) (n : Nat) (x : ByteArray), Cur at_ n → n + 6 * m < 4611686018427380000 → x.size + m ≤ 100000 → m ≤ 10 →
 ∃ s at2 sd2, Ev (fun k => spec_l1Cur_spoilt.l0 k x y (m : Int) l at_ sd) (s, at2, sd2) ∧ s.size ≤ x.size + m ∧ Cur at2 (n + 6 * m)
 | 0, at_, sd, n, x, hc, hn, hx, hm => by
  refine ⟨x, at_, sd, Ev.step (f := fun k => spec_l1Cur_spoilt.j1 k x y ((0 : Nat) : Int) false l at_ sd) (fun k => ?_) (Ev.step (f := fun _ => some (x, at_, sd)) (fun k => ?_) (Ev.now _)), by omega, by simpa using hc⟩
  · show spec_l1Cur_spoilt.l0 (k + 1) x y ((0 : Nat) : Int) l at_ sd = _
    conv => lhs; unfold spec_l1Cur_spoilt.l0
    rw [if_neg (by omega)]
  · show spec_l1Cur_spoilt.j1 (k + 1) x y ((0 : Nat) : Int) false l at_ sd = _
    conv => lhs; unfold spec_l1Cur_spoilt.j1
    rw [if_neg (by decide)]
 | m + 1, at_, sd, n, x, hc, hn, hx, hm => by
  have hw : wrap64 (((m + 1 : Nat) : Int) - 1) = (m : Int) := by unfold wrap64; omega
  have e0 : ∀ k, spec_l1Cur_spoilt.l0 (k + 1) x y ((m + 1 : Nat) : Int) l at_ sd = spec_l1Cur_spoilt.j1 k x y ((m + 1 : Nat) : Int) (decide ((x.size : Int) > 0)) l at_ sd := fun k => by
   conv => lhs; unfold spec_l1Cur_spoilt.l0
   rw [if_pos (by omega)]
  by_cases h0 : x.size = 0
  · refine ⟨x, at_, sd, Ev.step e0 (Ev.step (f := fun _ => some (x, at_, sd)) (fun k => ?_) (Ev.now _)), by omega, ⟨hc.1, by have := hc.2; omega⟩⟩
    show spec_l1Cur_spoilt.j1 (k + 1) x y ((m + 1 : Nat) : Int) (decide ((x.size : Int) > 0)) l at_ sd = _
    conv => lhs; unfold spec_l1Cur_spoilt.j1
    rw [if_neg (by rw [decide_eq_true_eq]; omega)]
  · obtain ⟨i, at2, sd2, e1, hi, hc2⟩ := pick_some hl hc (by omega) (sd := sd) (x.size : Int)
    obtain ⟨j, at3, sd3, e2, hj, hc3⟩ := pick_some hl hc2 (by omega) (sd := sd2) (y.size : Int)
    obtain ⟨q, at4, sd4, e3, hq, hc4⟩ := pick_some hl hc3 (by omega) (sd := sd3) 3
    obtain ⟨i, rfl⟩ : ∃ m : Nat, i = (m : Int) := ⟨i.toNat, by omega⟩
    have hil : i < x.size := by omega
    have s1 : (strOfNums [bt y j]).size = 1 := by rw [strOfNums_size]; rfl
    have x1 : (x.extract 0 i).size = i := by rw [ByteArray.size_extract]; omega
    have x2 : (x.extract i x.size).size = x.size - i := by rw [ByteArray.size_extract]; omega
    have x3 : (x.extract (i + 1) x.size).size = x.size - (i + 1) := by rw [ByteArray.size_extract]; omega
    have w1 : wrap64 ((i : Int) + 1) = ((i + 1 : Nat) : Int) := by unfold wrap64; omega
    have hd : decide ((x.size : Int) > 0) = true := decide_eq_true (Int.natCast_pos.2 (Nat.pos_of_ne_zero h0))
    have pw : ((x.extract 0 i) ++ (strOfNums [bt y j])).size = i + 1 := by rw [ByteArray.size_append, x1, s1]
    generalize hP : x.extract 0 i = P at *
    generalize hQ : x.extract i x.size = Q at *
    generalize hR : x.extract (i + 1) x.size = R at *
    generalize hW : strOfNums [bt y j] = W at *
    have key : ∃ z : ByteArray, z.size ≤ x.size + 1 ∧ ∀ k, spec_l1Cur_spoilt.j1 (k + 1) x y ((m + 1 : Nat) : Int) (decide ((x.size : Int) > 0)) l at_ sd = spec_l1Cur_spoilt.l0 k z y (m : Int) l at4 sd4 := by
     by_cases q0 : q = 0
     · refine ⟨(P ++ W) ++ Q, by rw [sp3]; omega, fun k => ?_⟩
       conv => lhs; unfold spec_l1Cur_spoilt.j1
       rw [if_pos hd, e1]
       simp only [Option.bind_some]
       rw [e2]
       simp only [Option.bind_some]
       rw [if_pos hj.1, if_pos (by omega), e3]
       simp only [Option.bind_some]
       rw [if_pos q0, if_pos (by omega), if_pos (by omega), hW, Int.toNat_natCast, hP, hQ, if_pos (by omega), if_pos (by omega), hw]
     · by_cases q1 : q = 1
       · refine ⟨(P ++ W) ++ R, by rw [sp3]; omega, fun k => ?_⟩
         conv => lhs; unfold spec_l1Cur_spoilt.j1
         rw [if_pos hd, e1]
         simp only [Option.bind_some]
         rw [e2]
         simp only [Option.bind_some]
         rw [if_pos hj.1, if_pos (by omega), e3]
         simp only [Option.bind_some]
         rw [if_neg q0, if_pos q1, if_pos (by omega), if_pos (by omega), hW, Int.toNat_natCast, hP, if_pos (by omega), w1, if_pos (by omega), if_pos (by omega), Int.toNat_natCast, hR, if_pos (by omega), hw]
       · refine ⟨P ++ R, by rw [ByteArray.size_append]; omega, fun k => ?_⟩
         conv => lhs; unfold spec_l1Cur_spoilt.j1
         rw [if_pos hd, e1]
         simp only [Option.bind_some]
         rw [e2]
         simp only [Option.bind_some]
         rw [if_pos hj.1, if_pos (by omega), e3]
         simp only [Option.bind_some]
         rw [if_neg q0, if_neg q1, if_pos (by omega), if_pos (by omega), Int.toNat_natCast, hP, w1, if_pos (by omega), if_pos (by omega), Int.toNat_natCast, hR, if_pos (by omega), hw]
    obtain ⟨z, hz, hk⟩ := key
    obtain ⟨s, at5, sd5, e5, hs, hc5⟩ := spoilt_loop hl y hy m at4 sd4 _ z hc4 (by omega) (by omega) (by omega)
    refine ⟨s, at5, sd5, Ev.step e0 (Ev.step hk e5), by omega, ?_⟩
    rw [show n + 6 * (m + 1) = n + 2 + 2 + 2 + 6 * m by omega]
    exact hc5
theorem spoilt_some {l : List Int} (hl : Bytes l) {at_ sd : Int} {n : Nat} (hc : Cur at_ n) (hn : n < 4611686018427370000) (x y : ByteArray) (hy : 0 < y.size) (hx : x.size ≤ 90000) :
 ∃ s at2 sd2, Ev (fun k => spec_l1Cur_spoilt.f k l at_ sd x y) (s, at2, sd2) ∧ s.size ≤ x.size + 2 ∧ Cur at2 (n + 20) := by
 obtain ⟨i, at2, sd2, e1, hi, hc2⟩ := pick_some hl hc (by omega) (sd := sd) 3
 obtain ⟨i, rfl⟩ : ∃ m : Nat, i = (m : Int) := ⟨i.toNat, by omega⟩
 obtain ⟨s, at3, sd3, e3, hs, hc3⟩ := spoilt_loop hl y hy i at2 sd2 _ x hc2 (by omega) (by omega) (by omega)
 refine ⟨s, at3, sd3, Ev.congr (fun k => ?_) e3, by omega, ⟨hc3.1, by have := hc3.2; omega⟩⟩
 unfold spec_l1Cur_spoilt.f
 rw [e1]
 rfl
end Go.Proofs.YtiegkjimpclmaaaGreatDoor.Pure
