/- FnRecords: part 26 of 29 of my texts for this claim, joined; the theorem stands in the last. Conditions: none beyond the statement's. -/
import Derived.Test.YtiegkjimpclmaaaGreatDoorMFnRecordsx23
import Derived.Test.YtiegkjimpclmaaaGreatDoorMFnRecordsx19
namespace Go.Proofs.YtiegkjimpclmaaaGreatDoor.P
open Go.RowKit Go.Proofs.YtiegkjimpclmaaaGreatDoorW.PrintWords Go.Proofs.YtiegkjimpclmaaaGreatDoorW.PrintLast Go.Proofs.YtiegkjimpclmaaaGreatDoorW.PrintMore
attribute [local go_sem] max2_int min2_int max_two min_two max_three min_three max_four min_four
set_option linter.unusedVariables false
set_option linter.unusedSimpArgs false
attribute [local go_sem high] eqA45
mutual
def laws_FnRecords.j0 : Nat → List Int → ByteArray → Bool → Bool → ByteArray → Int → Int → ByteArray → Option (Bool)
 | 0, _, _, _, _, _, _, _, _ => none
 | k + 1, x1, x6, x7, x67, x808000, x808001, x808002, x808003 => if x67 = true then (some false) else (if x7 = true then ((impl_ReadRecord.f k x6).bind fun bt813 => ((impl_DataBytes.f k x808001 x808003).bind fun bt819 => ((impl_ReadData.f k x808001 bt819.1).bind fun bt821 => ((impl_TargetOf.f k x808000 x808001 x808002 x808003).bind fun bt823 => ((spec_TargetOf.f k x808000 x808001 x808002 x808003).bind fun bt825 => (if bt813.2.2.2.2 = true then (if (!(bt813.1.toList == x808000.toList) || (!(bt813.2.1 == x808001) || (!(bt813.2.2.1 == x808002) || (!(bt813.2.2.2.1.toList == x808003.toList))))) = true then (laws_FnRecords.j1 k x1 true) else (if bt819.2 = true then (if bt821.2 = true then (if bt821.1.toList = x808003.toList then (if (bt823.2 != bt825.2) = true then (laws_FnRecords.j1 k x1 true) else (laws_FnRecords.j1 k x1 (bt823.1.toList != bt825.1.toList))) else (laws_FnRecords.j1 k x1 true)) else (laws_FnRecords.j1 k x1 true)) else (laws_FnRecords.j1 k x1 true))) else (laws_FnRecords.j1 k x1 true))))))) else (laws_FnRecords.j2 k x1))
def laws_FnRecords.j2 : Nat → List Int → Option (Bool)
 | 0, _ => none
 | k + 1, x1 => (spec_DrawReadData.f k x1).bind fun bt827 => ((impl_ReadData.f k bt827.1 bt827.2).bind fun bt829 => ((spec_ReadData.f k bt827.1 bt827.2).bind fun bt831 => (if (bt829.2 != bt831.2) = true then (laws_FnRecords.j3 k x1 bt827.1 bt827.2 bt829.1 bt829.2 true) else (laws_FnRecords.j3 k x1 bt827.1 bt827.2 bt829.1 bt829.2 (bt829.1.toList != bt831.1.toList)))))
def laws_FnRecords.j3 : Nat → List Int → Int → ByteArray → ByteArray → Bool → Bool → Option (Bool)
 | 0, _, _, _, _, _, _ => none
 | k + 1, x1, x20, x21, x22, x23, x154 => if x154 = true then (some false) else (if x23 = true then ((impl_DataBytes.f k x20 x22).bind fun bt833 => (if bt833.2 = true then (if bt833.1.toList = x21.toList then (laws_FnRecords.j4 k x1) else (some false)) else (some false))) else (laws_FnRecords.j4 k x1))
def laws_FnRecords.j4 : Nat → List Int → Option (Bool)
 | 0, _ => none
 | k + 1, x1 => (spec_DrawCompareRecords.f k x1).bind fun bt835 => ((impl_CompareRecords.f k bt835.1 bt835.2.1 bt835.2.2.1 bt835.2.2.2.1 bt835.2.2.2.2.1 bt835.2.2.2.2.2.1 bt835.2.2.2.2.2.2.1 bt835.2.2.2.2.2.2.2).bind fun bt845 => ((spec_CompareRecords.f k bt835.1 bt835.2.1 bt835.2.2.1 bt835.2.2.2.1 bt835.2.2.2.2.1 bt835.2.2.2.2.2.1 bt835.2.2.2.2.2.2.1 bt835.2.2.2.2.2.2.2).bind fun bt847 => ((impl_CompareRecords.f k bt835.2.2.2.2.1 bt835.2.2.2.2.2.1 bt835.2.2.2.2.2.2.1 bt835.2.2.2.2.2.2.2 bt835.1 bt835.2.1 bt835.2.2.1 bt835.2.2.2.1).bind fun bt849 => (if (bt845.2 == bt847.2) = true then (if bt845.1 = bt847.1 then (if (bt849.2 == bt845.2) = true then (if bt849.1 = (wrap64 (-bt845.1)) then (if bt845.2 = true then (laws_FnRecords.j5 k ((bt845.1 == 0) == (bt835.1.toList == bt835.2.2.2.2.1.toList && (bt835.2.1 == bt835.2.2.2.2.2.1 && (bt835.2.2.1 == bt835.2.2.2.2.2.2.1 && (bt835.2.2.2.1.toList == bt835.2.2.2.2.2.2.2.toList)))))) else (laws_FnRecords.j5 k true)) else (laws_FnRecords.j5 k false)) else (laws_FnRecords.j5 k false)) else (laws_FnRecords.j5 k false)) else (laws_FnRecords.j5 k false)))))
def laws_FnRecords.j5 : Nat → Bool → Option (Bool)
 | 0, _ => none
 | k + 1, x4 => some x4
def laws_FnRecords.j1 : Nat → List Int → Bool → Option (Bool)
 | 0, _, _ => none
 | k + 1, x1, x129 => if x129 = true then (some false) else (laws_FnRecords.j2 k x1)
end
def laws_FnRecords.f (k : Nat) (l0 : List Int) (l1 : List Int) : Option (Bool) := if (wrap64 ((l0.length : Int) + (l1.length : Int))) > 1048576 then (some true) else ((spec_DrawRecordText.f k l0).bind fun bt803 => ((impl_RecordText.f k bt803.1 bt803.2.1 bt803.2.2.1 bt803.2.2.2).bind fun bt808 => ((spec_RecordText.f k bt803.1 bt803.2.1 bt803.2.2.1 bt803.2.2.2).bind fun bt810 => (if (bt808.2 != bt810.2) = true then (laws_FnRecords.j0 k l1 bt808.1 bt808.2 true bt803.1 bt803.2.1 bt803.2.2.1 bt803.2.2.2) else (if bt808.1.toList = bt810.1.toList then ((impl_GoodRecord.f k bt803.1 bt803.2.1 bt803.2.2.1 bt803.2.2.2).bind fun t812 => (laws_FnRecords.j0 k l1 bt808.1 bt808.2 (t812 != bt810.2) bt803.1 bt803.2.1 bt803.2.2.1 bt803.2.2.2)) else (laws_FnRecords.j0 k l1 bt808.1 bt808.2 true bt803.1 bt803.2.1 bt803.2.2.1 bt803.2.2.2))))))
set_option maxHeartbeats 8000000 in
set_option maxRecDepth 100000 in
theorem laws_FnRecords.calls (k : Nat) (A0 : Option Addr) (c0 : Nat) (l0 : List Int) (A1 : Option Addr) (c1 : Nat) (l1 : List Int) (r : Bool) (w : World) (hr0 : Kd.C (Kd.int .u8) w A0 l0.length l0) (hc0 : l0.length ≤ c0) (hr1 : Kd.C (Kd.int .u8) w A1 l1.length l1) (hc1 : l1.length ≤ c1) (h : laws_FnRecords.f k l0 l1 = some r) (hv_ : Vars w := by exact vv_) :
 Calls Tryz.prog 6 #[.slice A0 l0.length c0, .slice A1 l1.length c1] w fun e w' => e = .returned (.bool r) ∧ Below w.heap.size w w' := by
 have HV_ := a0_ hv_
 clear hv_
 have hu45 := Tryz.underlying45
 have HR0 := a0_ hr0
 have HC0 := a0_ hc0
 clear hr0 hc0
 have HR1 := a0_ hr1
 have HC1 := a0_ hc1
 clear hr1 hc1
 have HB := a0_ (Below.refl w.heap.size w)
 have H := h
 clear h
 unfold laws_FnRecords.f at H
 by_cases c3 : (wrap64 ((l0.length : Int) + (l1.length : Int))) > 1048576
 case pos =>
  rw [if_pos c3] at H
  have c3b0 := decide_eq_true c3
  clear c3
  obtain rfl := Option.some.inj H
  go_enter Tryz.func6, Tryz.ntmps6
  as_aux_lemma =>
   go_wp2
   go_ret
   exact ⟨rr_, bq0_⟩
 rw [if_neg c3] at H
 have c3b0 := decide_eq_false c3
 clear c3
 obtain ⟨⟨t803, t804, t805, t806⟩, A40, H⟩ := Option.bind_eq_some_iff.mp H
 have A4 := a0_ A40
 clear A40
 obtain ⟨⟨t808, t809⟩, A50, H⟩ := Option.bind_eq_some_iff.mp H
 have A5 := a0_ A50
 clear A50
 obtain ⟨⟨t810, t811⟩, A60, H⟩ := Option.bind_eq_some_iff.mp H
 have A6 := a0_ A60
 clear A60
 have HC7 := a0_ H
 clear H
 go_enter Tryz.func6, Tryz.ntmps6
 go_upto_region 6 with (first | ((with_reducible refine gate_callee (f := 26) rfl ?_); refine goesL_ (some 43) rfl rfl Tryz.func26 (by kernel_rfl) rfl #[.slice A0 l0.length c0] rfl argsS_ ?_; (with_reducible refine (spec_DrawRecordText.calls k _ _ l0 t803 t804 t805 t806 _ ?side1 ?side2 A4.out).mono ?_); (case side1 => repeat (first | exact HR0.out | (with_reducible refine Kd.C_alloc ?_ _) | (with_reducible refine Kd.C_drewN ?_ _) | (with_reducible refine Kd.C_drew ?_))); (case side2 => exact HC0.out); rintro e w8 ⟨rfl, hb⟩; refine ⟨_, rfl, ?_⟩; replace HB := a0_ (below_step bq0_ hb); clear hb) | ((with_reducible refine gate_dst (N := 5) rfl ?_); refine boxS_ 5 #[.string (⟨#[]⟩ : ByteArray), .int .i64 0, .int .i64 0, .string (⟨#[]⟩ : ByteArray)] 45 (fun gb807 hg w9 hbox hb => ?_); have n0_ := a0_ (below_step bq0_ hb); have n1_ := a0_ (hbox); have n2_ := a0_ (gw_ hg : w.heap.size ≤ gb807); have n3_ := n2_; clear HB; have HB := n0_; have BK807 := n1_; have GW807 := n2_; have GE807 := n3_; clear n0_ n1_ n2_ n3_; clear hb hbox hg; obtain ⟨z10_0, z10_1, z10_2, z10_3, q10_0, q10_1, q10_2, q10_3⟩ := bk4_ BK807.out) | ((with_reducible refine gate_callee (f := 27) rfl ?_); refine goesL_ (some 46) rfl rfl Tryz.func27 (by kernel_rfl) rfl #[.agg #[.string t803, .int .i64 t804, .int .i64 t805, .string t806]] rfl argsS_ ?_; (with_reducible refine (impl_RecordText.calls k t803 t804 t805 t806 t808 t809 _ A5.out).mono ?_); rintro e w11 ⟨rfl, hb⟩; refine ⟨_, rfl, ?_⟩; replace BK807 := a0_ (blk_below (g := gb807) (o := .cells #[.string t803, .int .i64 t804, .int .i64 t805, .string t806] 45 (0, 0)) (put4_ BK807.out) hb); replace HB := a0_ (below_step bq1_ hb); clear hb; obtain ⟨z12_0, z12_1, z12_2, z12_3, q12_0, q12_1, q12_2, q12_3⟩ := bk4_ BK807.out) | ((with_reducible refine gate_callee (f := 28) rfl ?_); refine goesL_ (some 51) rfl rfl Tryz.func28 (by kernel_rfl) rfl #[.agg #[.string t803, .int .i64 t804, .int .i64 t805, .string t806]] rfl argsS_ ?_; (with_reducible refine (spec_RecordText.calls k t803 t804 t805 t806 t810 t811 _ A6.out).mono ?_); rintro e w13 ⟨rfl, hb⟩; refine ⟨_, rfl, ?_⟩; replace BK807 := a0_ (bkB_ BK807 hb); replace HB := a0_ (below_step bq1_ hb); clear hb))
 (try simp only [Act.put, List.setIfInBounds_toArray, List.set_cons_zero, List.set_cons_succ])
 go_cut [67] (fun v67 wc => ∃ (kq : Nat) (x67_6 : Bool), v67 = .bool x67_6 ∧ Aside0 (laws_FnRecords.j0 kq l1 t808 t809 x67_6 t803 t804 t805 t806 = some r) ∧ Aside0 (kq ≤ k) ∧ Aside0 (wc.heap[gb807]? = some (.cells #[.string t803, .int .i64 t804, .int .i64 t805, .string t806] 45 (0, 0))) ∧ Aside0 (Below w.heap.size w wc))
 case first =>
  have H := HC7.out
  clear HC7
  by_cases c14 : (t809 != t811) = true
  case pos =>
   rw [if_pos c14] at H
   have c14b0 : (t809 != t811) = true := c14
   (try (have c14b1 : decide (t809 = t811) = false := by simpa using c14))
   (try (have c14b2 : (t809 == t811) = false := by simpa using c14))
   (try (have c14b3 : ¬ (t809 = t811) := by simpa using c14))
   clear c14
   (first | rw [c14b0] | (simp only [i64_w, i32_w]; rw [c14b0]) | skip)
   have H' := a0_ H
   clear H
   as_aux_lemma =>
    go_wp2
    go_meet
    case rel => exact ⟨_, (true), rs_, H', ⟨by first | omega | exact Nat.le_refl _⟩, ⟨bz_⟩, ⟨bq1_⟩⟩
  rw [if_neg c14] at H
  have c14b0 : (t809 != t811) = false := by simpa using c14
  (try (have c14b1 : decide (t809 = t811) = true := by simpa using c14))
  (try (have c14b2 : (t809 == t811) = true := by simpa using c14))
  clear c14
  (first | rw [c14b0] | (simp only [i64_w, i32_w]; rw [c14b0]) | skip)
  by_cases c15 : t808.toList = t810.toList
  case neg =>
   rw [if_neg c15] at H
   have c15b0 := beq_eq_false_iff_ne.mpr c15
   have c15b1 := bne_iff_ne.mpr c15
   have H' := a0_ H
   clear H
   as_aux_lemma =>
    go_wp2
    go_meet
    case rel => exact ⟨_, (true), rs_, H', ⟨by first | omega | exact Nat.le_refl _⟩, ⟨bz_⟩, ⟨bq1_⟩⟩
  rw [if_pos c15] at H
  have c15b0 := beq_iff_eq.mpr c15
  have c15b1 := bne_eq_false_iff_eq.mpr c15
  clear c15
  obtain ⟨t812, A160, H⟩ := Option.bind_eq_some_iff.mp H
  have A16 := a0_ A160
  clear A160
  have H' := a0_ H
  clear H
  obtain ⟨z17_0, z17_1, z17_2, z17_3, q17_0, q17_1, q17_2, q17_3⟩ := bk4_ BK807.out
  as_aux_lemma =>
   go_wp2_with (first | (go_at_call 29; (with_reducible refine (impl_GoodRecord.calls k t803 t804 t805 t806 t812 _ A16.out).mono ?_); rintro e w18 ⟨rfl, hb⟩; replace BK807 := a0_ (bkB_ BK807 hb); replace HB := a0_ (below_step bq1_ hb); clear hb))
   go_meet
   case rel => exact ⟨_, ((t812 != t811)), rs_, H', ⟨by first | omega | exact Nat.le_refl _⟩, ⟨bz_⟩, ⟨bq1_⟩⟩
 case rest =>
  clear HC7
  try clear c1
  try clear c3
  try clear c3b0
  try clear z10_0 z10_1 z10_2 z10_3
  try clear z12_0 z12_1 z12_2 z12_3
  try clear q10_0 q10_1 q10_2 q10_3
  try clear q12_0 q12_1 q12_2 q12_3
  obtain ⟨kq, x67_6, rfl, HA, HJ6, BK807, HB⟩ := hcut
  cases kq with
  | zero => exact absurd HA.out (by simp [laws_FnRecords.j0])
  | succ kj6 =>
   have H := HA.out
   clear HA
   simp only [laws_FnRecords.j0] at H
   by_cases c19 : x67_6 = true
   case pos =>
    subst c19
    rw [if_pos rfl] at H
    obtain rfl := Option.some.inj H
    as_aux_lemma =>
     go_wp2
     go_ret
     exact ⟨rr_, bq1_⟩
   replace c19 := Bool.eq_false_iff.mpr c19
   subst c19
   rw [if_neg (show ¬ (false = true) by decide)] at H
   have HC20 := a0_ H
   clear H
   go_upto_if 68 with (fail)
   go_cut [] (fun wc => ∃ (kq : Nat), Aside0 (laws_FnRecords.j2 kq l1 = some r) ∧ Aside0 (kq ≤ kj6) ∧ Aside0 (wc.heap[gb807]? = some (.cells #[.string t803, .int .i64 t804, .int .i64 t805, .string t806] 45 (0, 0))) ∧ Aside0 (Below w.heap.size w wc))
   case first =>
    have H := HC20.out
    clear HC20
    by_cases c21 : t809 = true
    case neg =>
     replace c21 := Bool.eq_false_iff.mpr c21
     subst c21
     rw [if_neg (show ¬ (false = true) by decide)] at H
     have H' := a0_ H
     clear H
     as_aux_lemma =>
      go_wp2
      go_meet
      case rel => exact ⟨_, H', ⟨by have := HJ6.out; first | omega | exact Nat.le_refl _⟩, ⟨bz_⟩, ⟨bq1_⟩⟩
    subst c21
    rw [if_pos rfl] at H
    obtain ⟨⟨t813, t814, t815, t816, t817⟩, A220, H⟩ := Option.bind_eq_some_iff.mp H
    have A22 := a0_ A220
    clear A220
    obtain ⟨⟨t819, t820⟩, A230, H⟩ := Option.bind_eq_some_iff.mp H
    have A23 := a0_ A230
    clear A230
    obtain ⟨⟨t821, t822⟩, A240, H⟩ := Option.bind_eq_some_iff.mp H
    have A24 := a0_ A240
    clear A240
    obtain ⟨⟨t823, t824⟩, A250, H⟩ := Option.bind_eq_some_iff.mp H
    have A25 := a0_ A250
    clear A250
    obtain ⟨⟨t825, t826⟩, A260, H⟩ := Option.bind_eq_some_iff.mp H
    have A26 := a0_ A260
    clear A260
    have HC27 := a0_ H
    clear H
    go_upto_region 14 with (first | ((with_reducible refine gate_callee (f := 30) rfl ?_); refine goesL_ (some 71) rfl rfl Tryz.func30 (by kernel_rfl) rfl #[.string t808] rfl argsS_ ?_; (with_reducible refine (impl_ReadRecord.calls kj6 t808 t813 t814 t815 t816 t817 _ A22.out).mono ?_); rintro e w28 ⟨rfl, hb⟩; refine ⟨_, rfl, ?_⟩; replace BK807 := a0_ (bkB_ BK807 hb); replace HB := a0_ (below_step bq1_ hb); clear hb) | ((with_reducible refine gate_dst (N := 10) rfl ?_); refine boxS_ 10 #[.string (⟨#[]⟩ : ByteArray), .int .i64 0, .int .i64 0, .string (⟨#[]⟩ : ByteArray)] 45 (fun gb818 hg w29 hbox hb => ?_); have n0_ := a0_ (bkB_ BK807 hb); have n1_ := a0_ (below_step bq1_ hb); have n2_ := a0_ (hbox); have n3_ := a0_ (gw_ hg (below_size bq1_) : w.heap.size ≤ gb818); have n4_ := n3_; have n5_ := a0_ ((by rw [hg]; exact Nat.ne_of_lt (blk_lt (g := gb807) (o := .cells #[.string t803, .int .i64 t804, .int .i64 t805, .string t806] 45 (0, 0)) (kB_ BK807.out)) : gb807 ≠ gb818)); have n6_ := a0_ ((by rw [hg]; exact Nat.ne_of_gt (blk_lt (g := gb807) (o := .cells #[.string t803, .int .i64 t804, .int .i64 t805, .string t806] 45 (0, 0)) (kB_ BK807.out)) : gb818 ≠ gb807)); clear BK807; clear HB; have BK807 := n0_; have HB := n1_; have BK818 := n2_; have GW818 := n3_; have GE818 := n4_; have NB807_818 := n5_; have NB818_807 := n6_; clear n0_ n1_ n2_ n3_ n4_ n5_ n6_; clear hb hbox hg; have hnb30 := NB818_807.out; have hnc30 := NB807_818.out; obtain ⟨z31_0, z31_1, z31_2, z31_3, q31_0, q31_1, q31_2, q31_3⟩ := bk4_ BK818.out; obtain ⟨z32_0, z32_1, z32_2, z32_3, q32_0, q32_1, q32_2, q32_3⟩ := bk4_ BK807.out) | ((with_reducible refine gate_callee (f := 31) rfl ?_); refine goesL_ (some 79) rfl rfl Tryz.func31 (by kernel_rfl) rfl #[.int .i64 t804, .string t806] rfl argsS_ ?_; (with_reducible refine (impl_DataBytes.calls kj6 t804 t806 t819 t820 _ A23.out (hv := by refine Vars.below (Aside0.out (by assumption)) ?_; repeat (first | (with_reducible first | exact Below.refl _ _ | exact Aside0.out (by assumption) | apply below_alloc | apply pw_below_drewN | apply below_drew1 | refine below_set ?_ (Aside0.out (by assumption))) | exact Aside0.out (by assumption)))).mono ?_); rintro e w33 ⟨rfl, hb⟩; refine ⟨_, rfl, ?_⟩; replace BK807 := a0_ (blk_below (g := gb807) (o := .cells #[.string t803, .int .i64 t804, .int .i64 t805, .string t806] 45 (0, 0)) (bfar4_ NB807_818.out BK807.out) hb); replace BK818 := a0_ (blk_below (g := gb818) (o := .cells #[.string t813, .int .i64 t814, .int .i64 t815, .string t816] 45 (0, 0)) (put4_ BK818.out) hb); replace HB := a0_ (below_step bq1_ hb); clear hb; obtain ⟨z34_0, z34_1, z34_2, z34_3, q34_0, q34_1, q34_2, q34_3⟩ := bk4_ BK807.out) | ((with_reducible refine gate_callee (f := 11) rfl ?_); refine goesL_ (some 86) rfl rfl Tryz.func11 (by kernel_rfl) rfl #[.int .i64 t804, .string t819] rfl argsS_ ?_; (with_reducible refine (impl_ReadData.calls kj6 t804 t819 t821 t822 _ A24.out (hv := by refine Vars.below (Aside0.out (by assumption)) ?_; repeat (first | (with_reducible first | exact Below.refl _ _ | exact Aside0.out (by assumption) | apply below_alloc | apply pw_below_drewN | apply below_drew1 | refine below_set ?_ (Aside0.out (by assumption))) | exact Aside0.out (by assumption)))).mono ?_); rintro e w35 ⟨rfl, hb⟩; refine ⟨_, rfl, ?_⟩; replace BK807 := a0_ (bkB_ BK807 hb); replace BK818 := a0_ (bkB_ BK818 hb); replace HB := a0_ (below_step bq1_ hb); clear hb; obtain ⟨z36_0, z36_1, z36_2, z36_3, q36_0, q36_1, q36_2, q36_3⟩ := bk4_ BK807.out) | ((with_reducible refine gate_callee (f := 32) rfl ?_); refine goesL_ (some 91) rfl rfl Tryz.func32 (by kernel_rfl) rfl #[.agg #[.string t803, .int .i64 t804, .int .i64 t805, .string t806]] rfl argsS_ ?_; (with_reducible refine (impl_TargetOf.calls kj6 t803 t804 t805 t806 t823 t824 _ A25.out).mono ?_); rintro e w37 ⟨rfl, hb⟩; refine ⟨_, rfl, ?_⟩; replace BK807 := a0_ (bkB_ BK807 hb); replace BK818 := a0_ (bkB_ BK818 hb); replace HB := a0_ (below_step bq1_ hb); clear hb; obtain ⟨z38_0, z38_1, z38_2, z38_3, q38_0, q38_1, q38_2, q38_3⟩ := bk4_ BK807.out) | ((with_reducible refine gate_callee (f := 33) rfl ?_); refine goesL_ (some 96) rfl rfl Tryz.func33 (by kernel_rfl) rfl #[.agg #[.string t803, .int .i64 t804, .int .i64 t805, .string t806]] rfl argsS_ ?_; (with_reducible refine (spec_TargetOf.calls kj6 t803 t804 t805 t806 t825 t826 _ A26.out).mono ?_); rintro e w39 ⟨rfl, hb⟩; refine ⟨_, rfl, ?_⟩; replace BK807 := a0_ (bkB_ BK807 hb); replace BK818 := a0_ (bkB_ BK818 hb); replace HB := a0_ (below_step bq1_ hb); clear hb))
    (try simp only [Act.put, List.setIfInBounds_toArray, List.set_cons_zero, List.set_cons_succ])
    go_cut [129] (fun v129 wc => ∃ (kq : Nat) (x129_26 : Bool), v129 = .bool x129_26 ∧ Aside0 (laws_FnRecords.j1 kq l1 x129_26 = some r) ∧ Aside0 (kq ≤ kj6) ∧ Aside0 (wc.heap[gb807]? = some (.cells #[.string t803, .int .i64 t804, .int .i64 t805, .string t806] 45 (0, 0))) ∧ Aside0 (wc.heap[gb818]? = some (.cells #[.string t813, .int .i64 t814, .int .i64 t815, .string t816] 45 (0, 0))) ∧ Aside0 (Below w.heap.size w wc))
    case first =>
     have H := HC27.out
     clear HC27
     by_cases c40 : t817 = true
     case neg =>
      replace c40 := Bool.eq_false_iff.mpr c40
      subst c40
      rw [if_neg (show ¬ (false = true) by decide)] at H
      have H' := a0_ H
      clear H
      as_aux_lemma =>
       go_wp2
       go_meet
       case rel => exact ⟨_, (true), rs_, H', ⟨by have := HJ6.out; first | omega | exact Nat.le_refl _⟩, ⟨bz_⟩, ⟨bz_⟩, ⟨bq1_⟩⟩
     subst c40
     rw [if_pos rfl] at H
     by_cases c41 : (!(t813.toList == t803.toList) || (!(t814 == t804) || (!(t815 == t805) || (!(t816.toList == t806.toList))))) = true
     case pos =>
      rw [if_pos c41] at H
      have c41b0 : (!(t813.toList == t803.toList) || (!(t814 == t804) || (!(t815 == t805) || (!(t816.toList == t806.toList))))) = true := c41
      clear c41
      (first | rw [c41b0] | (simp only [i64_w, i32_w]; rw [c41b0]) | skip)
      have H' := a0_ H
      clear H
      have hnb42 := NB818_807.out
      have hnc42 := NB807_818.out
      obtain ⟨z43_0, z43_1, z43_2, z43_3, q43_0, q43_1, q43_2, q43_3⟩ := bk4_ BK818.out
      obtain ⟨z44_0, z44_1, z44_2, z44_3, q44_0, q44_1, q44_2, q44_3⟩ := bk4_ BK807.out
      as_aux_lemma =>
       go_wp2
       go_meet
       case rel => exact ⟨_, (true), rs_, H', ⟨by have := HJ6.out; first | omega | exact Nat.le_refl _⟩, ⟨bz_⟩, ⟨bz_⟩, ⟨bq1_⟩⟩
     rw [if_neg c41] at H
     have c41b0 : (!(t813.toList == t803.toList) || (!(t814 == t804) || (!(t815 == t805) || (!(t816.toList == t806.toList))))) = false := by simpa using c41
     clear c41
     (first | rw [c41b0] | (simp only [i64_w, i32_w]; rw [c41b0]) | skip)
     by_cases c45 : t820 = true
     case neg =>
      replace c45 := Bool.eq_false_iff.mpr c45
      subst c45
      rw [if_neg (show ¬ (false = true) by decide)] at H
      have H' := a0_ H
      clear H
      have hnb61 := NB818_807.out
      have hnc61 := NB807_818.out
      obtain ⟨z62_0, z62_1, z62_2, z62_3, q62_0, q62_1, q62_2, q62_3⟩ := bk4_ BK818.out
      obtain ⟨z63_0, z63_1, z63_2, z63_3, q63_0, q63_1, q63_2, q63_3⟩ := bk4_ BK807.out
      as_aux_lemma =>
       go_wp2
       go_meet
       case rel => exact ⟨_, (true), rs_, H', ⟨by have := HJ6.out; first | omega | exact Nat.le_refl _⟩, ⟨bz_⟩, ⟨bz_⟩, ⟨bq1_⟩⟩
     subst c45
     rw [if_pos rfl] at H
     by_cases c46 : t822 = true
     case neg =>
      replace c46 := Bool.eq_false_iff.mpr c46
      subst c46
      rw [if_neg (show ¬ (false = true) by decide)] at H
      have H' := a0_ H
      clear H
      have hnb58 := NB818_807.out
      have hnc58 := NB807_818.out
      obtain ⟨z59_0, z59_1, z59_2, z59_3, q59_0, q59_1, q59_2, q59_3⟩ := bk4_ BK818.out
      obtain ⟨z60_0, z60_1, z60_2, z60_3, q60_0, q60_1, q60_2, q60_3⟩ := bk4_ BK807.out
      as_aux_lemma =>
       go_wp2
       go_meet
       case rel => exact ⟨_, (true), rs_, H', ⟨by have := HJ6.out; first | omega | exact Nat.le_refl _⟩, ⟨bz_⟩, ⟨bz_⟩, ⟨bq1_⟩⟩
     subst c46
     rw [if_pos rfl] at H
     by_cases c47 : t821.toList = t806.toList
     case neg =>
      rw [if_neg c47] at H
      have c47b0 := beq_eq_false_iff_ne.mpr c47
      have c47b1 := bne_iff_ne.mpr c47
      have H' := a0_ H
      clear H
      have hnb55 := NB818_807.out
      have hnc55 := NB807_818.out
      obtain ⟨z56_0, z56_1, z56_2, z56_3, q56_0, q56_1, q56_2, q56_3⟩ := bk4_ BK818.out
      obtain ⟨z57_0, z57_1, z57_2, z57_3, q57_0, q57_1, q57_2, q57_3⟩ := bk4_ BK807.out
      as_aux_lemma =>
       go_wp2
       go_meet
       case rel => exact ⟨_, (true), rs_, H', ⟨by have := HJ6.out; first | omega | exact Nat.le_refl _⟩, ⟨bz_⟩, ⟨bz_⟩, ⟨bq1_⟩⟩
     rw [if_pos c47] at H
     have c47b0 := beq_iff_eq.mpr c47
     have c47b1 := bne_eq_false_iff_eq.mpr c47
     clear c47
     by_cases c48 : (t824 != t826) = true
     case neg =>
      rw [if_neg c48] at H
      have c48b0 : (t824 != t826) = false := by simpa using c48
      (try (have c48b1 : decide (t824 = t826) = true := by simpa using c48))
      (try (have c48b2 : (t824 == t826) = true := by simpa using c48))
      clear c48
      have H' := a0_ H
      clear H
      have hnb52 := NB818_807.out
      have hnc52 := NB807_818.out
      obtain ⟨z53_0, z53_1, z53_2, z53_3, q53_0, q53_1, q53_2, q53_3⟩ := bk4_ BK818.out
      obtain ⟨z54_0, z54_1, z54_2, z54_3, q54_0, q54_1, q54_2, q54_3⟩ := bk4_ BK807.out
      as_aux_lemma =>
       go_wp2
       go_meet
       case rel => exact ⟨_, ((t823.toList != t825.toList)), rs_, H', ⟨by have := HJ6.out; first | omega | exact Nat.le_refl _⟩, ⟨bz_⟩, ⟨bz_⟩, ⟨bq1_⟩⟩
     rw [if_pos c48] at H
     have c48b0 : (t824 != t826) = true := c48
     (try (have c48b1 : decide (t824 = t826) = false := by simpa using c48))
     (try (have c48b2 : (t824 == t826) = false := by simpa using c48))
     (try (have c48b3 : ¬ (t824 = t826) := by simpa using c48))
     clear c48
     have H' := a0_ H
     clear H
     have hnb49 := NB818_807.out
     have hnc49 := NB807_818.out
     obtain ⟨z50_0, z50_1, z50_2, z50_3, q50_0, q50_1, q50_2, q50_3⟩ := bk4_ BK818.out
     obtain ⟨z51_0, z51_1, z51_2, z51_3, q51_0, q51_1, q51_2, q51_3⟩ := bk4_ BK807.out
     as_aux_lemma =>
      go_wp2
      go_meet
      case rel => exact ⟨_, (true), rs_, H', ⟨by have := HJ6.out; first | omega | exact Nat.le_refl _⟩, ⟨bz_⟩, ⟨bz_⟩, ⟨bq1_⟩⟩
    case rest =>
     clear HC27
     try clear c1
     try clear c2
     try clear p2
     try clear c3
     try clear c3b0
     try clear c6
     try clear p6
     try clear c14
     try clear c14b0
     try clear c14b1
     try clear c14b2
     try clear c15
     try clear c15b0
     try clear c15b1
     try clear c19
     try clear c21
     try clear z10_0 z10_1 z10_2 z10_3
     try clear z12_0 z12_1 z12_2 z12_3
     try clear z17_0 z17_1 z17_2 z17_3
     try clear z31_0 z31_1 z31_2 z31_3
     try clear z32_0 z32_1 z32_2 z32_3
     try clear z34_0 z34_1 z34_2 z34_3
     try clear z36_0 z36_1 z36_2 z36_3
     try clear z38_0 z38_1 z38_2 z38_3
     try clear q10_0 q10_1 q10_2 q10_3
     try clear q12_0 q12_1 q12_2 q12_3
     try clear q17_0 q17_1 q17_2 q17_3
     try clear q31_0 q31_1 q31_2 q31_3
     try clear q32_0 q32_1 q32_2 q32_3
     try clear q34_0 q34_1 q34_2 q34_3
     try clear q36_0 q36_1 q36_2 q36_3
     try clear q38_0 q38_1 q38_2 q38_3
     try clear p2
     try clear p6
     obtain ⟨kq, x129_26, rfl, HA, HJ26, BK807, BK818, HB⟩ := hcut
     cases kq with
     | zero => exact absurd HA.out (by simp [laws_FnRecords.j1])
     | succ kj26 =>
      have H := HA.out
      clear HA
      simp only [laws_FnRecords.j1] at H
      by_cases c64 : x129_26 = true
      case pos =>
       subst c64
       rw [if_pos rfl] at H
       obtain rfl := Option.some.inj H
       as_aux_lemma =>
        go_wp2
        go_ret
        exact ⟨rr_, bq1_⟩
      replace c64 := Bool.eq_false_iff.mpr c64
      subst c64
      rw [if_neg (show ¬ (false = true) by decide)] at H
      have H' := a0_ H
      clear H
      as_aux_lemma =>
       go_wp2
       go_meet
       case rel => exact ⟨_, H', ⟨by have := HJ6.out; have := HJ26.out; first | omega | exact Nat.le_refl _⟩, ⟨bz_⟩, ⟨bq1_⟩⟩
   case rest =>
    clear HC20
    try clear c1
    try clear c2
    try clear p2
    try clear c3
    try clear c3b0
    try clear c6
    try clear p6
    try clear c14
    try clear c14b0
    try clear c14b1
    try clear c14b2
    try clear c15
    try clear c15b0
    try clear c15b1
    try clear c19
    try clear c21
    try clear z10_0 z10_1 z10_2 z10_3
    try clear z12_0 z12_1 z12_2 z12_3
    try clear z17_0 z17_1 z17_2 z17_3
    try clear z31_0 z31_1 z31_2 z31_3
    try clear z32_0 z32_1 z32_2 z32_3
    try clear z34_0 z34_1 z34_2 z34_3
    try clear z36_0 z36_1 z36_2 z36_3
    try clear z38_0 z38_1 z38_2 z38_3
    try clear q10_0 q10_1 q10_2 q10_3
    try clear q12_0 q12_1 q12_2 q12_3
    try clear q17_0 q17_1 q17_2 q17_3
    try clear q31_0 q31_1 q31_2 q31_3
    try clear q32_0 q32_1 q32_2 q32_3
    try clear q34_0 q34_1 q34_2 q34_3
    try clear q36_0 q36_1 q36_2 q36_3
    try clear q38_0 q38_1 q38_2 q38_3
    try clear p2
    try clear p6
    obtain ⟨kq, HA, HJ19, BK807, HB⟩ := hcut
    cases kq with
    | zero => exact absurd HA.out (by simp [laws_FnRecords.j2])
    | succ kj19 =>
     have H := HA.out
     clear HA
     simp only [laws_FnRecords.j2] at H
     obtain ⟨⟨t827, t828⟩, A650, H⟩ := Option.bind_eq_some_iff.mp H
     have A65 := a0_ A650
     clear A650
     obtain ⟨⟨t829, t830⟩, A660, H⟩ := Option.bind_eq_some_iff.mp H
     have A66 := a0_ A660
     clear A660
     obtain ⟨⟨t831, t832⟩, A670, H⟩ := Option.bind_eq_some_iff.mp H
     have A67 := a0_ A670
     clear A670
     have HC68 := a0_ H
     clear H
     go_upto_region 19 with (first | ((with_reducible refine gate_callee (f := 34) rfl ?_); refine goesL_ (some 132) rfl rfl Tryz.func34 (by kernel_rfl) rfl #[.slice A1 l1.length c1] rfl argsS_ ?_; (with_reducible refine (spec_DrawReadData.calls kj19 _ _ l1 t827 t828 _ ?side1 ?side2 A65.out).mono ?_); (case side1 => exact kC_ HR1.out HB.out); (case side2 => exact HC1.out); rintro e w69 ⟨rfl, hb⟩; refine ⟨_, rfl, ?_⟩; replace BK807 := a0_ (bkB_ BK807 hb); replace HB := a0_ (below_step bq1_ hb); clear hb) | ((with_reducible refine gate_callee (f := 11) rfl ?_); refine goesL_ (some 138) rfl rfl Tryz.func11 (by kernel_rfl) rfl #[.int .i64 t827, .string t828] rfl argsS_ ?_; (with_reducible refine (impl_ReadData.calls kj19 t827 t828 t829 t830 _ A66.out (hv := by refine Vars.below (Aside0.out (by assumption)) ?_; repeat (first | (with_reducible first | exact Below.refl _ _ | exact Aside0.out (by assumption) | apply below_alloc | apply pw_below_drewN | apply below_drew1 | refine below_set ?_ (Aside0.out (by assumption))) | exact Aside0.out (by assumption)))).mono ?_); rintro e w70 ⟨rfl, hb⟩; refine ⟨_, rfl, ?_⟩; replace BK807 := a0_ (bkB_ BK807 hb); replace HB := a0_ (below_step bq1_ hb); clear hb) | ((with_reducible refine gate_callee (f := 10) rfl ?_); refine goesL_ (some 144) rfl rfl Tryz.func10 (by kernel_rfl) rfl #[.int .i64 t827, .string t828] rfl argsS_ ?_; (with_reducible refine (spec_ReadData.calls kj19 t827 t828 t831 t832 _ A67.out).mono ?_); rintro e w71 ⟨rfl, hb⟩; refine ⟨_, rfl, ?_⟩; replace BK807 := a0_ (bkB_ BK807 hb); replace HB := a0_ (below_step bq1_ hb); clear hb))
     (try simp only [Act.put, List.setIfInBounds_toArray, List.set_cons_zero, List.set_cons_succ])
     go_cut [154] (fun v154 wc => ∃ (kq : Nat) (x154_67 : Bool), v154 = .bool x154_67 ∧ Aside0 (laws_FnRecords.j3 kq l1 t827 t828 t829 t830 x154_67 = some r) ∧ Aside0 (kq ≤ kj19) ∧ Aside0 (wc.heap[gb807]? = some (.cells #[.string t803, .int .i64 t804, .int .i64 t805, .string t806] 45 (0, 0))) ∧ Aside0 (Below w.heap.size w wc))
     case first =>
      have H := HC68.out
      clear HC68
      by_cases c72 : (t830 != t832) = true
      case neg =>
       rw [if_neg c72] at H
       have c72b0 : (t830 != t832) = false := by simpa using c72
       (try (have c72b1 : decide (t830 = t832) = true := by simpa using c72))
       (try (have c72b2 : (t830 == t832) = true := by simpa using c72))
       clear c72
       (first | rw [c72b0] | (simp only [i64_w, i32_w]; rw [c72b0]) | skip)
       have H' := a0_ H
       clear H
       as_aux_lemma =>
        go_wp2
        go_meet
        case rel => exact ⟨_, ((t829.toList != t831.toList)), rs_, H', ⟨by have := HJ6.out; have := HJ19.out; first | omega | exact Nat.le_refl _⟩, ⟨bz_⟩, ⟨bq1_⟩⟩
      rw [if_pos c72] at H
      have c72b0 : (t830 != t832) = true := c72
      (try (have c72b1 : decide (t830 = t832) = false := by simpa using c72))
      (try (have c72b2 : (t830 == t832) = false := by simpa using c72))
      (try (have c72b3 : ¬ (t830 = t832) := by simpa using c72))
      clear c72
      (first | rw [c72b0] | (simp only [i64_w, i32_w]; rw [c72b0]) | skip)
      have H' := a0_ H
      clear H
      as_aux_lemma =>
       go_wp2
       go_meet
       case rel => exact ⟨_, (true), rs_, H', ⟨by have := HJ6.out; have := HJ19.out; first | omega | exact Nat.le_refl _⟩, ⟨bz_⟩, ⟨bq1_⟩⟩
     case rest =>
      clear HC68
      try clear c1
      try clear c2
      try clear p2
      try clear c3
      try clear c3b0
      try clear c4
      try clear c5
      try clear c6
      try clear p6
      try clear c11
      try clear c14
      try clear c14b0
      try clear c14b1
      try clear c14b2
      try clear c15
      try clear c15b0
      try clear c15b1
      try clear c19
      try clear c21
      try clear c26
      try clear c27
      try clear c28
      try clear c30
      try clear c31
      try clear c32
      try clear c33
      try clear c40
      try clear c41
      try clear c41b0
      try clear c42
      try clear c45
      try clear c46
      try clear c47
      try clear c47b0
      try clear c47b1
      try clear c48
      try clear c48b0
      try clear c48b1
      try clear c48b2
      try clear c49
      try clear c52
      try clear c55
      try clear c58
      try clear c61
      try clear c64
      try clear z10_0 z10_1 z10_2 z10_3
      try clear z12_0 z12_1 z12_2 z12_3
      try clear z17_0 z17_1 z17_2 z17_3
      try clear z31_0 z31_1 z31_2 z31_3
      try clear z32_0 z32_1 z32_2 z32_3
      try clear z34_0 z34_1 z34_2 z34_3
      try clear z36_0 z36_1 z36_2 z36_3
      try clear z38_0 z38_1 z38_2 z38_3
      try clear z43_0 z43_1 z43_2 z43_3
      try clear z44_0 z44_1 z44_2 z44_3
      try clear z50_0 z50_1 z50_2 z50_3
      try clear z51_0 z51_1 z51_2 z51_3
      try clear z53_0 z53_1 z53_2 z53_3
      try clear z54_0 z54_1 z54_2 z54_3
      try clear z56_0 z56_1 z56_2 z56_3
      try clear z57_0 z57_1 z57_2 z57_3
      try clear z59_0 z59_1 z59_2 z59_3
      try clear z60_0 z60_1 z60_2 z60_3
      try clear z62_0 z62_1 z62_2 z62_3
      try clear z63_0 z63_1 z63_2 z63_3
      try clear q10_0 q10_1 q10_2 q10_3
      try clear q12_0 q12_1 q12_2 q12_3
      try clear q17_0 q17_1 q17_2 q17_3
      try clear q31_0 q31_1 q31_2 q31_3
      try clear q32_0 q32_1 q32_2 q32_3
      try clear q34_0 q34_1 q34_2 q34_3
      try clear q36_0 q36_1 q36_2 q36_3
      try clear q38_0 q38_1 q38_2 q38_3
      try clear q43_0 q43_1 q43_2 q43_3
      try clear q44_0 q44_1 q44_2 q44_3
      try clear q50_0 q50_1 q50_2 q50_3
      try clear q51_0 q51_1 q51_2 q51_3
      try clear q53_0 q53_1 q53_2 q53_3
      try clear q54_0 q54_1 q54_2 q54_3
      try clear q56_0 q56_1 q56_2 q56_3
      try clear q57_0 q57_1 q57_2 q57_3
      try clear q59_0 q59_1 q59_2 q59_3
      try clear q60_0 q60_1 q60_2 q60_3
      try clear q62_0 q62_1 q62_2 q62_3
      try clear q63_0 q63_1 q63_2 q63_3
      try clear p2
      try clear p6
      obtain ⟨kq, x154_67, rfl, HA, HJ67, BK807, HB⟩ := hcut
      cases kq with
      | zero => exact absurd HA.out (by simp [laws_FnRecords.j3])
      | succ kj67 =>
       have H := HA.out
       clear HA
       simp only [laws_FnRecords.j3] at H
       by_cases c73 : x154_67 = true
       case pos =>
        subst c73
        rw [if_pos rfl] at H
        obtain rfl := Option.some.inj H
        as_aux_lemma =>
         go_wp2
         go_ret
         exact ⟨rr_, bq1_⟩
       replace c73 := Bool.eq_false_iff.mpr c73
       subst c73
       rw [if_neg (show ¬ (false = true) by decide)] at H
       have HC74 := a0_ H
       clear H
       go_upto_if 155 with (fail)
       go_cut [] (fun wc => ∃ (kq : Nat), Aside0 (laws_FnRecords.j4 kq l1 = some r) ∧ Aside0 (kq ≤ kj67) ∧ Aside0 (wc.heap[gb807]? = some (.cells #[.string t803, .int .i64 t804, .int .i64 t805, .string t806] 45 (0, 0))) ∧ Aside0 (Below w.heap.size w wc))
       case first =>
        have H := HC74.out
        clear HC74
        by_cases c75 : t830 = true
        case neg =>
         replace c75 := Bool.eq_false_iff.mpr c75
         subst c75
         rw [if_neg (show ¬ (false = true) by decide)] at H
         have H' := a0_ H
         clear H
         as_aux_lemma =>
          go_wp2
          go_meet
          case rel => exact ⟨_, H', ⟨by have := HJ6.out; have := HJ19.out; have := HJ67.out; first | omega | exact Nat.le_refl _⟩, ⟨bz_⟩, ⟨bq1_⟩⟩
        subst c75
        rw [if_pos rfl] at H
        obtain ⟨⟨t833, t834⟩, A760, H⟩ := Option.bind_eq_some_iff.mp H
        have A76 := a0_ A760
        clear A760
        by_cases c77 : t834 = true
        case neg =>
         replace c77 := Bool.eq_false_iff.mpr c77
         subst c77
         rw [if_neg (show ¬ (false = true) by decide)] at H
         obtain rfl := Option.some.inj H
         as_aux_lemma =>
          go_wp2_with (first | ((with_reducible refine gate_callee (f := 31) rfl ?_); refine goesL_ (some 159) rfl rfl Tryz.func31 (by kernel_rfl) rfl #[.int .i64 t827, .string t829] rfl argsS_ ?_; (with_reducible refine (impl_DataBytes.calls kj67 t827 t829 t833 false _ A76.out (hv := by refine Vars.below (Aside0.out (by assumption)) ?_; repeat (first | (with_reducible first | exact Below.refl _ _ | exact Aside0.out (by assumption) | apply below_alloc | apply pw_below_drewN | apply below_drew1 | refine below_set ?_ (Aside0.out (by assumption))) | exact Aside0.out (by assumption)))).mono ?_); rintro e w81 ⟨rfl, hb⟩; refine ⟨_, rfl, ?_⟩; replace BK807 := a0_ (bkB_ BK807 hb); replace HB := a0_ (below_step bq1_ hb); clear hb))
          go_ret
          exact ⟨rr_, bq1_⟩
        subst c77
        rw [if_pos rfl] at H
        by_cases c78 : t833.toList = t828.toList
        case neg =>
         rw [if_neg c78] at H
         have c78b0 := beq_eq_false_iff_ne.mpr c78
         have c78b1 := bne_iff_ne.mpr c78
         (first | rw [c78b0] | (simp only [i64_w, i32_w]; rw [c78b0]) | skip)
         obtain rfl := Option.some.inj H
         as_aux_lemma =>
          go_wp2_with (first | ((with_reducible refine gate_callee (f := 31) rfl ?_); refine goesL_ (some 159) rfl rfl Tryz.func31 (by kernel_rfl) rfl #[.int .i64 t827, .string t829] rfl argsS_ ?_; (with_reducible refine (impl_DataBytes.calls kj67 t827 t829 t833 true _ A76.out (hv := by refine Vars.below (Aside0.out (by assumption)) ?_; repeat (first | (with_reducible first | exact Below.refl _ _ | exact Aside0.out (by assumption) | apply below_alloc | apply pw_below_drewN | apply below_drew1 | refine below_set ?_ (Aside0.out (by assumption))) | exact Aside0.out (by assumption)))).mono ?_); rintro e w80 ⟨rfl, hb⟩; refine ⟨_, rfl, ?_⟩; replace BK807 := a0_ (bkB_ BK807 hb); replace HB := a0_ (below_step bq1_ hb); clear hb))
          go_ret
          exact ⟨rr_, bq1_⟩
        rw [if_pos c78] at H
        have c78b0 := beq_iff_eq.mpr c78
        have c78b1 := bne_eq_false_iff_eq.mpr c78
        clear c78
        (first | rw [c78b0] | (simp only [i64_w, i32_w]; rw [c78b0]) | skip)
        have H' := a0_ H
        clear H
        as_aux_lemma =>
         go_wp2_with (first | ((with_reducible refine gate_callee (f := 31) rfl ?_); refine goesL_ (some 159) rfl rfl Tryz.func31 (by kernel_rfl) rfl #[.int .i64 t827, .string t829] rfl argsS_ ?_; (with_reducible refine (impl_DataBytes.calls kj67 t827 t829 t833 true _ A76.out (hv := by refine Vars.below (Aside0.out (by assumption)) ?_; repeat (first | (with_reducible first | exact Below.refl _ _ | exact Aside0.out (by assumption) | apply below_alloc | apply pw_below_drewN | apply below_drew1 | refine below_set ?_ (Aside0.out (by assumption))) | exact Aside0.out (by assumption)))).mono ?_); rintro e w79 ⟨rfl, hb⟩; refine ⟨_, rfl, ?_⟩; replace BK807 := a0_ (bkB_ BK807 hb); replace HB := a0_ (below_step bq1_ hb); clear hb))
         go_meet
         case rel => exact ⟨_, H', ⟨by have := HJ6.out; have := HJ19.out; have := HJ67.out; first | omega | exact Nat.le_refl _⟩, ⟨bz_⟩, ⟨bq1_⟩⟩
       case rest =>
        clear HC74
        try clear c1
        try clear c2
        try clear p2
        try clear c3
        try clear c3b0
        try clear c4
        try clear c5
        try clear c6
        try clear p6
        try clear c7
        try clear c10
        try clear c11
        try clear c14
        try clear c14b0
        try clear c14b1
        try clear c14b2
        try clear c15
        try clear c15b0
        try clear c15b1
        try clear c19
        try clear c21
        try clear c26
        try clear c27
        try clear c28
        try clear c30
        try clear c31
        try clear c32
        try clear c33
        try clear c34
        try clear c40
        try clear c41
        try clear c41b0
        try clear c42
        try clear c45
        try clear c46
        try clear c47
        try clear c47b0
        try clear c47b1
        try clear c48
        try clear c48b0
        try clear c48b1
        try clear c48b2
        try clear c49
        try clear c52
        try clear c55
        try clear c58
        try clear c61
        try clear c64
        try clear c72
        try clear c72b0
        try clear c72b1
        try clear c72b2
        try clear c73
        try clear z10_0 z10_1 z10_2 z10_3
        try clear z12_0 z12_1 z12_2 z12_3
        try clear z17_0 z17_1 z17_2 z17_3
        try clear z31_0 z31_1 z31_2 z31_3
        try clear z32_0 z32_1 z32_2 z32_3
        try clear z34_0 z34_1 z34_2 z34_3
        try clear z36_0 z36_1 z36_2 z36_3
        try clear z38_0 z38_1 z38_2 z38_3
        try clear z43_0 z43_1 z43_2 z43_3
        try clear z44_0 z44_1 z44_2 z44_3
        try clear z50_0 z50_1 z50_2 z50_3
        try clear z51_0 z51_1 z51_2 z51_3
        try clear z53_0 z53_1 z53_2 z53_3
        try clear z54_0 z54_1 z54_2 z54_3
        try clear z56_0 z56_1 z56_2 z56_3
        try clear z57_0 z57_1 z57_2 z57_3
        try clear z59_0 z59_1 z59_2 z59_3
        try clear z60_0 z60_1 z60_2 z60_3
        try clear z62_0 z62_1 z62_2 z62_3
        try clear z63_0 z63_1 z63_2 z63_3
        try clear q10_0 q10_1 q10_2 q10_3
        try clear q12_0 q12_1 q12_2 q12_3
        try clear q17_0 q17_1 q17_2 q17_3
        try clear q31_0 q31_1 q31_2 q31_3
        try clear q32_0 q32_1 q32_2 q32_3
        try clear q34_0 q34_1 q34_2 q34_3
        try clear q36_0 q36_1 q36_2 q36_3
        try clear q38_0 q38_1 q38_2 q38_3
        try clear q43_0 q43_1 q43_2 q43_3
        try clear q44_0 q44_1 q44_2 q44_3
        try clear q50_0 q50_1 q50_2 q50_3
        try clear q51_0 q51_1 q51_2 q51_3
        try clear q53_0 q53_1 q53_2 q53_3
        try clear q54_0 q54_1 q54_2 q54_3
        try clear q56_0 q56_1 q56_2 q56_3
        try clear q57_0 q57_1 q57_2 q57_3
        try clear q59_0 q59_1 q59_2 q59_3
        try clear q60_0 q60_1 q60_2 q60_3
        try clear q62_0 q62_1 q62_2 q62_3
        try clear q63_0 q63_1 q63_2 q63_3
        try clear p2
        try clear p6
        obtain ⟨kq, HA, HJ73, BK807, HB⟩ := hcut
        cases kq with
        | zero => exact absurd HA.out (by simp [laws_FnRecords.j4])
        | succ kj73 =>
         have H := HA.out
         clear HA
         simp only [laws_FnRecords.j4] at H
         obtain ⟨⟨t835, t836, t837, t838, t839, t840, t841, t842⟩, A820, H⟩ := Option.bind_eq_some_iff.mp H
         have A82 := a0_ A820
         clear A820
         obtain ⟨⟨t845, t846⟩, A830, H⟩ := Option.bind_eq_some_iff.mp H
         have A83 := a0_ A830
         clear A830
         obtain ⟨⟨t847, t848⟩, A840, H⟩ := Option.bind_eq_some_iff.mp H
         have A84 := a0_ A840
         clear A840
         obtain ⟨⟨t849, t850⟩, A850, H⟩ := Option.bind_eq_some_iff.mp H
         have A85 := a0_ A850
         clear A850
         have HC86 := a0_ H
         clear H
         go_upto_region 29 with (first | ((with_reducible refine gate_callee (f := 35) rfl ?_); refine goesL_ (some 171) rfl rfl Tryz.func35 (by kernel_rfl) rfl #[.slice A1 l1.length c1] rfl argsS_ ?_; (with_reducible refine (spec_DrawCompareRecords.calls kj73 _ _ l1 t835 t836 t837 t838 t839 t840 t841 t842 _ ?side1 ?side2 A82.out).mono ?_); (case side1 => exact kC_ HR1.out HB.out); (case side2 => exact HC1.out); rintro e w87 ⟨rfl, hb⟩; refine ⟨_, rfl, ?_⟩; replace BK807 := a0_ (bkB_ BK807 hb); replace HB := a0_ (below_step bq1_ hb); clear hb) | ((with_reducible refine gate_dst (N := 28) rfl ?_); refine boxS_ 28 #[.string (⟨#[]⟩ : ByteArray), .int .i64 0, .int .i64 0, .string (⟨#[]⟩ : ByteArray)] 45 (fun gb843 hg w88 hbox hb => ?_); have n0_ := a0_ (bkB_ BK807 hb); have n1_ := a0_ (below_step bq1_ hb); have n2_ := a0_ (hbox); have n3_ := a0_ (gw_ hg (below_size bq1_) : w.heap.size ≤ gb843); have n4_ := n3_; have n5_ := a0_ ((by rw [hg]; exact Nat.ne_of_lt (blk_lt (g := gb807) (o := .cells #[.string t803, .int .i64 t804, .int .i64 t805, .string t806] 45 (0, 0)) (kB_ BK807.out)) : gb807 ≠ gb843)); have n6_ := a0_ ((by rw [hg]; exact Nat.ne_of_gt (blk_lt (g := gb807) (o := .cells #[.string t803, .int .i64 t804, .int .i64 t805, .string t806] 45 (0, 0)) (kB_ BK807.out)) : gb843 ≠ gb807)); clear BK807; clear HB; have BK807 := n0_; have HB := n1_; have BK843 := n2_; have GW843 := n3_; have GE843 := n4_; have NB807_843 := n5_; have NB843_807 := n6_; clear n0_ n1_ n2_ n3_ n4_ n5_ n6_; clear hb hbox hg) | ((with_reducible refine gate_dst (N := 29) rfl ?_); refine boxS_ 29 #[.string (⟨#[]⟩ : ByteArray), .int .i64 0, .int .i64 0, .string (⟨#[]⟩ : ByteArray)] 45 (fun gb844 hg w89 hbox hb => ?_); have n0_ := a0_ (bkB_ BK807 hb); have n1_ := a0_ (bkB_ BK843 hb); have n2_ := a0_ (below_step bq1_ hb); have n3_ := a0_ (hbox); have n4_ := a0_ (gw_ hg (below_size bq1_) : w.heap.size ≤ gb844); have n5_ := n4_; have n6_ := a0_ ((by rw [hg]; exact Nat.ne_of_lt (blk_lt (g := gb807) (o := .cells #[.string t803, .int .i64 t804, .int .i64 t805, .string t806] 45 (0, 0)) (kB_ BK807.out)) : gb807 ≠ gb844)); have n7_ := a0_ ((by rw [hg]; exact Nat.ne_of_gt (blk_lt (g := gb807) (o := .cells #[.string t803, .int .i64 t804, .int .i64 t805, .string t806] 45 (0, 0)) (kB_ BK807.out)) : gb844 ≠ gb807)); have n8_ := a0_ ((by rw [hg]; exact Nat.ne_of_lt (blk_lt (g := gb843) (o := .cells #[.string (⟨#[]⟩ : ByteArray), .int .i64 0, .int .i64 0, .string (⟨#[]⟩ : ByteArray)] 45 (0, 0)) (kB_ BK843.out)) : gb843 ≠ gb844)); have n9_ := a0_ ((by rw [hg]; exact Nat.ne_of_gt (blk_lt (g := gb843) (o := .cells #[.string (⟨#[]⟩ : ByteArray), .int .i64 0, .int .i64 0, .string (⟨#[]⟩ : ByteArray)] 45 (0, 0)) (kB_ BK843.out)) : gb844 ≠ gb843)); clear BK807; clear BK843; clear HB; have BK807 := n0_; have BK843 := n1_; have HB := n2_; have BK844 := n3_; have GW844 := n4_; have GE844 := n5_; have NB807_844 := n6_; have NB844_807 := n7_; have NB843_844 := n8_; have NB844_843 := n9_; clear n0_ n1_ n2_ n3_ n4_ n5_ n6_ n7_ n8_ n9_; clear hb hbox hg; have hnb90 := NB843_807.out; have hnc90 := NB807_843.out; have hnb91 := NB843_844.out; have hnc91 := NB844_843.out; obtain ⟨z92_0, z92_1, z92_2, z92_3, q92_0, q92_1, q92_2, q92_3⟩ := bk4_ BK843.out; have hnb93 := NB844_807.out; have hnc93 := NB807_844.out; obtain ⟨z94_0, z94_1, z94_2, z94_3, q94_0, q94_1, q94_2, q94_3⟩ := bk4_ BK844.out) | ((with_reducible refine gate_callee (f := 36) rfl ?_); refine goesL_ (some 177) rfl rfl Tryz.func36 (by kernel_rfl) rfl #[.agg #[.string t835, .int .i64 t836, .int .i64 t837, .string t838], .agg #[.string t839, .int .i64 t840, .int .i64 t841, .string t842]] rfl argsS_ ?_; (with_reducible refine (impl_CompareRecords.calls kj73 t835 t836 t837 t838 t839 t840 t841 t842 t845 t846 _ A83.out).mono ?_); rintro e w95 ⟨rfl, hb⟩; refine ⟨_, rfl, ?_⟩; replace BK807 := a0_ (blk_below (g := gb807) (o := .cells #[.string t803, .int .i64 t804, .int .i64 t805, .string t806] 45 (0, 0)) bz_ hb); replace BK843 := a0_ (blk_below (g := gb843) (o := .cells #[.string t835, .int .i64 t836, .int .i64 t837, .string t838] 45 (0, 0)) (by (with_reducible repeat (first | refine blk_drewN ?_ _ | refine blk_drew ?_ | refine blk_alloc ?_ _)); refine blk_far ?_ NB843_844.out _; (with_reducible repeat (first | refine blk_drewN ?_ _ | refine blk_drew ?_ | refine blk_alloc ?_ _)); refine blk_far ?_ NB843_844.out _; (with_reducible repeat (first | refine blk_drewN ?_ _ | refine blk_drew ?_ | refine blk_alloc ?_ _)); refine blk_far ?_ NB843_844.out _; (with_reducible repeat (first | refine blk_drewN ?_ _ | refine blk_drew ?_ | refine blk_alloc ?_ _)); refine blk_far ?_ NB843_844.out _; (with_reducible repeat (first | refine blk_drewN ?_ _ | refine blk_drew ?_ | refine blk_alloc ?_ _)); refine blk_put (cs := #[.string t835, .int .i64 t836, .int .i64 t837, .string (⟨#[]⟩ : ByteArray)]) ?_ 3 _ rfl; (with_reducible repeat (first | refine blk_drewN ?_ _ | refine blk_drew ?_ | refine blk_alloc ?_ _)); refine blk_put (cs := #[.string t835, .int .i64 t836, .int .i64 0, .string (⟨#[]⟩ : ByteArray)]) ?_ 2 _ rfl; (with_reducible repeat (first | refine blk_drewN ?_ _ | refine blk_drew ?_ | refine blk_alloc ?_ _)); refine blk_put (cs := #[.string t835, .int .i64 0, .int .i64 0, .string (⟨#[]⟩ : ByteArray)]) ?_ 1 _ rfl; (with_reducible repeat (first | refine blk_drewN ?_ _ | refine blk_drew ?_ | refine blk_alloc ?_ _)); refine blk_put (cs := #[.string (⟨#[]⟩ : ByteArray), .int .i64 0, .int .i64 0, .string (⟨#[]⟩ : ByteArray)]) ?_ 0 _ rfl; (with_reducible repeat (first | refine blk_drewN ?_ _ | refine blk_drew ?_ | refine blk_alloc ?_ _)); exact BK843.out) hb); replace BK844 := a0_ (blk_below (g := gb844) (o := .cells #[.string t839, .int .i64 t840, .int .i64 t841, .string t842] 45 (0, 0)) (by (with_reducible repeat (first | refine blk_drewN ?_ _ | refine blk_drew ?_ | refine blk_alloc ?_ _)); refine blk_put (cs := #[.string t839, .int .i64 t840, .int .i64 t841, .string (⟨#[]⟩ : ByteArray)]) ?_ 3 _ rfl; (with_reducible repeat (first | refine blk_drewN ?_ _ | refine blk_drew ?_ | refine blk_alloc ?_ _)); refine blk_put (cs := #[.string t839, .int .i64 t840, .int .i64 0, .string (⟨#[]⟩ : ByteArray)]) ?_ 2 _ rfl; (with_reducible repeat (first | refine blk_drewN ?_ _ | refine blk_drew ?_ | refine blk_alloc ?_ _)); refine blk_put (cs := #[.string t839, .int .i64 0, .int .i64 0, .string (⟨#[]⟩ : ByteArray)]) ?_ 1 _ rfl; (with_reducible repeat (first | refine blk_drewN ?_ _ | refine blk_drew ?_ | refine blk_alloc ?_ _)); refine blk_put (cs := #[.string (⟨#[]⟩ : ByteArray), .int .i64 0, .int .i64 0, .string (⟨#[]⟩ : ByteArray)]) ?_ 0 _ rfl; (with_reducible repeat (first | refine blk_drewN ?_ _ | refine blk_drew ?_ | refine blk_alloc ?_ _)); refine blk_far ?_ NB844_843.out _; (with_reducible repeat (first | refine blk_drewN ?_ _ | refine blk_drew ?_ | refine blk_alloc ?_ _)); refine blk_far ?_ NB844_843.out _; (with_reducible repeat (first | refine blk_drewN ?_ _ | refine blk_drew ?_ | refine blk_alloc ?_ _)); refine blk_far ?_ NB844_843.out _; (with_reducible repeat (first | refine blk_drewN ?_ _ | refine blk_drew ?_ | refine blk_alloc ?_ _)); refine blk_far ?_ NB844_843.out _; (with_reducible repeat (first | refine blk_drewN ?_ _ | refine blk_drew ?_ | refine blk_alloc ?_ _)); exact BK844.out) hb); replace HB := a0_ (below_step bq1_ hb); clear hb; obtain ⟨z96_0, z96_1, z96_2, z96_3, q96_0, q96_1, q96_2, q96_3⟩ := bk4_ BK843.out; obtain ⟨z97_0, z97_1, z97_2, z97_3, q97_0, q97_1, q97_2, q97_3⟩ := bk4_ BK844.out) | ((with_reducible refine gate_callee (f := 37) rfl ?_); refine goesL_ (some 183) rfl rfl Tryz.func37 (by kernel_rfl) rfl #[.agg #[.string t835, .int .i64 t836, .int .i64 t837, .string t838], .agg #[.string t839, .int .i64 t840, .int .i64 t841, .string t842]] rfl argsS_ ?_; (with_reducible refine (spec_CompareRecords.calls kj73 t835 t836 t837 t838 t839 t840 t841 t842 t847 t848 _ A84.out).mono ?_); rintro e w98 ⟨rfl, hb⟩; refine ⟨_, rfl, ?_⟩; replace BK807 := a0_ (bkB_ BK807 hb); replace BK843 := a0_ (bkB_ BK843 hb); replace BK844 := a0_ (bkB_ BK844 hb); replace HB := a0_ (below_step bq1_ hb); clear hb; obtain ⟨z99_0, z99_1, z99_2, z99_3, q99_0, q99_1, q99_2, q99_3⟩ := bk4_ BK844.out; obtain ⟨z100_0, z100_1, z100_2, z100_3, q100_0, q100_1, q100_2, q100_3⟩ := bk4_ BK843.out) | ((with_reducible refine gate_callee (f := 36) rfl ?_); refine goesL_ (some 189) rfl rfl Tryz.func36 (by kernel_rfl) rfl #[.agg #[.string t839, .int .i64 t840, .int .i64 t841, .string t842], .agg #[.string t835, .int .i64 t836, .int .i64 t837, .string t838]] rfl argsS_ ?_; (with_reducible refine (impl_CompareRecords.calls kj73 t839 t840 t841 t842 t835 t836 t837 t838 t849 t850 _ A85.out).mono ?_); rintro e w101 ⟨rfl, hb⟩; refine ⟨_, rfl, ?_⟩; replace BK807 := a0_ (bkB_ BK807 hb); replace BK843 := a0_ (bkB_ BK843 hb); replace BK844 := a0_ (bkB_ BK844 hb); replace HB := a0_ (below_step bq1_ hb); clear hb))
         (try simp only [Act.put, List.setIfInBounds_toArray, List.set_cons_zero, List.set_cons_succ])
         go_cut [4] (fun v4 wc => ∃ (kq : Nat) (x4_85 : Bool), v4 = .bool x4_85 ∧ Aside0 (laws_FnRecords.j5 kq x4_85 = some r) ∧ Aside0 (kq ≤ kj73) ∧ Aside0 (wc.heap[gb807]? = some (.cells #[.string t803, .int .i64 t804, .int .i64 t805, .string t806] 45 (0, 0))) ∧ Aside0 (wc.heap[gb843]? = some (.cells #[.string t835, .int .i64 t836, .int .i64 t837, .string t838] 45 (0, 0))) ∧ Aside0 (wc.heap[gb844]? = some (.cells #[.string t839, .int .i64 t840, .int .i64 t841, .string t842] 45 (0, 0))) ∧ Aside0 (Below w.heap.size w wc))
         case first =>
          have H := HC86.out
          clear HC86
          by_cases c102 : (t846 == t848) = true
          case neg =>
           rw [if_neg c102] at H
           have c102b0 : (t846 == t848) = false := by simpa using c102
           (try (have c102b1 : decide (t846 = t848) = false := by simpa using c102))
           (try (have c102b2 : (t846 == t848) = false := by simpa using c102))
           (try (have c102b3 : ¬ (t846 = t848) := by simpa using c102))
           clear c102
           (first | rw [c102b0] | (simp only [i64_w, i32_w]; rw [c102b0]) | skip)
           have H' := a0_ H
           clear H
           as_aux_lemma =>
            go_wp2
            go_meet
            case rel => exact ⟨_, (false), rs_, H', ⟨by have := HJ6.out; have := HJ19.out; have := HJ67.out; have := HJ73.out; first | omega | exact Nat.le_refl _⟩, ⟨bz_⟩, ⟨bz_⟩, ⟨bz_⟩, ⟨bq1_⟩⟩
          rw [if_pos c102] at H
          have c102b0 : (t846 == t848) = true := c102
          (try (have c102b1 : decide (t846 = t848) = true := by simpa using c102))
          (try (have c102b2 : (t846 == t848) = true := by simpa using c102))
          clear c102
          (first | rw [c102b0] | (simp only [i64_w, i32_w]; rw [c102b0]) | skip)
          by_cases c103 : t845 = t847
          case neg =>
           rw [if_neg c103] at H
           have c103b0 := beq_eq_false_iff_ne.mpr c103
           have c103b1 := bne_iff_ne.mpr c103
           have H' := a0_ H
           clear H
           as_aux_lemma =>
            go_wp2
            go_meet
            case rel => exact ⟨_, (false), rs_, H', ⟨by have := HJ6.out; have := HJ19.out; have := HJ67.out; have := HJ73.out; first | omega | exact Nat.le_refl _⟩, ⟨bz_⟩, ⟨bz_⟩, ⟨bz_⟩, ⟨bq1_⟩⟩
          rw [if_pos c103] at H
          have c103b0 := beq_iff_eq.mpr c103
          have c103b1 := bne_eq_false_iff_eq.mpr c103
          clear c103
          by_cases c104 : (t850 == t846) = true
          case neg =>
           rw [if_neg c104] at H
           have c104b0 : (t850 == t846) = false := by simpa using c104
           (try (have c104b1 : decide (t850 = t846) = false := by simpa using c104))
           (try (have c104b2 : (t850 == t846) = false := by simpa using c104))
           (try (have c104b3 : ¬ (t850 = t846) := by simpa using c104))
           clear c104
           have H' := a0_ H
           clear H
           as_aux_lemma =>
            go_wp2
            go_meet
            case rel => exact ⟨_, (false), rs_, H', ⟨by have := HJ6.out; have := HJ19.out; have := HJ67.out; have := HJ73.out; first | omega | exact Nat.le_refl _⟩, ⟨bz_⟩, ⟨bz_⟩, ⟨bz_⟩, ⟨bq1_⟩⟩
          rw [if_pos c104] at H
          have c104b0 : (t850 == t846) = true := c104
          (try (have c104b1 : decide (t850 = t846) = true := by simpa using c104))
          (try (have c104b2 : (t850 == t846) = true := by simpa using c104))
          clear c104
          by_cases c105 : t849 = (wrap64 (-t845))
          case neg =>
           rw [if_neg c105] at H
           have c105b0 := beq_eq_false_iff_ne.mpr c105
           have c105b1 := bne_iff_ne.mpr c105
           have H' := a0_ H
           clear H
           as_aux_lemma =>
            go_wp2
            go_meet
            case rel => exact ⟨_, (false), rs_, H', ⟨by have := HJ6.out; have := HJ19.out; have := HJ67.out; have := HJ73.out; first | omega | exact Nat.le_refl _⟩, ⟨bz_⟩, ⟨bz_⟩, ⟨bz_⟩, ⟨bq1_⟩⟩
          rw [if_pos c105] at H
          have c105b0 := beq_iff_eq.mpr c105
          have c105b1 := bne_eq_false_iff_eq.mpr c105
          clear c105
          by_cases c106 : t846 = true
          case neg =>
           replace c106 := Bool.eq_false_iff.mpr c106
           subst c106
           rw [if_neg (show ¬ (false = true) by decide)] at H
           have H' := a0_ H
           clear H
           as_aux_lemma =>
            go_wp2
            go_meet
            case rel => exact ⟨_, (true), rs_, H', ⟨by have := HJ6.out; have := HJ19.out; have := HJ67.out; have := HJ73.out; first | omega | exact Nat.le_refl _⟩, ⟨bz_⟩, ⟨bz_⟩, ⟨bz_⟩, ⟨bq1_⟩⟩
          subst c106
          rw [if_pos rfl] at H
          have H' := a0_ H
          clear H
          have hnb107 := NB843_807.out
          have hnc107 := NB807_843.out
          have hnb108 := NB843_844.out
          have hnc108 := NB844_843.out
          obtain ⟨z109_0, z109_1, z109_2, z109_3, q109_0, q109_1, q109_2, q109_3⟩ := bk4_ BK843.out
          have hnb110 := NB844_807.out
          have hnc110 := NB807_844.out
          obtain ⟨z111_0, z111_1, z111_2, z111_3, q111_0, q111_1, q111_2, q111_3⟩ := bk4_ BK844.out
          as_aux_lemma =>
           go_wp2
           go_meet
           case rel => exact ⟨_, (((t845 == 0) == (t835.toList == t839.toList && (t836 == t840 && (t837 == t841 && (t838.toList == t842.toList)))))), rs_, H', ⟨by have := HJ6.out; have := HJ19.out; have := HJ67.out; have := HJ73.out; first | omega | exact Nat.le_refl _⟩, ⟨bz_⟩, ⟨bz_⟩, ⟨bz_⟩, ⟨bq1_⟩⟩
         case rest =>
          clear HC86
          try clear c1
          try clear c2
          try clear p2
          try clear c3
          try clear c3b0
          try clear c4
          try clear c5
          try clear c6
          try clear p6
          try clear c7
          try clear c10
          try clear c11
          try clear c14
          try clear c14b0
          try clear c14b1
          try clear c14b2
          try clear c15
          try clear c15b0
          try clear c15b1
          try clear c19
          try clear c21
          try clear c26
          try clear c27
          try clear c28
          try clear c30
          try clear c31
          try clear c32
          try clear c33
          try clear c34
          try clear c40
          try clear c41
          try clear c41b0
          try clear c42
          try clear c45
          try clear c46
          try clear c47
          try clear c47b0
          try clear c47b1
          try clear c48
          try clear c48b0
          try clear c48b1
          try clear c48b2
          try clear c49
          try clear c52
          try clear c55
          try clear c58
          try clear c61
          try clear c64
          try clear c72
          try clear c72b0
          try clear c72b1
          try clear c72b2
          try clear c73
          try clear c75
          try clear c77
          try clear c78
          try clear c78b0
          try clear c78b1
          try clear z100_0 z100_1 z100_2 z100_3
          try clear z10_0 z10_1 z10_2 z10_3
          try clear z12_0 z12_1 z12_2 z12_3
          try clear z17_0 z17_1 z17_2 z17_3
          try clear z31_0 z31_1 z31_2 z31_3
          try clear z32_0 z32_1 z32_2 z32_3
          try clear z34_0 z34_1 z34_2 z34_3
          try clear z36_0 z36_1 z36_2 z36_3
          try clear z38_0 z38_1 z38_2 z38_3
          try clear z43_0 z43_1 z43_2 z43_3
          try clear z44_0 z44_1 z44_2 z44_3
          try clear z50_0 z50_1 z50_2 z50_3
          try clear z51_0 z51_1 z51_2 z51_3
          try clear z53_0 z53_1 z53_2 z53_3
          try clear z54_0 z54_1 z54_2 z54_3
          try clear z56_0 z56_1 z56_2 z56_3
          try clear z57_0 z57_1 z57_2 z57_3
          try clear z59_0 z59_1 z59_2 z59_3
          try clear z60_0 z60_1 z60_2 z60_3
          try clear z62_0 z62_1 z62_2 z62_3
          try clear z63_0 z63_1 z63_2 z63_3
          try clear z92_0 z92_1 z92_2 z92_3
          try clear z94_0 z94_1 z94_2 z94_3
          try clear z96_0 z96_1 z96_2 z96_3
          try clear z97_0 z97_1 z97_2 z97_3
          try clear z99_0 z99_1 z99_2 z99_3
          try clear q100_0 q100_1 q100_2 q100_3
          try clear q10_0 q10_1 q10_2 q10_3
          try clear q12_0 q12_1 q12_2 q12_3
          try clear q17_0 q17_1 q17_2 q17_3
          try clear q31_0 q31_1 q31_2 q31_3
          try clear q32_0 q32_1 q32_2 q32_3
          try clear q34_0 q34_1 q34_2 q34_3
          try clear q36_0 q36_1 q36_2 q36_3
          try clear q38_0 q38_1 q38_2 q38_3
          try clear q43_0 q43_1 q43_2 q43_3
          try clear q44_0 q44_1 q44_2 q44_3
          try clear q50_0 q50_1 q50_2 q50_3
          try clear q51_0 q51_1 q51_2 q51_3
          try clear q53_0 q53_1 q53_2 q53_3
          try clear q54_0 q54_1 q54_2 q54_3
          try clear q56_0 q56_1 q56_2 q56_3
          try clear q57_0 q57_1 q57_2 q57_3
          try clear q59_0 q59_1 q59_2 q59_3
          try clear q60_0 q60_1 q60_2 q60_3
          try clear q62_0 q62_1 q62_2 q62_3
          try clear q63_0 q63_1 q63_2 q63_3
          try clear q92_0 q92_1 q92_2 q92_3
          try clear q94_0 q94_1 q94_2 q94_3
          try clear q96_0 q96_1 q96_2 q96_3
          try clear q97_0 q97_1 q97_2 q97_3
          try clear q99_0 q99_1 q99_2 q99_3
          try clear p2
          try clear p6
          obtain ⟨kq, x4_85, rfl, HA, HJ85, BK807, BK843, BK844, HB⟩ := hcut
          cases kq with
          | zero => exact absurd HA.out (by simp [laws_FnRecords.j5])
          | succ kj85 =>
           have H := HA.out
           clear HA
           simp only [laws_FnRecords.j5] at H
           obtain rfl := Option.some.inj H
           as_aux_lemma =>
            go_wp2
            go_ret
            exact ⟨rr_, bq1_⟩
def laws_FnRecords.Pure : Prop := ∀ (l0 : List Int) (l1 : List Int), l0.length ≤ maxLen → l0.length * 1 ≤ 140737488351232 → (∀ x ∈ l0, (Lit.int .u8 x).wf = true) → l1.length ≤ maxLen → l1.length * 1 ≤ 140737488351232 → (∀ x ∈ l1, (Lit.int .u8 x).wf = true) → ∃ k, laws_FnRecords.f k l0 l1 = some true
theorem laws_FnRecords.walk (P : laws_FnRecords.Pure) (a0 : Option Addr) (len0 cap0 : Nat) (z0 : List Int) (a1 : Option Addr) (len1 cap1 : Nat) (z1 : List Int) (w : World) (w0 : (a0 = none ∧ len0 = 0 ∧ cap0 = 0 ∧ z0 = []) ∨ ∃ x, a0 = some x ∧ len0 ≤ cap0 ∧ cap0 ≤ maxLen ∧ z0.length = cap0 ∧ (∀ i, i < z0.length → w.cell? (x.add i) = some (.int .u8 (z0.getD i 0))) ∧ ∀ n ∈ z0, (Lit.int .u8 n).wf = true) (y0 : len0 * 1 ≤ 140737488351232) (w1 : (a1 = none ∧ len1 = 0 ∧ cap1 = 0 ∧ z1 = []) ∨ ∃ x, a1 = some x ∧ len1 ≤ cap1 ∧ cap1 ≤ maxLen ∧ z1.length = cap1 ∧ (∀ i, i < z1.length → w.cell? (x.add i) = some (.int .u8 (z1.getD i 0))) ∧ ∀ n ∈ z1, (Lit.int .u8 n).wf = true) (y1 : len1 * 1 ≤ 140737488351232) (hv_ : Vars w) :
 Calls Tryz.prog 6 #[.slice a0 len0 cap0, .slice a1 len1 cap1] w fun e w' => e = .returned (.bool true) ∧ Below w.heap.size w w' := by
 obtain ⟨l0, rfl, hr0, hm0, hw0, hc0⟩ := ReadsInt.ofRowC w0
 obtain ⟨l1, rfl, hr1, hm1, hw1, hc1⟩ := ReadsInt.ofRowC w1
 obtain ⟨k, h⟩ := P l0 l1 hm0 y0 hw0 hm1 y1 hw1
 refine (laws_FnRecords.calls k _ _ l0 _ _ l1 true w (Kd.C_of_reads (d := (0 : Int)) (h1 := fun _ => rfl) hr0) hc0 (Kd.C_of_reads (d := (0 : Int)) (h1 := fun _ => rfl) hr1) hc1 h).mono ?_
 rintro e w' ⟨rfl, hd⟩
 exact ⟨rfl, hd⟩
end Go.Proofs.YtiegkjimpclmaaaGreatDoor.P
