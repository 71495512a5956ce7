/- FnExactSetIn: part 30 of 31 of my texts for this claim, joined; the theorem stands in the last. Conditions: none beyond the statement's. -/
import Derived.Test.YtkpkfallgjdkmaaGreatDoorMFnExactSetInx3
import Derived.Test.YtkpkfallgjdkmaaGreatDoorMFnExactSetInx7
import Derived.Test.YtkpkfallgjdkmaaGreatDoorMFnExactSetInx10
import Derived.Test.YtkpkfallgjdkmaaGreatDoorMFnExactSetInx11
import Derived.Test.YtkpkfallgjdkmaaGreatDoorMFnExactSetInx23
import Derived.Test.YtkpkfallgjdkmaaGreatDoorMFnExactSetInx27
namespace Go.Proofs.YtkpkfallgjdkmaaGreatDoor.P
open Go.RowKit Go.Proofs.YtkpkfallgjdkmaaGreatDoorW.PrintWords Go.Proofs.YtkpkfallgjdkmaaGreatDoorW.PrintLast Go.Proofs.YtkpkfallgjdkmaaGreatDoorW.PrintMore
attribute [local go_sem] max2_int min2_int max_two min_two max_three min_three max_four min_four
set_option linter.unusedVariables false
set_option linter.unusedSimpArgs false
mutual
def laws_FnExactSetIn.j0 : Nat → ByteArray → Int → List (S72) → Bool → List (S72) → Bool → Bool → ByteArray → Int → List (S71) → ByteArray → Int → List (S72) → Option (Bool)
 | 0, _, _, _, _, _, _, _, _, _, _, _, _, _ => none
 | k + 1, x1, x2, x8, x9, x11, x12, x51, x875000, x875001, x875002, x891000, x891001, x891002 => if x51 = true then (some false) else ((laws_toZone.f k x875000 x875001 x875002).bind fun bt896 => ((laws_eqZone.f k x891000 x891001 x891002 bt896.1 bt896.2.1 bt896.2.2).bind fun t901 => (if t901 = true then ((laws_markZone.f k x891000 x891001 x891002 1).bind fun bt902 => (if bt902.1 < 0 then (laws_FnExactSetIn.j1 k x1 x2 x8 x9 x11 true x875000 x875001 x875002) else ((laws_eqRecordS.f k x11 x8).bind fun t904 => (if t904 = true then (laws_FnExactSetIn.j1 k x1 x2 x8 x9 x11 (x12 != x9) x875000 x875001 x875002) else (laws_FnExactSetIn.j1 k x1 x2 x8 x9 x11 true x875000 x875001 x875002))))) else (some false))))
def laws_FnExactSetIn.j1 : Nat → ByteArray → Int → List (S72) → Bool → List (S72) → Bool → ByteArray → Int → List (S71) → Option (Bool)
 | 0, _, _, _, _, _, _, _, _, _ => none
 | k + 1, x1, x2, x8, x9, x11, x72, x875000, x875001, x875002 => if x72 = true then (some false) else ((laws_markRecordS.f k x11 1).bind fun bt905 => ((laws_heldRecordS.f k bt905.2 1).bind fun t907 => (if t907 < 0 then (some false) else (if t907 = bt905.1 then ((laws_toZone.f k x875000 x875001 x875002).bind fun bt908 => ((impl_SetIn.f k bt908.1 bt908.2.1 bt908.2.2 x1 x2).bind fun bt913 => ((laws_eqRecordS.f k bt913.1 x8).bind fun t917 => (if t917 = true then (laws_FnExactSetIn.j2 k bt905.2 bt905.1 (bt913.2 != x9)) else (laws_FnExactSetIn.j2 k bt905.2 bt905.1 true))))) else (some false)))))
def laws_FnExactSetIn.j2 : Nat → List (S72) → Int → Bool → Option (Bool)
 | 0, _, _, _ => none
 | k + 1, x11, x14, x100 => if x100 = true then (some false) else ((laws_heldRecordS.f k x11 1).bind fun t918 => (if t918 < 0 then (some false) else (if t918 = x14 then (some true) else (some false))))
end
def laws_FnExactSetIn.f (k : Nat) (a0_0 : ByteArray) (a0_1 : Int) (l0_2 : List (S71)) (a1 : ByteArray) (a2 : Int) : Option (Bool) := if (a1.size : Int) > 1048576 then (some true) else ((laws_szZone.f k a0_0 a0_1 l0_2 1048576).bind fun t875 => (if t875 < 0 then (some true) else ((laws_toZone.f k a0_0 a0_1 l0_2).bind fun bt876 => ((spec_SetIn.f k bt876.1 bt876.2.1 bt876.2.2 a1 a2).bind fun bt881 => ((laws_toZone.f k a0_0 a0_1 l0_2).bind fun bt885 => ((impl_SetIn.f k bt885.1 bt885.2.1 bt885.2.2 a1 a2).bind fun bt891 => ((laws_eqRecordS.f k bt891.1 bt881.1).bind fun t895 => (if t895 = true then (laws_FnExactSetIn.j0 k a1 a2 bt881.1 bt881.2 bt891.1 bt891.2 (bt891.2 != bt881.2) a0_0 a0_1 l0_2 bt885.1 bt885.2.1 bt885.2.2) else (laws_FnExactSetIn.j0 k a1 a2 bt881.1 bt881.2 bt891.1 bt891.2 true a0_0 a0_1 l0_2 bt885.1 bt885.2.1 bt885.2.2)))))))))
set_option maxHeartbeats 8000000 in
set_option maxRecDepth 100000 in
theorem laws_FnExactSetIn.calls (k : Nat) (a0_0 : ByteArray) (a0_1 : Int) (A0_2 : Option Addr) (c0_2 : Nat) (l0_2 : List (S71)) (a1 : ByteArray) (a2 : Int) (r : Bool) (w : World) (hr0_2 : Kd.C k71 w A0_2 l0_2.length l0_2) (hc0_2 : l0_2.length ≤ c0_2) (h : laws_FnExactSetIn.f k a0_0 a0_1 l0_2 a1 a2 = some r) (hv_ : Vars w := by exact vv_) :
 Calls Tryz.prog 10 #[.agg #[.string a0_0, .int .i64 a0_1, .slice A0_2 l0_2.length c0_2], .string a1, .int .i64 a2] w fun e w' => e = .returned (.bool r) ∧ Below w.heap.size w w' := by
 have HV_ := a0_ hv_
 clear hv_
 have hu51 := Tryz.underlying51
 have hu42 := Tryz.underlying42
 have HR0_2 := a0_ hr0_2
 have HC0_2 := a0_ hc0_2
 clear hr0_2 hc0_2
 have HB := a0_ (Below.refl w.heap.size w)
 have H : (if (a1.size : Int) > 1048576 then (some true) else ((laws_szZone.f k a0_0 a0_1 l0_2 1048576).bind fun t875 => (if t875 < 0 then (some true) else ((laws_toZone.f k a0_0 a0_1 l0_2).bind fun bt876 => ((spec_SetIn.f k bt876.1 bt876.2.1 bt876.2.2 a1 a2).bind fun bt881 => ((laws_toZone.f k a0_0 a0_1 l0_2).bind fun bt885 => ((impl_SetIn.f k bt885.1 bt885.2.1 bt885.2.2 a1 a2).bind fun bt891 => ((laws_eqRecordS.f k bt891.1 bt881.1).bind fun t895 => (if t895 = true then (laws_FnExactSetIn.j0 k a1 a2 bt881.1 bt881.2 bt891.1 bt891.2 (bt891.2 != bt881.2) a0_0 a0_1 l0_2 bt885.1 bt885.2.1 bt885.2.2) else (laws_FnExactSetIn.j0 k a1 a2 bt881.1 bt881.2 bt891.1 bt891.2 true a0_0 a0_1 l0_2 bt885.1 bt885.2.1 bt885.2.2)))))))))) = some r := h
 clear h
 by_cases c4 : (a1.size : Int) > 1048576
 case pos =>
  rw [if_pos c4] at H
  have c4b0 := decide_eq_true c4
  have c4b1 : decide (1048576 < a1.size) = true := decide_eq_true (by omega)
  clear c4
  obtain rfl := Option.some.inj H
  go_enter Tryz.func10, Tryz.ntmps10
  go_wp2_with (first | ((with_reducible refine gate_dst (N := 3) rfl ?_); refine boxS_ 3 #[.string a0_0, .int .i64 a0_1, .slice A0_2 l0_2.length c0_2] 51 (fun gb874 hg w5 hbox hb => ?_); have n0_ := a0_ (below_step bq0_ hb); have n1_ := a0_ (hbox); have n2_ := a0_ (gw_ hg : w.heap.size ≤ gb874); have n3_ := n2_; clear HB; have HB := n0_; have BK874 := n1_; have GW874 := n2_; have GE874 := n3_; clear n0_ n1_ n2_ n3_; clear hb hbox hg))
  go_ret
  exact ⟨rr_, bq1_⟩
 rw [if_neg c4] at H
 have c4b0 := decide_eq_false c4
 have c4b1 : decide (1048576 < a1.size) = false := decide_eq_false (by omega)
 clear c4
 obtain ⟨t875, A60, H⟩ := Option.bind_eq_some_iff.mp H
 have A6 := a0_ A60
 clear A60
 by_cases c7 : t875 < 0
 case pos =>
  rw [if_pos c7] at H
  have c7b0 := decide_eq_true c7
  clear c7
  obtain rfl := Option.some.inj H
  go_enter Tryz.func10, Tryz.ntmps10
  go_wp2_with (first | ((with_reducible refine gate_dst (N := 3) rfl ?_); refine boxS_ 3 #[.string a0_0, .int .i64 a0_1, .slice A0_2 l0_2.length c0_2] 51 (fun gb874 hg w8 hbox hb => ?_); have n0_ := a0_ (below_step bq0_ hb); have n1_ := a0_ (hbox); have n2_ := a0_ (gw_ hg : w.heap.size ≤ gb874); have n3_ := n2_; clear HB; have HB := n0_; have BK874 := n1_; have GW874 := n2_; have GE874 := n3_; clear n0_ n1_ n2_ n3_; clear hb hbox hg; obtain ⟨z9_0, z9_1, z9_2, q9_0, q9_1, q9_2⟩ := bk3_ BK874.out) | ((with_reducible refine gate_callee (f := 32) rfl ?_); refine goesL_ (some 23) rfl rfl Tryz.func32 (by kernel_rfl) rfl #[.agg #[.string a0_0, .int .i64 a0_1, .slice A0_2 l0_2.length c0_2], .int .i64 1048576] rfl argsS_ ?_; (with_reducible refine (laws_szZone.calls k a0_0 a0_1 _ _ l0_2 1048576 t875 _ ?side1 ?side2 A6.out).mono ?_); (case side1 => exact kC_ HR0_2.out HB.out); (case side2 => exact HC0_2.out); rintro e w10 ⟨rfl, hb⟩; refine ⟨_, rfl, ?_⟩; replace BK874 := a0_ (bkB_ BK874 hb); replace HB := a0_ (below_step bq1_ hb); (try clear hb); (try clear hb2); (try clear hk); (try clear hi)))
  go_ret
  exact ⟨rr_, bq1_⟩
 rw [if_neg c7] at H
 have c7b0 := decide_eq_false c7
 clear c7
 obtain ⟨⟨t876, t877, t878⟩, A110, H⟩ := Option.bind_eq_some_iff.mp H
 have A11 := a0_ A110
 clear A110
 obtain ⟨⟨t881, t884⟩, A120, H⟩ := Option.bind_eq_some_iff.mp H
 have A12 := a0_ A120
 clear A120
 obtain ⟨⟨t885, t886, t887⟩, A130, H⟩ := Option.bind_eq_some_iff.mp H
 have A13 := a0_ A130
 clear A130
 obtain ⟨⟨t891, t894⟩, A140, H⟩ := Option.bind_eq_some_iff.mp H
 have A14 := a0_ A140
 clear A140
 have HC15 := a0_ H
 clear H
 go_enter Tryz.func10, Tryz.ntmps10
 go_upto_region 10 with (first | ((with_reducible refine gate_dst (N := 3) rfl ?_); refine boxS_ 3 #[.string a0_0, .int .i64 a0_1, .slice A0_2 l0_2.length c0_2] 51 (fun gb874 hg w16 hbox hb => ?_); have n0_ := a0_ (below_step bq0_ hb); have n1_ := a0_ (hbox); have n2_ := a0_ (gw_ hg : w.heap.size ≤ gb874); have n3_ := n2_; clear HB; have HB := n0_; have BK874 := n1_; have GW874 := n2_; have GE874 := n3_; clear n0_ n1_ n2_ n3_; clear hb hbox hg; obtain ⟨z17_0, z17_1, z17_2, q17_0, q17_1, q17_2⟩ := bk3_ BK874.out) | ((with_reducible refine gate_callee (f := 32) rfl ?_); refine goesL_ (some 23) rfl rfl Tryz.func32 (by kernel_rfl) rfl #[.agg #[.string a0_0, .int .i64 a0_1, .slice A0_2 l0_2.length c0_2], .int .i64 1048576] rfl argsS_ ?_; (with_reducible refine (laws_szZone.calls k a0_0 a0_1 _ _ l0_2 1048576 t875 _ ?side1 ?side2 A6.out).mono ?_); (case side1 => exact kC_ HR0_2.out HB.out); (case side2 => exact HC0_2.out); rintro e w18 ⟨rfl, hb⟩; refine ⟨_, rfl, ?_⟩; replace BK874 := a0_ (bkB_ BK874 hb); replace HB := a0_ (below_step bq1_ hb); (try clear hb); (try clear hb2); (try clear hk); (try clear hi); obtain ⟨z19_0, z19_1, z19_2, q19_0, q19_1, q19_2⟩ := bk3_ BK874.out) | ((with_reducible refine gate_callee (f := 34) rfl ?_); refine goesL_ (some 28) rfl rfl Tryz.func34 (by kernel_rfl) rfl #[.agg #[.string a0_0, .int .i64 a0_1, .slice A0_2 l0_2.length c0_2]] rfl argsS_ ?_; (with_reducible refine (laws_toZone.calls k a0_0 a0_1 _ _ l0_2 t876 t877 t878 _ ?side1 ?side2 A11.out).mono ?_); (case side1 => exact kC_ HR0_2.out HB.out); (case side2 => exact HC0_2.out); rintro e w20 ⟨v879, rfl, ho0, hb⟩; refine ⟨_, rfl, ?_⟩; have HO880 := a0_ (Kd.R_lower ho0 (below_size bq1_)); replace BK874 := a0_ (bkB_ BK874 hb); replace HB := a0_ (below_step bq1_ hb); (try clear hb); (try clear hb2); (try clear hk); (try clear hi); (try clear ho0); obtain ⟨Ao21, co21, eo21⟩ := Kd.R_slice HO880.out; subst eo21) | ((with_reducible refine gate_callee (f := 40) rfl ?_); refine goesL_ (some 31) rfl rfl Tryz.func40 (by kernel_rfl) rfl #[.agg #[.string t876, .int .i64 t877, .slice Ao21 t878.length co21], .string a1, .int .i64 a2] rfl argsS_ ?_; (with_reducible refine (spec_SetIn.calls k t876 t877 _ _ t878 a1 a2 t881 t884 _ ?side1 ?side2 A12.out).mono ?_); (case side1 => exact kD_ (Kd.R_reads' HO880.out).2.2); (case side2 => exact (Kd.R_reads' HO880.out).2.1); rintro e w22 ⟨v882, rfl, ho0, hb⟩; refine ⟨_, rfl, ?_⟩; have n0_ := a0_ (Kd.R_elder' (kR_ HO880.out) (Kd.R_base ho0) hb); have n1_ := a0_ (Kd.R_lower (Kd.R_new' ho0 (Kd.R_lt (kR_ HO880.out))) (below_size bq1_)); have n2_ := a0_ (bkB_ BK874 hb); have n3_ := a0_ (below_step bq1_ hb); clear HO880; clear BK874; clear HB; have HO880 := n0_; have HO883 := n1_; have BK874 := n2_; have HB := n3_; clear n0_ n1_ n2_ n3_; (try clear hb); (try clear hb2); (try clear hk); (try clear hi); (try clear ho0); obtain ⟨z23_0, z23_1, z23_2, q23_0, q23_1, q23_2⟩ := bk3_ BK874.out) | ((with_reducible refine gate_callee (f := 34) rfl ?_); refine goesL_ (some 35) rfl rfl Tryz.func34 (by kernel_rfl) rfl #[.agg #[.string a0_0, .int .i64 a0_1, .slice A0_2 l0_2.length c0_2]] rfl argsS_ ?_; (with_reducible refine (laws_toZone.calls k a0_0 a0_1 _ _ l0_2 t885 t886 t887 _ ?side1 ?side2 A13.out).mono ?_); (case side1 => exact kC_ HR0_2.out HB.out); (case side2 => exact HC0_2.out); rintro e w24 ⟨v888, rfl, ho0, hb⟩; refine ⟨_, rfl, ?_⟩; have n0_ := a0_ (Kd.R_elder' (kR_ HO880.out) (Kd.R_base ho0) hb); have n1_ := a0_ (Kd.R_elder' (kR_ HO883.out) (Kd.R_base ho0) hb); have n2_ := a0_ (Kd.R_lower (Kd.R_new' (Kd.R_new' ho0 (Kd.R_lt (kR_ HO880.out))) (Kd.R_lt (kR_ HO883.out))) (below_size bq1_)); have n3_ := a0_ (bkB_ BK874 hb); have n4_ := a0_ (below_step bq1_ hb); clear HO880; clear HO883; clear BK874; clear HB; have HO880 := n0_; have HO883 := n1_; have HO889 := n2_; have BK874 := n3_; have HB := n4_; clear n0_ n1_ n2_ n3_ n4_; (try clear hb); (try clear hb2); (try clear hk); (try clear hi); (try clear ho0)) | ((with_reducible refine gate_dst (N := 10) rfl ?_); refine boxS_ 10 #[.string (⟨#[]⟩ : ByteArray), .int .i64 0, .slice none 0 0] 42 (fun gb890 hg w25 hbox hb => ?_); have n0_ := a0_ (Kd.R_below (kR_ HO880.out) hb); have n1_ := a0_ (Kd.R_below (kR_ HO883.out) hb); have n2_ := a0_ (Kd.R_below (kR_ HO889.out) hb); have n3_ := a0_ (bkB_ BK874 hb); have n4_ := a0_ (below_step bq1_ hb); have n5_ := a0_ (hbox); have n6_ := a0_ (gw_ hg (below_size bq1_) : w.heap.size ≤ gb890); have n7_ := n6_; have n8_ := a0_ ((by rw [hg]; exact Nat.ne_of_lt (blk_lt (g := gb874) (o := .cells #[.string a0_0, .int .i64 a0_1, .slice A0_2 l0_2.length c0_2] 51 (0, 0)) (kB_ BK874.out)) : gb874 ≠ gb890)); have n9_ := a0_ ((by rw [hg]; exact Nat.ne_of_gt (blk_lt (g := gb874) (o := .cells #[.string a0_0, .int .i64 a0_1, .slice A0_2 l0_2.length c0_2] 51 (0, 0)) (kB_ BK874.out)) : gb890 ≠ gb874)); clear HO880; clear HO883; clear HO889; clear BK874; clear HB; have HO880 := n0_; have HO883 := n1_; have HO889 := n2_; have BK874 := n3_; have HB := n4_; have BK890 := n5_; have GW890 := n6_; have GE890 := n7_; have NB874_890 := n8_; have NB890_874 := n9_; clear n0_ n1_ n2_ n3_ n4_ n5_ n6_ n7_ n8_ n9_; clear hb hbox hg; have hnb26 := NB890_874.out; have hnc26 := NB874_890.out; obtain ⟨z27_0, z27_1, z27_2, q27_0, q27_1, q27_2⟩ := bk3_ BK890.out; obtain ⟨Ao28, co28, eo28⟩ := Kd.R_slice HO889.out; subst eo28) | ((with_reducible refine gate_callee (f := 41) rfl ?_); refine goesL_ (some 40) rfl rfl Tryz.func41 (by kernel_rfl) rfl #[.agg #[.string t885, .int .i64 t886, .slice Ao28 t887.length co28], .string a1, .int .i64 a2] rfl argsS_ ?_; (with_reducible refine (impl_SetIn.calls k t885 t886 _ _ t887 a1 a2 t891 t894 _ ?side1 ?side2 A14.out).mono ?_); (case side1 => refine (Kd.R_reads' (e := 72) (base := w.heap.size) (ok := fun k_ => ((True ∧ nw_ k_ Ao21 t878.length co21) ∧ some k_ ≠ (v882 : Value).ownBlock)) (n := t887.length) (c := co28) ?_).2.2; exact (kR_ (farR3_ HO889.out BK890.out))); (case side2 => exact (Kd.R_reads' HO889.out).2.1); rintro e w29 ⟨v892, rfl, ho0, hb⟩; refine ⟨_, rfl, ?_⟩; have n0_ := a0_ (Kd.R_elder' (kR_ (farR3_ HO880.out BK890.out)) (Kd.R_base ho0) hb); have n1_ := a0_ (Kd.R_elder' (kR_ (farR3_ HO883.out BK890.out)) (Kd.R_base ho0) hb); have n2_ := a0_ (Kd.R_elder' (kR_ (farR3_ HO889.out BK890.out)) (Kd.R_base ho0) hb); have n3_ := a0_ (Kd.R_lower (Kd.R_new' (Kd.R_new' (Kd.R_new' ho0 (Kd.R_lt (kR_ (farR3_ HO880.out BK890.out)))) (Kd.R_lt (kR_ (farR3_ HO883.out BK890.out)))) (Kd.R_lt (kR_ (farR3_ HO889.out BK890.out)))) (below_size bq1_)); have n4_ := a0_ (blk_below (g := gb874) (o := .cells #[.string a0_0, .int .i64 a0_1, .slice A0_2 l0_2.length c0_2] 51 (0, 0)) (bfar3_ NB874_890.out BK874.out) hb); have n5_ := a0_ (blk_below (g := gb890) (o := .cells #[.string t885, .int .i64 t886, .slice Ao28 t887.length co28] 42 (0, 0)) (put3_ BK890.out) hb); have n6_ := a0_ (below_step bq1_ hb); clear HO880; clear HO883; clear HO889; clear BK874; clear BK890; clear HB; have HO880 := n0_; have HO883 := n1_; have HO889 := n2_; have HO893 := n3_; have BK874 := n4_; have BK890 := n5_; have HB := n6_; clear n0_ n1_ n2_ n3_ n4_ n5_ n6_; (try clear hb); (try clear hb2); (try clear hk); (try clear hi); (try clear ho0)))
 (try simp only [Act.put, List.setIfInBounds_toArray, List.set_cons_zero, List.set_cons_succ])
 go_cut [51] (fun v51 wc => ∃ (kq : Nat) (x51_14 : Bool), v51 = .bool x51_14 ∧ Aside0 (laws_FnExactSetIn.j0 kq a1 a2 t881 t884 t891 t894 x51_14 a0_0 a0_1 l0_2 t885 t886 t887 = some r) ∧ Aside0 (kq ≤ k) ∧ Aside0 (Kd.R k72 72 wc w.heap.size (fun k_ => some k_ ≠ (v892 : Value).ownBlock ∧ some k_ ≠ ((.slice Ao28 t887.length co28) : Value).ownBlock) v882 t881) ∧ Aside0 (Kd.R k72 72 wc w.heap.size (fun k_ => some k_ ≠ (v882 : Value).ownBlock ∧ some k_ ≠ ((.slice Ao28 t887.length co28) : Value).ownBlock) v892 t891) ∧ Aside0 (Kd.R k72 72 wc w.heap.size (fun k_ => some k_ ≠ (v882 : Value).ownBlock ∧ some k_ ≠ (v892 : Value).ownBlock) (.slice Ao28 t887.length co28) t887) ∧ Aside0 (wc.heap[gb874]? = some (.cells #[.string a0_0, .int .i64 a0_1, (.slice A0_2 l0_2.length c0_2)] 51 (0, 0))) ∧ Aside0 (wc.heap[gb890]? = some (.cells #[.string t885, .int .i64 t886, (.slice Ao28 t887.length co28)] 42 (0, 0))) ∧ Aside0 (Below w.heap.size w wc))
 case first =>
  have H := HC15.out
  clear HC15
  obtain ⟨t895, A300, H⟩ := Option.bind_eq_some_iff.mp H
  have A30 := a0_ A300
  clear A300
  by_cases c31 : t895 = true
  case pos =>
   subst c31
   rw [if_pos rfl] at H
   have H' := a0_ H
   clear H
   obtain ⟨Ao32, co32, eo32⟩ := Kd.R_slice HO893.out
   subst eo32
   obtain ⟨Ao33, co33, eo33⟩ := Kd.R_slice HO883.out
   subst eo33
   go_wp2_with (first | ((with_reducible refine gate_callee (f := 23) rfl ?_); refine goesL_ (some 45) rfl rfl Tryz.func23 (by kernel_rfl) rfl #[.slice Ao32 t891.length co32, .slice Ao33 t881.length co33] rfl argsS_ ?_; (with_reducible refine (laws_eqRecordS.calls k _ _ t891 _ _ t881 true _ ?side1 ?side2 ?side3 ?side4 A30.out).mono ?_); (case side1 => exact kD_ (Kd.R_reads' HO893.out).2.2); (case side2 => exact (Kd.R_reads' HO893.out).2.1); (case side3 => exact kD_ (Kd.R_reads' HO883.out).2.2); (case side4 => exact (Kd.R_reads' HO883.out).2.1); rintro e w34 ⟨rfl, hb⟩; refine ⟨_, rfl, ?_⟩; replace HO880 := a0_ (Kd.R_below (kR_ HO880.out) hb); replace HO883 := a0_ (Kd.R_below (kR_ HO883.out) hb); replace HO889 := a0_ (Kd.R_below (kR_ HO889.out) hb); replace HO893 := a0_ (Kd.R_below (kR_ HO893.out) hb); replace BK874 := a0_ (bkB_ BK874 hb); replace BK890 := a0_ (bkB_ BK890 hb); replace HB := a0_ (below_step bq1_ hb); (try clear hb); (try clear hb2); (try clear hk); (try clear hi)))
   go_meet
   case rel => exact ⟨_, ((t894 != t884)), rs_, H', ⟨by first | omega | exact Nat.le_refl _⟩, ⟨by (with_reducible repeat (first | apply Kd.R_alloc | apply Kd.R_drewN | apply Kd.R_drew)); exact Kd.R_mono HO883.out (fun _ hk => ⟨hk.2, hk.1.2⟩)⟩, ⟨by (with_reducible repeat (first | apply Kd.R_alloc | apply Kd.R_drewN | apply Kd.R_drew)); exact Kd.R_mono HO893.out (fun _ hk => ⟨hk.1.2, hk.2⟩)⟩, ⟨by (with_reducible repeat (first | apply Kd.R_alloc | apply Kd.R_drewN | apply Kd.R_drew)); exact Kd.R_mono HO889.out (fun _ hk => ⟨hk.1.2, hk.2⟩)⟩, ⟨by (with_reducible repeat (first | refine blk_drewN ?_ _ | refine blk_drew ?_ | refine blk_alloc ?_ _)); exact BK874.out⟩, ⟨by (with_reducible repeat (first | refine blk_drewN ?_ _ | refine blk_drew ?_ | refine blk_alloc ?_ _)); exact BK890.out⟩, ⟨bq1_⟩⟩
  replace c31 := Bool.eq_false_iff.mpr c31
  subst c31
  rw [if_neg (show ¬ (false = true) by decide)] at H
  have H' := a0_ H
  clear H
  obtain ⟨Ao35, co35, eo35⟩ := Kd.R_slice HO893.out
  subst eo35
  obtain ⟨Ao36, co36, eo36⟩ := Kd.R_slice HO883.out
  subst eo36
  go_wp2_with (first | ((with_reducible refine gate_callee (f := 23) rfl ?_); refine goesL_ (some 45) rfl rfl Tryz.func23 (by kernel_rfl) rfl #[.slice Ao35 t891.length co35, .slice Ao36 t881.length co36] rfl argsS_ ?_; (with_reducible refine (laws_eqRecordS.calls k _ _ t891 _ _ t881 false _ ?side1 ?side2 ?side3 ?side4 A30.out).mono ?_); (case side1 => exact kD_ (Kd.R_reads' HO893.out).2.2); (case side2 => exact (Kd.R_reads' HO893.out).2.1); (case side3 => exact kD_ (Kd.R_reads' HO883.out).2.2); (case side4 => exact (Kd.R_reads' HO883.out).2.1); rintro e w37 ⟨rfl, hb⟩; refine ⟨_, rfl, ?_⟩; replace HO880 := a0_ (Kd.R_below (kR_ HO880.out) hb); replace HO883 := a0_ (Kd.R_below (kR_ HO883.out) hb); replace HO889 := a0_ (Kd.R_below (kR_ HO889.out) hb); replace HO893 := a0_ (Kd.R_below (kR_ HO893.out) hb); replace BK874 := a0_ (bkB_ BK874 hb); replace BK890 := a0_ (bkB_ BK890 hb); replace HB := a0_ (below_step bq1_ hb); (try clear hb); (try clear hb2); (try clear hk); (try clear hi)))
  go_meet
  case rel => exact ⟨_, (true), rs_, H', ⟨by first | omega | exact Nat.le_refl _⟩, ⟨by (with_reducible repeat (first | apply Kd.R_alloc | apply Kd.R_drewN | apply Kd.R_drew)); exact Kd.R_mono HO883.out (fun _ hk => ⟨hk.2, hk.1.2⟩)⟩, ⟨by (with_reducible repeat (first | apply Kd.R_alloc | apply Kd.R_drewN | apply Kd.R_drew)); exact Kd.R_mono HO893.out (fun _ hk => ⟨hk.1.2, hk.2⟩)⟩, ⟨by (with_reducible repeat (first | apply Kd.R_alloc | apply Kd.R_drewN | apply Kd.R_drew)); exact Kd.R_mono HO889.out (fun _ hk => ⟨hk.1.2, hk.2⟩)⟩, ⟨by (with_reducible repeat (first | refine blk_drewN ?_ _ | refine blk_drew ?_ | refine blk_alloc ?_ _)); exact BK874.out⟩, ⟨by (with_reducible repeat (first | refine blk_drewN ?_ _ | refine blk_drew ?_ | refine blk_alloc ?_ _)); exact BK890.out⟩, ⟨bq1_⟩⟩
 case rest =>
  clear HC15
  try clear c1
  try clear c2
  try clear p2
  try clear c3
  try clear c4
  try clear c4b0
  try clear c4b1
  try clear c7
  try clear c7b0
  try clear c10
  try clear c23
  try clear c26
  try clear c31
  try clear c32
  try clear c34
  try clear z17_0 z17_1 z17_2
  try clear z19_0 z19_1 z19_2
  try clear z23_0 z23_1 z23_2
  try clear z27_0 z27_1 z27_2
  try clear z9_0 z9_1 z9_2
  try clear q17_0 q17_1 q17_2
  try clear q19_0 q19_1 q19_2
  try clear q23_0 q23_1 q23_2
  try clear q27_0 q27_1 q27_2
  try clear q9_0 q9_1 q9_2
  obtain ⟨kq, x51_14, rfl, HA, HJ14, HO_8, HO_11, HO_891002, BK874, BK890, HB⟩ := hcut
  cases kq with
  | zero => exact absurd HA.out (by simp [laws_FnExactSetIn.j0])
  | succ kj14 =>
   have H := HA.out
   clear HA
   simp only [laws_FnExactSetIn.j0] at H
   by_cases c38 : x51_14 = true
   case pos =>
    subst c38
    rw [if_pos rfl] at H
    obtain rfl := Option.some.inj H
    go_wp2
    go_ret
    exact ⟨rr_, bq1_⟩
   replace c38 := Bool.eq_false_iff.mpr c38
   subst c38
   rw [if_neg (show ¬ (false = true) by decide)] at H
   obtain ⟨⟨t896, t897, t898⟩, A390, H⟩ := Option.bind_eq_some_iff.mp H
   have A39 := a0_ A390
   clear A390
   obtain ⟨t901, A400, H⟩ := Option.bind_eq_some_iff.mp H
   have A40 := a0_ A400
   clear A400
   by_cases c41 : t901 = true
   case neg =>
    replace c41 := Bool.eq_false_iff.mpr c41
    subst c41
    rw [if_neg (show ¬ (false = true) by decide)] at H
    obtain rfl := Option.some.inj H
    try go_wp2
    replace HO_8 := a0_ (Kd.R_drew HO_8.out)
    replace HO_11 := a0_ (Kd.R_drew HO_11.out)
    replace HO_891002 := a0_ (Kd.R_drew HO_891002.out)
    replace BK874 := a0_ (blk_drew BK874.out)
    replace BK890 := a0_ (blk_drew BK890.out)
    replace HB := a0_ (below_drew1 HB.out)
    refine start_ (n := 5) (S := fun w' => w'.cell? ⟨gb890, 0, none⟩ = some (.string t885) ∧ w'.cell? ⟨gb890, 1, none⟩ = some (.int .i64 t886) ∧ w'.cell? ⟨gb890, 2, none⟩ = some (.slice Ao28 t887.length co28) ∧ w'.cell? ⟨gb874, 0, none⟩ = some (.string a0_0) ∧ w'.cell? ⟨gb874, 1, none⟩ = some (.int .i64 a0_1) ∧ w'.cell? ⟨gb874, 2, none⟩ = some (.slice A0_2 l0_2.length c0_2)) (ds := []) #[false, false, false, false, false] (by kernel_rfl) rfl rfl ⟨(blk_cell BK890.out 0).trans rfl, (blk_cell BK890.out 1).trans rfl, (blk_cell BK890.out 2).trans rfl, (blk_cell BK874.out 0).trans rfl, (blk_cell BK874.out 1).trans rfl, (blk_cell BK874.out 2).trans rfl⟩ (fun hHeld => ?_)
    generalize wc.drew = w97 at HO_8 HO_11 HO_891002 BK874 BK890 HB hHeld ⊢
    refine take_ (i := 0) (N := some 52) (v := ?_) (a' := ?_) #[true, false, false, false, false] rfl rfl (by kernel_rfl) (fun _ _ _ h => h) (Or.inl ⟨by rfl, ?_⟩) hHeld ?_ ?_
    rotate_left
    · rintro w' ⟨s0, s1, s2, s3, s4, s5⟩
      go_simp
      with_reducible rfl
    rotate_left
    · simp only [Act.put, List.setIfInBounds_toArray, List.set_cons_zero, List.set_cons_succ, i64_w, i32_w]
      rfl
    refine take_ (i := 1) (N := some 53) (v := ?_) (a' := ?_) #[true, true, false, false, false] rfl rfl (by kernel_rfl) (fun _ _ _ h => h) (Or.inl ⟨by rfl, ?_⟩) hHeld ?_ ?_
    rotate_left
    · rintro w' ⟨s0, s1, s2, s3, s4, s5⟩
      go_simp
      with_reducible rfl
    rotate_left
    · simp only [Act.put, List.setIfInBounds_toArray, List.set_cons_zero, List.set_cons_succ, i64_w, i32_w]
      rfl
    refine one_ (i := 2) (N := some 54) #[true, true, true, false, false] rfl rfl (by kernel_rfl) (by decide) (fun K hK => ?_)
    refine goes_ Tryz.func34 (by kernel_rfl) rfl #[.agg #[.string a0_0, .int .i64 a0_1, .slice A0_2 l0_2.length c0_2]] (by rfl) rfl rfl argsS_ ?_
    with_reducible refine (laws_toZone.calls kj14 a0_0 a0_1 _ _ l0_2 t896 t897 t898 _ ?side1 ?side2 A39.out).mono ?_
    (case side1 => exact kC_ HR0_2.out HB.out)
    (case side2 => exact HC0_2.out)
    rintro e w98 ⟨v899, rfl, ho0, hb⟩
    refine ⟨_, rfl, ?_⟩
    have n0_ := a0_ (Kd.R_elder' (kR_ HO_8.out) (Kd.R_base ho0) hb)
    have n1_ := a0_ (Kd.R_elder' (kR_ HO_11.out) (Kd.R_base ho0) hb)
    have n2_ := a0_ (Kd.R_elder' (kR_ HO_891002.out) (Kd.R_base ho0) hb)
    have n3_ := a0_ (Kd.R_lower (Kd.R_new' (Kd.R_new' (Kd.R_new' ho0 (Kd.R_lt (kR_ HO_8.out))) (Kd.R_lt (kR_ HO_11.out))) (Kd.R_lt (kR_ HO_891002.out))) (below_size bq1_))
    have n4_ := a0_ (bkB_ BK874 hb)
    have n5_ := a0_ (bkB_ BK890 hb)
    have n6_ := a0_ (below_step bq1_ hb)
    clear HO_8
    clear HO_11
    clear HO_891002
    clear BK874
    clear BK890
    clear HB
    have HO_8 := n0_
    have HO_11 := n1_
    have HO_891002 := n2_
    have HO900 := n3_
    have BK874 := n4_
    have BK890 := n5_
    have HB := n6_
    clear n0_ n1_ n2_ n3_ n4_ n5_ n6_
    (try clear hb)
    (try clear hb2)
    (try clear hk)
    (try clear hi)
    (try clear ho0)
    obtain ⟨Ao99, co99, eo99⟩ := Kd.R_slice HO900.out
    (first | subst eo99 | (injection eo99 with f1_ f2_ f3_; have f4_ := f1_.symm; have f5_ := f3_.symm; clear f1_ f2_ f3_; subst f4_; subst f5_))
    refine hK.out _ _ ⟨(blk_cell BK890.out 0).trans rfl, (blk_cell BK890.out 1).trans rfl, (blk_cell BK890.out 2).trans rfl, (blk_cell BK874.out 0).trans rfl, (blk_cell BK874.out 1).trans rfl, (blk_cell BK874.out 2).trans rfl⟩ (fun hHeld => ?_)
    clear hK K
    refine normS_ ?_
    refine one_ (i := 3) (N := some 55) #[true, true, true, true, false] rfl rfl (by kernel_rfl) (by decide) (fun K hK => ?_)
    refine goes_ Tryz.func27 (by kernel_rfl) rfl #[.agg #[.string t885, .int .i64 t886, .slice Ao28 t887.length co28], .agg #[.string t896, .int .i64 t897, .slice Ao99 t898.length co99]] (by rfl) rfl rfl argsS_ ?_
    with_reducible refine (laws_eqZone.calls kj14 t885 t886 _ _ t887 t896 t897 _ _ t898 false _ ?side1 ?side2 ?side3 ?side4 A40.out).mono ?_
    (case side1 => exact kD_ (Kd.R_reads' HO_891002.out).2.2)
    (case side2 => exact (Kd.R_reads' HO_891002.out).2.1)
    (case side3 => exact kD_ (Kd.R_reads' HO900.out).2.2)
    (case side4 => exact (Kd.R_reads' HO900.out).2.1)
    rintro e w100 ⟨rfl, hb⟩
    refine ⟨_, rfl, ?_⟩
    replace HO_8 := a0_ (Kd.R_below (kR_ HO_8.out) hb)
    replace HO_11 := a0_ (Kd.R_below (kR_ HO_11.out) hb)
    replace HO_891002 := a0_ (Kd.R_below (kR_ HO_891002.out) hb)
    replace HO900 := a0_ (Kd.R_below (kR_ HO900.out) hb)
    replace BK874 := a0_ (bkB_ BK874 hb)
    replace BK890 := a0_ (bkB_ BK890 hb)
    replace HB := a0_ (below_step bq1_ hb)
    (try clear hb)
    (try clear hb2)
    (try clear hk)
    (try clear hi)
    refine hK.out _ _ ⟨(blk_cell BK890.out 0).trans rfl, (blk_cell BK890.out 1).trans rfl, (blk_cell BK890.out 2).trans rfl, (blk_cell BK874.out 0).trans rfl, (blk_cell BK874.out 1).trans rfl, (blk_cell BK874.out 2).trans rfl⟩ (fun hHeld => ?_)
    clear hK K
    refine normS_ ?_
    refine pure_ (i := 4) (N := some 56) (v := ?_) (a' := ?_) #[true, true, true, true, true] rfl rfl (by kernel_rfl) (fun _ _ _ h => h) (Or.inl ⟨by rfl, ?_⟩) ?_ ?_
    rotate_left
    · intro w'
      go_simp
      with_reducible rfl
    rotate_left
    · simp only [Act.put, List.setIfInBounds_toArray, List.set_cons_zero, List.set_cons_succ, i64_w, i32_w]
      rfl
    refine done_ (by kernel_rfl) ?_
    try go_wp2
    go_ret
    exact ⟨rr_, bq1_⟩
   subst c41
   rw [if_pos rfl] at H
   obtain ⟨⟨t902, t903⟩, A420, H⟩ := Option.bind_eq_some_iff.mp H
   have A42 := a0_ A420
   clear A420
   have HC43 := a0_ H
   clear H
   try go_wp2
   replace HO_8 := a0_ (Kd.R_drew HO_8.out)
   replace HO_11 := a0_ (Kd.R_drew HO_11.out)
   replace HO_891002 := a0_ (Kd.R_drew HO_891002.out)
   replace BK874 := a0_ (blk_drew BK874.out)
   replace BK890 := a0_ (blk_drew BK890.out)
   replace HB := a0_ (below_drew1 HB.out)
   refine start_ (n := 5) (S := fun w' => w'.cell? ⟨gb890, 0, none⟩ = some (.string t885) ∧ w'.cell? ⟨gb890, 1, none⟩ = some (.int .i64 t886) ∧ w'.cell? ⟨gb890, 2, none⟩ = some (.slice Ao28 t887.length co28) ∧ w'.cell? ⟨gb874, 0, none⟩ = some (.string a0_0) ∧ w'.cell? ⟨gb874, 1, none⟩ = some (.int .i64 a0_1) ∧ w'.cell? ⟨gb874, 2, none⟩ = some (.slice A0_2 l0_2.length c0_2)) (ds := []) #[false, false, false, false, false] (by kernel_rfl) rfl rfl ⟨(blk_cell BK890.out 0).trans rfl, (blk_cell BK890.out 1).trans rfl, (blk_cell BK890.out 2).trans rfl, (blk_cell BK874.out 0).trans rfl, (blk_cell BK874.out 1).trans rfl, (blk_cell BK874.out 2).trans rfl⟩ (fun hHeld => ?_)
   generalize wc.drew = w44 at HO_8 HO_11 HO_891002 BK874 BK890 HB hHeld ⊢
   refine take_ (i := 0) (N := some 52) (v := ?_) (a' := ?_) #[true, false, false, false, false] rfl rfl (by kernel_rfl) (fun _ _ _ h => h) (Or.inl ⟨by rfl, ?_⟩) hHeld ?_ ?_
   rotate_left
   · rintro w' ⟨s0, s1, s2, s3, s4, s5⟩
     go_simp
     with_reducible rfl
   rotate_left
   · simp only [Act.put, List.setIfInBounds_toArray, List.set_cons_zero, List.set_cons_succ, i64_w, i32_w]
     rfl
   refine take_ (i := 1) (N := some 53) (v := ?_) (a' := ?_) #[true, true, false, false, false] rfl rfl (by kernel_rfl) (fun _ _ _ h => h) (Or.inl ⟨by rfl, ?_⟩) hHeld ?_ ?_
   rotate_left
   · rintro w' ⟨s0, s1, s2, s3, s4, s5⟩
     go_simp
     with_reducible rfl
   rotate_left
   · simp only [Act.put, List.setIfInBounds_toArray, List.set_cons_zero, List.set_cons_succ, i64_w, i32_w]
     rfl
   refine one_ (i := 2) (N := some 54) #[true, true, true, false, false] rfl rfl (by kernel_rfl) (by decide) (fun K hK => ?_)
   refine goes_ Tryz.func34 (by kernel_rfl) rfl #[.agg #[.string a0_0, .int .i64 a0_1, .slice A0_2 l0_2.length c0_2]] (by rfl) rfl rfl argsS_ ?_
   with_reducible refine (laws_toZone.calls kj14 a0_0 a0_1 _ _ l0_2 t896 t897 t898 _ ?side1 ?side2 A39.out).mono ?_
   (case side1 => exact kC_ HR0_2.out HB.out)
   (case side2 => exact HC0_2.out)
   rintro e w45 ⟨v899, rfl, ho0, hb⟩
   refine ⟨_, rfl, ?_⟩
   have n0_ := a0_ (Kd.R_elder' (kR_ HO_8.out) (Kd.R_base ho0) hb)
   have n1_ := a0_ (Kd.R_elder' (kR_ HO_11.out) (Kd.R_base ho0) hb)
   have n2_ := a0_ (Kd.R_elder' (kR_ HO_891002.out) (Kd.R_base ho0) hb)
   have n3_ := a0_ (Kd.R_lower (Kd.R_new' (Kd.R_new' (Kd.R_new' ho0 (Kd.R_lt (kR_ HO_8.out))) (Kd.R_lt (kR_ HO_11.out))) (Kd.R_lt (kR_ HO_891002.out))) (below_size bq1_))
   have n4_ := a0_ (bkB_ BK874 hb)
   have n5_ := a0_ (bkB_ BK890 hb)
   have n6_ := a0_ (below_step bq1_ hb)
   clear HO_8
   clear HO_11
   clear HO_891002
   clear BK874
   clear BK890
   clear HB
   have HO_8 := n0_
   have HO_11 := n1_
   have HO_891002 := n2_
   have HO900 := n3_
   have BK874 := n4_
   have BK890 := n5_
   have HB := n6_
   clear n0_ n1_ n2_ n3_ n4_ n5_ n6_
   (try clear hb)
   (try clear hb2)
   (try clear hk)
   (try clear hi)
   (try clear ho0)
   obtain ⟨Ao46, co46, eo46⟩ := Kd.R_slice HO900.out
   (first | subst eo46 | (injection eo46 with f1_ f2_ f3_; have f4_ := f1_.symm; have f5_ := f3_.symm; clear f1_ f2_ f3_; subst f4_; subst f5_))
   refine hK.out _ _ ⟨(blk_cell BK890.out 0).trans rfl, (blk_cell BK890.out 1).trans rfl, (blk_cell BK890.out 2).trans rfl, (blk_cell BK874.out 0).trans rfl, (blk_cell BK874.out 1).trans rfl, (blk_cell BK874.out 2).trans rfl⟩ (fun hHeld => ?_)
   clear hK K
   refine normS_ ?_
   refine one_ (i := 3) (N := some 55) #[true, true, true, true, false] rfl rfl (by kernel_rfl) (by decide) (fun K hK => ?_)
   refine goes_ Tryz.func27 (by kernel_rfl) rfl #[.agg #[.string t885, .int .i64 t886, .slice Ao28 t887.length co28], .agg #[.string t896, .int .i64 t897, .slice Ao46 t898.length co46]] (by rfl) rfl rfl argsS_ ?_
   with_reducible refine (laws_eqZone.calls kj14 t885 t886 _ _ t887 t896 t897 _ _ t898 true _ ?side1 ?side2 ?side3 ?side4 A40.out).mono ?_
   (case side1 => exact kD_ (Kd.R_reads' HO_891002.out).2.2)
   (case side2 => exact (Kd.R_reads' HO_891002.out).2.1)
   (case side3 => exact kD_ (Kd.R_reads' HO900.out).2.2)
   (case side4 => exact (Kd.R_reads' HO900.out).2.1)
   rintro e w47 ⟨rfl, hb⟩
   refine ⟨_, rfl, ?_⟩
   replace HO_8 := a0_ (Kd.R_below (kR_ HO_8.out) hb)
   replace HO_11 := a0_ (Kd.R_below (kR_ HO_11.out) hb)
   replace HO_891002 := a0_ (Kd.R_below (kR_ HO_891002.out) hb)
   replace HO900 := a0_ (Kd.R_below (kR_ HO900.out) hb)
   replace BK874 := a0_ (bkB_ BK874 hb)
   replace BK890 := a0_ (bkB_ BK890 hb)
   replace HB := a0_ (below_step bq1_ hb)
   (try clear hb)
   (try clear hb2)
   (try clear hk)
   (try clear hi)
   refine hK.out _ _ ⟨(blk_cell BK890.out 0).trans rfl, (blk_cell BK890.out 1).trans rfl, (blk_cell BK890.out 2).trans rfl, (blk_cell BK874.out 0).trans rfl, (blk_cell BK874.out 1).trans rfl, (blk_cell BK874.out 2).trans rfl⟩ (fun hHeld => ?_)
   clear hK K
   refine normS_ ?_
   refine pure_ (i := 4) (N := some 56) (v := ?_) (a' := ?_) #[true, true, true, true, true] rfl rfl (by kernel_rfl) (fun _ _ _ h => h) (Or.inl ⟨by rfl, ?_⟩) ?_ ?_
   rotate_left
   · intro w'
     go_simp
     with_reducible rfl
   rotate_left
   · simp only [Act.put, List.setIfInBounds_toArray, List.set_cons_zero, List.set_cons_succ, i64_w, i32_w]
     rfl
   refine done_ (by kernel_rfl) ?_
   have hnb48 := NB890_874.out
   have hnc48 := NB874_890.out
   have z49_0 : w47.cell? ⟨gb890, 0, none⟩ = some (.string t885) := (blk_cell BK890.out 0).trans rfl
   have z49_1 : w47.cell? ⟨gb890, 1, none⟩ = some (.int .i64 t886) := (blk_cell BK890.out 1).trans rfl
   have z49_2 : w47.cell? ⟨gb890, 2, none⟩ = some (.slice Ao28 t887.length co28) := (blk_cell BK890.out 2).trans rfl
   have q49_0 := blk_frozen BK890.out 0
   have q49_1 := blk_frozen BK890.out 1
   have q49_2 := blk_frozen BK890.out 2
   go_upto_region 16 with (first | ((with_reducible refine gate_callee (f := 28) rfl ?_); refine goesL_ (some 59) rfl rfl Tryz.func28 (by kernel_rfl) rfl #[.agg #[.string t885, .int .i64 t886, .slice Ao28 t887.length co28], .int .i64 1] rfl argsS_ ?_; (with_reducible refine (laws_markZone.calls kj14 t885 t886 (fun k_ => some k_ = (.slice Ao28 t887.length co28 : Value).ownBlock) (.slice Ao28 t887.length co28) t887 1 t902 t903 w _ ?side1 ?side2 A42.out).mono ?_); (case side1 => repeat (first | (with_reducible first | exact HB.out | apply below_alloc | apply pw_below_drewN | apply below_drew1 | refine below_set ?_ GE874.out | refine below_set ?_ GE890.out) | exact HB.out)); (case side2 => exact Kd.R_tight rfl HO_891002.out); rintro e w50 ⟨rfl, hy0, hb, hkp⟩; refine ⟨_, rfl, ?_⟩; have n0_ := a0_ (Kd.R_mono (ok' := fun k_ => some k_ ≠ (v892 : Value).ownBlock ∧ nw_ k_ Ao28 t887.length co28 ∧ nw_ k_ Ao46 t898.length co46) (Kd.R_keptB (HO_8.out) hkp (fun k_ hk_ hs_ => (hk_.1.2) hs_)) (fun k_ hk_ => ⟨hk_.1.1.1, hk_.1.1.2, hk_.1.2⟩)); have n1_ := a0_ (Kd.R_mono (ok' := fun k_ => some k_ ≠ (v882 : Value).ownBlock ∧ nw_ k_ Ao28 t887.length co28 ∧ nw_ k_ Ao46 t898.length co46) (Kd.R_keptB (HO_11.out) hkp (fun k_ hk_ hs_ => (hk_.1.2) hs_)) (fun k_ hk_ => ⟨hk_.1.1.1, hk_.1.1.2, hk_.1.2⟩)); have n2_ := a0_ (Kd.R_reok rfl hy0 (fun k_ e_ => HO_891002.out.1 k_ e_)); have n3_ := a0_ (blk_kept (kB_ BK874.out) hkp (fun hs_ => (fun e_ => (Kd.R_ne HO_891002.out BK874.out (by decide)) e_) hs_)); have n4_ := a0_ (blk_kept (kB_ BK890.out) hkp (fun hs_ => (fun e_ => (Kd.R_ne HO_891002.out BK890.out (by decide)) e_) hs_)); have n5_ := a0_ (Kd.R_mono (ok' := fun k_ => some k_ ≠ (v882 : Value).ownBlock ∧ some k_ ≠ (v892 : Value).ownBlock ∧ nw_ k_ Ao28 t887.length co28) (Kd.R_keptB (HO900.out) hkp (fun k_ hk_ hs_ => (hk_.2) hs_)) (fun k_ hk_ => ⟨hk_.1.1.1.2, hk_.1.1.2, hk_.1.2⟩)); have n6_ := a0_ (hb); clear HO_8; clear HO_11; clear HO_891002; clear BK874; clear BK890; clear HO900; clear HB; have HO_8 := n0_; have HO_11 := n1_; have HO_891002 := n2_; have BK874 := n3_; have BK890 := n4_; have HO900 := n5_; have HB := n6_; clear n0_ n1_ n2_ n3_ n4_ n5_ n6_; (try clear hb); (try clear hkp); (try clear hy0)))
   (try simp only [Act.put, List.setIfInBounds_toArray, List.set_cons_zero, List.set_cons_succ])
   go_cut [72] (fun v72 wc => ∃ (kq : Nat) (x72_42 : Bool), v72 = .bool x72_42 ∧ Aside0 (laws_FnExactSetIn.j1 kq a1 a2 t881 t884 t891 x72_42 a0_0 a0_1 l0_2 = some r) ∧ Aside0 (kq ≤ kj14) ∧ Aside0 (Kd.R k72 72 wc w.heap.size (fun k_ => some k_ ≠ (v892 : Value).ownBlock ∧ some k_ ≠ ((.slice Ao28 t887.length co28) : Value).ownBlock) v882 t881) ∧ Aside0 (Kd.R k72 72 wc w.heap.size (fun k_ => some k_ ≠ (v882 : Value).ownBlock ∧ some k_ ≠ ((.slice Ao28 t887.length co28) : Value).ownBlock) v892 t891) ∧ Aside0 (Kd.R k72 72 wc w.heap.size (fun k_ => some k_ ≠ (v882 : Value).ownBlock ∧ some k_ ≠ (v892 : Value).ownBlock) (.slice Ao28 t887.length co28) t903) ∧ Aside0 (wc.heap[gb874]? = some (.cells #[.string a0_0, .int .i64 a0_1, (.slice A0_2 l0_2.length c0_2)] 51 (0, 0))) ∧ Aside0 (wc.heap[gb890]? = some (.cells #[.string t885, .int .i64 t886, (.slice Ao28 t887.length co28)] 42 (0, 0))) ∧ Aside0 (Below w.heap.size w wc))
   case first =>
    have H := HC43.out
    clear HC43
    by_cases c51 : t902 < 0
    case pos =>
     rw [if_pos c51] at H
     have c51b0 := decide_eq_true c51
     clear c51
     (first | rw [c51b0] | (simp only [i64_w, i32_w]; rw [c51b0]) | skip)
     have H' := a0_ H
     clear H
     go_wp2
     go_meet
     case rel => exact ⟨_, (true), rs_, H', ⟨by have := HJ14.out; first | omega | exact Nat.le_refl _⟩, ⟨by (with_reducible repeat (first | apply Kd.R_alloc | apply Kd.R_drewN | apply Kd.R_drew)); exact Kd.R_mono HO_8.out (fun _ hk => ⟨hk.1, hk.2.1⟩)⟩, ⟨by (with_reducible repeat (first | apply Kd.R_alloc | apply Kd.R_drewN | apply Kd.R_drew)); exact Kd.R_mono HO_11.out (fun _ hk => ⟨hk.1, hk.2.1⟩)⟩, ⟨by (with_reducible repeat (first | apply Kd.R_alloc | apply Kd.R_drewN | apply Kd.R_drew)); exact Kd.R_mono HO_891002.out (fun _ hk => ⟨hk.1.1, hk.1.2⟩)⟩, ⟨by (with_reducible repeat (first | refine blk_drewN ?_ _ | refine blk_drew ?_ | refine blk_alloc ?_ _)); exact BK874.out⟩, ⟨by (with_reducible repeat (first | refine blk_drewN ?_ _ | refine blk_drew ?_ | refine blk_alloc ?_ _)); exact BK890.out⟩, ⟨bq1_⟩⟩
    rw [if_neg c51] at H
    have c51b0 := decide_eq_false c51
    clear c51
    (first | rw [c51b0] | (simp only [i64_w, i32_w]; rw [c51b0]) | skip)
    obtain ⟨t904, A520, H⟩ := Option.bind_eq_some_iff.mp H
    have A52 := a0_ A520
    clear A520
    by_cases c53 : t904 = true
    case pos =>
     subst c53
     rw [if_pos rfl] at H
     have H' := a0_ H
     clear H
     obtain ⟨Ao54, co54, eo54⟩ := Kd.R_slice HO_11.out
     subst eo54
     obtain ⟨Ao55, co55, eo55⟩ := Kd.R_slice HO_8.out
     subst eo55
     go_wp2_with (first | (go_at_call 23; (with_reducible refine (laws_eqRecordS.calls kj14 _ _ t891 _ _ t881 true _ ?side1 ?side2 ?side3 ?side4 A52.out).mono ?_); (case side1 => exact kD_ (Kd.R_reads' HO_11.out).2.2); (case side2 => exact (Kd.R_reads' HO_11.out).2.1); (case side3 => exact kD_ (Kd.R_reads' HO_8.out).2.2); (case side4 => exact (Kd.R_reads' HO_8.out).2.1); rintro e w56 ⟨rfl, hb⟩; replace HO_8 := a0_ (Kd.R_below (kR_ HO_8.out) hb); replace HO_11 := a0_ (Kd.R_below (kR_ HO_11.out) hb); replace HO_891002 := a0_ (Kd.R_below (kR_ HO_891002.out) hb); replace HO900 := a0_ (Kd.R_below (kR_ HO900.out) hb); replace BK874 := a0_ (bkB_ BK874 hb); replace BK890 := a0_ (bkB_ BK890 hb); replace HB := a0_ (below_step bq1_ hb); (try clear hb); (try clear hb2); (try clear hk); (try clear hi)))
     go_meet
     case rel => exact ⟨_, ((t894 != t884)), rs_, H', ⟨by have := HJ14.out; first | omega | exact Nat.le_refl _⟩, ⟨by (with_reducible repeat (first | apply Kd.R_alloc | apply Kd.R_drewN | apply Kd.R_drew)); exact Kd.R_mono HO_8.out (fun _ hk => ⟨hk.1, hk.2.1⟩)⟩, ⟨by (with_reducible repeat (first | apply Kd.R_alloc | apply Kd.R_drewN | apply Kd.R_drew)); exact Kd.R_mono HO_11.out (fun _ hk => ⟨hk.1, hk.2.1⟩)⟩, ⟨by (with_reducible repeat (first | apply Kd.R_alloc | apply Kd.R_drewN | apply Kd.R_drew)); exact Kd.R_mono HO_891002.out (fun _ hk => ⟨hk.1.1, hk.1.2⟩)⟩, ⟨by (with_reducible repeat (first | refine blk_drewN ?_ _ | refine blk_drew ?_ | refine blk_alloc ?_ _)); exact BK874.out⟩, ⟨by (with_reducible repeat (first | refine blk_drewN ?_ _ | refine blk_drew ?_ | refine blk_alloc ?_ _)); exact BK890.out⟩, ⟨bq1_⟩⟩
    replace c53 := Bool.eq_false_iff.mpr c53
    subst c53
    rw [if_neg (show ¬ (false = true) by decide)] at H
    have H' := a0_ H
    clear H
    obtain ⟨Ao57, co57, eo57⟩ := Kd.R_slice HO_11.out
    subst eo57
    obtain ⟨Ao58, co58, eo58⟩ := Kd.R_slice HO_8.out
    subst eo58
    go_wp2_with (first | (go_at_call 23; (with_reducible refine (laws_eqRecordS.calls kj14 _ _ t891 _ _ t881 false _ ?side1 ?side2 ?side3 ?side4 A52.out).mono ?_); (case side1 => exact kD_ (Kd.R_reads' HO_11.out).2.2); (case side2 => exact (Kd.R_reads' HO_11.out).2.1); (case side3 => exact kD_ (Kd.R_reads' HO_8.out).2.2); (case side4 => exact (Kd.R_reads' HO_8.out).2.1); rintro e w59 ⟨rfl, hb⟩; replace HO_8 := a0_ (Kd.R_below (kR_ HO_8.out) hb); replace HO_11 := a0_ (Kd.R_below (kR_ HO_11.out) hb); replace HO_891002 := a0_ (Kd.R_below (kR_ HO_891002.out) hb); replace HO900 := a0_ (Kd.R_below (kR_ HO900.out) hb); replace BK874 := a0_ (bkB_ BK874 hb); replace BK890 := a0_ (bkB_ BK890 hb); replace HB := a0_ (below_step bq1_ hb); (try clear hb); (try clear hb2); (try clear hk); (try clear hi)))
    go_meet
    case rel => exact ⟨_, (true), rs_, H', ⟨by have := HJ14.out; first | omega | exact Nat.le_refl _⟩, ⟨by (with_reducible repeat (first | apply Kd.R_alloc | apply Kd.R_drewN | apply Kd.R_drew)); exact Kd.R_mono HO_8.out (fun _ hk => ⟨hk.1, hk.2.1⟩)⟩, ⟨by (with_reducible repeat (first | apply Kd.R_alloc | apply Kd.R_drewN | apply Kd.R_drew)); exact Kd.R_mono HO_11.out (fun _ hk => ⟨hk.1, hk.2.1⟩)⟩, ⟨by (with_reducible repeat (first | apply Kd.R_alloc | apply Kd.R_drewN | apply Kd.R_drew)); exact Kd.R_mono HO_891002.out (fun _ hk => ⟨hk.1.1, hk.1.2⟩)⟩, ⟨by (with_reducible repeat (first | refine blk_drewN ?_ _ | refine blk_drew ?_ | refine blk_alloc ?_ _)); exact BK874.out⟩, ⟨by (with_reducible repeat (first | refine blk_drewN ?_ _ | refine blk_drew ?_ | refine blk_alloc ?_ _)); exact BK890.out⟩, ⟨bq1_⟩⟩
   case rest =>
    clear HC43
    try clear c1
    try clear c2
    try clear p2
    try clear c3
    try clear c4
    try clear c4b0
    try clear c4b1
    try clear c5
    try clear c7
    try clear c7b0
    try clear c10
    try clear c23
    try clear c26
    try clear c27
    try clear c28
    try clear c31
    try clear c32
    try clear c34
    try clear c38
    try clear c40
    try clear c41
    try clear c48
    try clear c51
    try clear c51b0
    try clear c53
    try clear z17_0 z17_1 z17_2
    try clear z19_0 z19_1 z19_2
    try clear z23_0 z23_1 z23_2
    try clear z27_0 z27_1 z27_2
    try clear z49_0 z49_1 z49_2
    try clear z9_0 z9_1 z9_2
    try clear q17_0 q17_1 q17_2
    try clear q19_0 q19_1 q19_2
    try clear q23_0 q23_1 q23_2
    try clear q27_0 q27_1 q27_2
    try clear q49_0 q49_1 q49_2
    try clear q9_0 q9_1 q9_2
    try clear p2
    obtain ⟨kq, x72_42, rfl, HA, HJ42, HO_8, HO_11, HO_891002, BK874, BK890, HB⟩ := hcut
    have hl891002_42 := (Kd.R_reads' HO_891002.out).1
    rw [hl891002_42] at HO_891002
    (try simp only [hl891002_42])
    (try simp only [hl891002_42] at BK874)
    (try simp only [hl891002_42] at BK890)
    (try simp only [hl891002_42] at HO_8)
    (try simp only [hl891002_42] at HO_11)
    cases kq with
    | zero => exact absurd HA.out (by simp [laws_FnExactSetIn.j1])
    | succ kj42 =>
     have H := HA.out
     clear HA
     simp only [laws_FnExactSetIn.j1] at H
     by_cases c60 : x72_42 = true
     case pos =>
      subst c60
      rw [if_pos rfl] at H
      obtain rfl := Option.some.inj H
      go_wp2
      go_ret
      exact ⟨rr_, bq1_⟩
     replace c60 := Bool.eq_false_iff.mpr c60
     subst c60
     rw [if_neg (show ¬ (false = true) by decide)] at H
     obtain ⟨⟨t905, t906⟩, A610, H⟩ := Option.bind_eq_some_iff.mp H
     have A61 := a0_ A610
     clear A610
     obtain ⟨t907, A620, H⟩ := Option.bind_eq_some_iff.mp H
     have A62 := a0_ A620
     clear A620
     by_cases c63 : t907 < 0
     case pos =>
      rw [if_pos c63] at H
      have c63b0 := decide_eq_true c63
      clear c63
      obtain rfl := Option.some.inj H
      obtain ⟨Ao64, co64, eo64⟩ := Kd.R_slice HO_11.out
      subst eo64
      go_wp2_with (first | ((with_reducible refine gate_callee (f := 24) rfl ?_); refine goesL_ (some 75) rfl rfl Tryz.func24 (by kernel_rfl) rfl #[.slice Ao64 t891.length co64, .int .i64 1] rfl argsS_ ?_; (with_reducible refine (laws_markRecordS.calls kj42 (fun k_ => some k_ = (.slice Ao64 t891.length co64 : Value).ownBlock) (.slice Ao64 t891.length co64) t891 1 t905 t906 w _ ?side1 ?side2 A61.out).mono ?_); (case side1 => repeat (first | (with_reducible first | exact HB.out | apply below_alloc | apply pw_below_drewN | apply below_drew1 | refine below_set ?_ GE874.out | refine below_set ?_ GE890.out) | exact HB.out)); (case side2 => exact Kd.R_tight rfl HO_11.out); rintro e w65 ⟨rfl, hy0, hb, hkp⟩; refine ⟨_, rfl, ?_⟩; have n0_ := a0_ (Kd.R_mono (ok' := fun k_ => nw_ k_ Ao64 t891.length co64 ∧ nw_ k_ Ao28 t903.length co28) (Kd.R_keptB (HO_8.out) hkp (fun k_ hk_ hs_ => (hk_.1) hs_)) (fun k_ hk_ => ⟨hk_.1.1, hk_.1.2⟩)); have n1_ := a0_ (Kd.R_reok rfl hy0 (fun k_ e_ => HO_11.out.1 k_ e_)); have n2_ := a0_ (Kd.R_mono (ok' := fun k_ => some k_ ≠ (v882 : Value).ownBlock ∧ nw_ k_ Ao64 t891.length co64) (Kd.R_keptB (HO_891002.out) hkp (fun k_ hk_ hs_ => (hk_.2) hs_)) (fun k_ hk_ => ⟨hk_.1.1, hk_.1.2⟩)); have n3_ := a0_ (blk_kept (kB_ BK874.out) hkp (fun hs_ => (fun e_ => (Kd.R_ne HO_11.out BK874.out (by decide)) e_) hs_)); have n4_ := a0_ (blk_kept (kB_ BK890.out) hkp (fun hs_ => (fun e_ => (Kd.R_ne HO_11.out BK890.out (by decide)) e_) hs_)); have n5_ := a0_ (hb); clear HO_8; clear HO_11; clear HO_891002; clear BK874; clear BK890; clear HB; have HO_8 := n0_; have HO_11 := n1_; have HO_891002 := n2_; have BK874 := n3_; have BK890 := n4_; have HB := n5_; clear n0_ n1_ n2_ n3_ n4_ n5_; (try clear hb); (try clear hkp); (try clear hy0)) | ((with_reducible refine gate_callee (f := 42) rfl ?_); refine goesL_ (some 78) rfl rfl Tryz.func42 (by kernel_rfl) rfl #[.slice Ao64 t906.length co64, .int .i64 1] rfl (by (try simp only [List.map_toArray, List.map_cons, List.map_nil]); first | done | (rw [show t906.length = t891.length from (Kd.R_reads' HO_11.out).1.symm] <;> rfl) | rfl | (simp only [List.length_drop, List.length_take]; rfl)) ?_; (with_reducible refine (laws_heldRecordS.calls kj42 _ _ t906 1 t907 _ ?side1 ?side2 A62.out).mono ?_); (case side1 => exact kD_ (Kd.R_reads' HO_11.out).2.2); (case side2 => rw [show t906.length = t891.length from (Kd.R_reads' HO_11.out).1.symm]; exact (Kd.R_reads' HO_11.out).2.1); rintro e w66 ⟨rfl, hb⟩; refine ⟨_, rfl, ?_⟩; replace HO_8 := a0_ (Kd.R_below (kR_ HO_8.out) hb); replace HO_11 := a0_ (Kd.R_below (kR_ HO_11.out) hb); replace HO_891002 := a0_ (Kd.R_below (kR_ HO_891002.out) hb); replace BK874 := a0_ (bkB_ BK874 hb); replace BK890 := a0_ (bkB_ BK890 hb); replace HB := a0_ (below_step bq1_ hb); (try clear hb); (try clear hb2); (try clear hk); (try clear hi)))
      go_ret
      exact ⟨rr_, bq1_⟩
     rw [if_neg c63] at H
     have c63b0 := decide_eq_false c63
     clear c63
     by_cases c67 : t907 = t905
     case neg =>
      rw [if_neg c67] at H
      have c67b0 := beq_eq_false_iff_ne.mpr c67
      have c67b1 := bne_iff_ne.mpr c67
      obtain rfl := Option.some.inj H
      obtain ⟨Ao94, co94, eo94⟩ := Kd.R_slice HO_11.out
      subst eo94
      go_wp2_with (first | ((with_reducible refine gate_callee (f := 24) rfl ?_); refine goesL_ (some 75) rfl rfl Tryz.func24 (by kernel_rfl) rfl #[.slice Ao94 t891.length co94, .int .i64 1] rfl argsS_ ?_; (with_reducible refine (laws_markRecordS.calls kj42 (fun k_ => some k_ = (.slice Ao94 t891.length co94 : Value).ownBlock) (.slice Ao94 t891.length co94) t891 1 t905 t906 w _ ?side1 ?side2 A61.out).mono ?_); (case side1 => repeat (first | (with_reducible first | exact HB.out | apply below_alloc | apply pw_below_drewN | apply below_drew1 | refine below_set ?_ GE874.out | refine below_set ?_ GE890.out) | exact HB.out)); (case side2 => exact Kd.R_tight rfl HO_11.out); rintro e w95 ⟨rfl, hy0, hb, hkp⟩; refine ⟨_, rfl, ?_⟩; have n0_ := a0_ (Kd.R_mono (ok' := fun k_ => nw_ k_ Ao94 t891.length co94 ∧ nw_ k_ Ao28 t903.length co28) (Kd.R_keptB (HO_8.out) hkp (fun k_ hk_ hs_ => (hk_.1) hs_)) (fun k_ hk_ => ⟨hk_.1.1, hk_.1.2⟩)); have n1_ := a0_ (Kd.R_reok rfl hy0 (fun k_ e_ => HO_11.out.1 k_ e_)); have n2_ := a0_ (Kd.R_mono (ok' := fun k_ => some k_ ≠ (v882 : Value).ownBlock ∧ nw_ k_ Ao94 t891.length co94) (Kd.R_keptB (HO_891002.out) hkp (fun k_ hk_ hs_ => (hk_.2) hs_)) (fun k_ hk_ => ⟨hk_.1.1, hk_.1.2⟩)); have n3_ := a0_ (blk_kept (kB_ BK874.out) hkp (fun hs_ => (fun e_ => (Kd.R_ne HO_11.out BK874.out (by decide)) e_) hs_)); have n4_ := a0_ (blk_kept (kB_ BK890.out) hkp (fun hs_ => (fun e_ => (Kd.R_ne HO_11.out BK890.out (by decide)) e_) hs_)); have n5_ := a0_ (hb); clear HO_8; clear HO_11; clear HO_891002; clear BK874; clear BK890; clear HB; have HO_8 := n0_; have HO_11 := n1_; have HO_891002 := n2_; have BK874 := n3_; have BK890 := n4_; have HB := n5_; clear n0_ n1_ n2_ n3_ n4_ n5_; (try clear hb); (try clear hkp); (try clear hy0)) | ((with_reducible refine gate_callee (f := 42) rfl ?_); refine goesL_ (some 78) rfl rfl Tryz.func42 (by kernel_rfl) rfl #[.slice Ao94 t906.length co94, .int .i64 1] rfl (by (try simp only [List.map_toArray, List.map_cons, List.map_nil]); first | done | (rw [show t906.length = t891.length from (Kd.R_reads' HO_11.out).1.symm] <;> rfl) | rfl | (simp only [List.length_drop, List.length_take]; rfl)) ?_; (with_reducible refine (laws_heldRecordS.calls kj42 _ _ t906 1 t907 _ ?side1 ?side2 A62.out).mono ?_); (case side1 => exact kD_ (Kd.R_reads' HO_11.out).2.2); (case side2 => rw [show t906.length = t891.length from (Kd.R_reads' HO_11.out).1.symm]; exact (Kd.R_reads' HO_11.out).2.1); rintro e w96 ⟨rfl, hb⟩; refine ⟨_, rfl, ?_⟩; replace HO_8 := a0_ (Kd.R_below (kR_ HO_8.out) hb); replace HO_11 := a0_ (Kd.R_below (kR_ HO_11.out) hb); replace HO_891002 := a0_ (Kd.R_below (kR_ HO_891002.out) hb); replace BK874 := a0_ (bkB_ BK874 hb); replace BK890 := a0_ (bkB_ BK890 hb); replace HB := a0_ (below_step bq1_ hb); (try clear hb); (try clear hb2); (try clear hk); (try clear hi)))
      go_ret
      exact ⟨rr_, bq1_⟩
     rw [if_pos c67] at H
     have c67b0 := beq_iff_eq.mpr c67
     have c67b1 := bne_eq_false_iff_eq.mpr c67
     clear c67
     obtain ⟨⟨t908, t909, t910⟩, A680, H⟩ := Option.bind_eq_some_iff.mp H
     have A68 := a0_ A680
     clear A680
     obtain ⟨⟨t913, t916⟩, A690, H⟩ := Option.bind_eq_some_iff.mp H
     have A69 := a0_ A690
     clear A690
     have HC70 := a0_ H
     clear H
     obtain ⟨Ao71, co71, eo71⟩ := Kd.R_slice HO_11.out
     subst eo71
     go_upto_region 27 with (first | ((with_reducible refine gate_callee (f := 24) rfl ?_); refine goesL_ (some 75) rfl rfl Tryz.func24 (by kernel_rfl) rfl #[.slice Ao71 t891.length co71, .int .i64 1] rfl argsS_ ?_; (with_reducible refine (laws_markRecordS.calls kj42 (fun k_ => some k_ = (.slice Ao71 t891.length co71 : Value).ownBlock) (.slice Ao71 t891.length co71) t891 1 t905 t906 w _ ?side1 ?side2 A61.out).mono ?_); (case side1 => repeat (first | (with_reducible first | exact HB.out | apply below_alloc | apply pw_below_drewN | apply below_drew1 | refine below_set ?_ GE874.out | refine below_set ?_ GE890.out) | exact HB.out)); (case side2 => exact Kd.R_tight rfl HO_11.out); rintro e w72 ⟨rfl, hy0, hb, hkp⟩; refine ⟨_, rfl, ?_⟩; have n0_ := a0_ (Kd.R_mono (ok' := fun k_ => nw_ k_ Ao71 t891.length co71 ∧ nw_ k_ Ao28 t903.length co28) (Kd.R_keptB (HO_8.out) hkp (fun k_ hk_ hs_ => (hk_.1) hs_)) (fun k_ hk_ => ⟨hk_.1.1, hk_.1.2⟩)); have n1_ := a0_ (Kd.R_reok rfl hy0 (fun k_ e_ => HO_11.out.1 k_ e_)); have n2_ := a0_ (Kd.R_mono (ok' := fun k_ => some k_ ≠ (v882 : Value).ownBlock ∧ nw_ k_ Ao71 t891.length co71) (Kd.R_keptB (HO_891002.out) hkp (fun k_ hk_ hs_ => (hk_.2) hs_)) (fun k_ hk_ => ⟨hk_.1.1, hk_.1.2⟩)); have n3_ := a0_ (blk_kept (kB_ BK874.out) hkp (fun hs_ => (fun e_ => (Kd.R_ne HO_11.out BK874.out (by decide)) e_) hs_)); have n4_ := a0_ (blk_kept (kB_ BK890.out) hkp (fun hs_ => (fun e_ => (Kd.R_ne HO_11.out BK890.out (by decide)) e_) hs_)); have n5_ := a0_ (hb); clear HO_8; clear HO_11; clear HO_891002; clear BK874; clear BK890; clear HB; have HO_8 := n0_; have HO_11 := n1_; have HO_891002 := n2_; have BK874 := n3_; have BK890 := n4_; have HB := n5_; clear n0_ n1_ n2_ n3_ n4_ n5_; (try clear hb); (try clear hkp); (try clear hy0)) | ((with_reducible refine gate_callee (f := 42) rfl ?_); refine goesL_ (some 78) rfl rfl Tryz.func42 (by kernel_rfl) rfl #[.slice Ao71 t906.length co71, .int .i64 1] rfl (by (try simp only [List.map_toArray, List.map_cons, List.map_nil]); first | done | (rw [show t906.length = t891.length from (Kd.R_reads' HO_11.out).1.symm] <;> rfl) | rfl | (simp only [List.length_drop, List.length_take]; rfl)) ?_; (with_reducible refine (laws_heldRecordS.calls kj42 _ _ t906 1 t907 _ ?side1 ?side2 A62.out).mono ?_); (case side1 => exact kD_ (Kd.R_reads' HO_11.out).2.2); (case side2 => rw [show t906.length = t891.length from (Kd.R_reads' HO_11.out).1.symm]; exact (Kd.R_reads' HO_11.out).2.1); rintro e w73 ⟨rfl, hb⟩; refine ⟨_, rfl, ?_⟩; replace HO_8 := a0_ (Kd.R_below (kR_ HO_8.out) hb); replace HO_11 := a0_ (Kd.R_below (kR_ HO_11.out) hb); replace HO_891002 := a0_ (Kd.R_below (kR_ HO_891002.out) hb); replace BK874 := a0_ (bkB_ BK874 hb); replace BK890 := a0_ (bkB_ BK890 hb); replace HB := a0_ (below_step bq1_ hb); (try clear hb); (try clear hb2); (try clear hk); (try clear hi); have hnb74 := NB874_890.out; have hnc74 := NB890_874.out; obtain ⟨z75_0, z75_1, z75_2, q75_0, q75_1, q75_2⟩ := bk3_ BK874.out) | ((with_reducible refine gate_callee (f := 34) rfl ?_); refine goesL_ (some 86) rfl rfl Tryz.func34 (by kernel_rfl) rfl #[.agg #[.string a0_0, .int .i64 a0_1, .slice A0_2 l0_2.length c0_2]] rfl argsS_ ?_; (with_reducible refine (laws_toZone.calls kj42 a0_0 a0_1 _ _ l0_2 t908 t909 t910 _ ?side1 ?side2 A68.out).mono ?_); (case side1 => exact kC_ HR0_2.out HB.out); (case side2 => exact HC0_2.out); rintro e w76 ⟨v911, rfl, ho0, hb⟩; refine ⟨_, rfl, ?_⟩; have n0_ := a0_ (Kd.R_elder' (kR_ HO_8.out) (Kd.R_base ho0) hb); have n1_ := a0_ (Kd.R_elder' (kR_ HO_11.out) (Kd.R_base ho0) hb); have n2_ := a0_ (Kd.R_elder' (kR_ HO_891002.out) (Kd.R_base ho0) hb); have n3_ := a0_ (Kd.R_lower (Kd.R_new' (Kd.R_new' (Kd.R_new' ho0 (Kd.R_lt (kR_ HO_8.out))) (Kd.R_lt (kR_ HO_11.out))) (Kd.R_lt (kR_ HO_891002.out))) (below_size bq1_)); have n4_ := a0_ (bkB_ BK874 hb); have n5_ := a0_ (bkB_ BK890 hb); have n6_ := a0_ (below_step bq1_ hb); clear HO_8; clear HO_11; clear HO_891002; clear BK874; clear BK890; clear HB; have HO_8 := n0_; have HO_11 := n1_; have HO_891002 := n2_; have HO912 := n3_; have BK874 := n4_; have BK890 := n5_; have HB := n6_; clear n0_ n1_ n2_ n3_ n4_ n5_ n6_; (try clear hb); (try clear hb2); (try clear hk); (try clear hi); (try clear ho0); obtain ⟨Ao77, co77, eo77⟩ := Kd.R_slice HO912.out; subst eo77) | ((with_reducible refine gate_callee (f := 41) rfl ?_); refine goesL_ (some 89) rfl rfl Tryz.func41 (by kernel_rfl) rfl #[.agg #[.string t908, .int .i64 t909, .slice Ao77 t910.length co77], .string a1, .int .i64 a2] rfl argsS_ ?_; (with_reducible refine (impl_SetIn.calls kj42 t908 t909 _ _ t910 a1 a2 t913 t916 _ ?side1 ?side2 A69.out).mono ?_); (case side1 => exact kD_ (Kd.R_reads' HO912.out).2.2); (case side2 => exact (Kd.R_reads' HO912.out).2.1); rintro e w78 ⟨v914, rfl, ho0, hb⟩; refine ⟨_, rfl, ?_⟩; have n0_ := a0_ (Kd.R_elder' (kR_ HO_8.out) (Kd.R_base ho0) hb); have n1_ := a0_ (Kd.R_elder' (kR_ HO_11.out) (Kd.R_base ho0) hb); have n2_ := a0_ (Kd.R_elder' (kR_ HO_891002.out) (Kd.R_base ho0) hb); have n3_ := a0_ (Kd.R_elder' (kR_ HO912.out) (Kd.R_base ho0) hb); have n4_ := a0_ (Kd.R_lower (Kd.R_new' (Kd.R_new' (Kd.R_new' (Kd.R_new' ho0 (Kd.R_lt (kR_ HO_8.out))) (Kd.R_lt (kR_ HO_11.out))) (Kd.R_lt (kR_ HO_891002.out))) (Kd.R_lt (kR_ HO912.out))) (below_size bq1_)); have n5_ := a0_ (bkB_ BK874 hb); have n6_ := a0_ (bkB_ BK890 hb); have n7_ := a0_ (below_step bq1_ hb); clear HO_8; clear HO_11; clear HO_891002; clear HO912; clear BK874; clear BK890; clear HB; have HO_8 := n0_; have HO_11 := n1_; have HO_891002 := n2_; have HO912 := n3_; have HO915 := n4_; have BK874 := n5_; have BK890 := n6_; have HB := n7_; clear n0_ n1_ n2_ n3_ n4_ n5_ n6_ n7_; (try clear hb); (try clear hb2); (try clear hk); (try clear hi); (try clear ho0)))
     (try simp only [Act.put, List.setIfInBounds_toArray, List.set_cons_zero, List.set_cons_succ])
     go_cut [100] (fun v100 wc => ∃ (kq : Nat) (x100_69 : Bool), v100 = .bool x100_69 ∧ Aside0 (laws_FnExactSetIn.j2 kq t906 t905 x100_69 = some r) ∧ Aside0 (kq ≤ kj42) ∧ Aside0 (Kd.R k72 72 wc w.heap.size (fun k_ => some k_ ≠ ((.slice Ao28 t903.length co28) : Value).ownBlock) (.slice Ao71 t891.length co71) t906) ∧ Aside0 (Kd.R k72 72 wc w.heap.size (fun k_ => some k_ ≠ ((.slice Ao71 t891.length co71) : Value).ownBlock) (.slice Ao28 t903.length co28) t903) ∧ Aside0 (wc.heap[gb874]? = some (.cells #[.string a0_0, .int .i64 a0_1, (.slice A0_2 l0_2.length c0_2)] 51 (0, 0))) ∧ Aside0 (wc.heap[gb890]? = some (.cells #[.string t885, .int .i64 t886, (.slice Ao28 t903.length co28)] 42 (0, 0))) ∧ Aside0 (Below w.heap.size w wc))
     case first =>
      have H := HC70.out
      clear HC70
      obtain ⟨t917, A790, H⟩ := Option.bind_eq_some_iff.mp H
      have A79 := a0_ A790
      clear A790
      by_cases c80 : t917 = true
      case pos =>
       subst c80
       rw [if_pos rfl] at H
       have H' := a0_ H
       clear H
       obtain ⟨Ao81, co81, eo81⟩ := Kd.R_slice HO915.out
       subst eo81
       obtain ⟨Ao82, co82, eo82⟩ := Kd.R_slice HO_8.out
       subst eo82
       go_wp2_with (first | ((with_reducible refine gate_callee (f := 23) rfl ?_); refine goesL_ (some 94) rfl rfl Tryz.func23 (by kernel_rfl) rfl #[.slice Ao81 t913.length co81, .slice Ao82 t881.length co82] rfl argsS_ ?_; (with_reducible refine (laws_eqRecordS.calls kj42 _ _ t913 _ _ t881 true _ ?side1 ?side2 ?side3 ?side4 A79.out).mono ?_); (case side1 => exact kD_ (Kd.R_reads' HO915.out).2.2); (case side2 => exact (Kd.R_reads' HO915.out).2.1); (case side3 => exact kD_ (Kd.R_reads' HO_8.out).2.2); (case side4 => exact (Kd.R_reads' HO_8.out).2.1); rintro e w83 ⟨rfl, hb⟩; refine ⟨_, rfl, ?_⟩; replace HO_8 := a0_ (Kd.R_below (kR_ HO_8.out) hb); replace HO_11 := a0_ (Kd.R_below (kR_ HO_11.out) hb); replace HO_891002 := a0_ (Kd.R_below (kR_ HO_891002.out) hb); replace HO912 := a0_ (Kd.R_below (kR_ HO912.out) hb); replace HO915 := a0_ (Kd.R_below (kR_ HO915.out) hb); replace BK874 := a0_ (bkB_ BK874 hb); replace BK890 := a0_ (bkB_ BK890 hb); replace HB := a0_ (below_step bq1_ hb); (try clear hb); (try clear hb2); (try clear hk); (try clear hi)))
       go_meet
       case rel => exact ⟨_, ((t916 != t884)), rs_, H', ⟨by have := HJ14.out; have := HJ42.out; first | omega | exact Nat.le_refl _⟩, ⟨by (try simp only [hl891002_42]); (with_reducible repeat (first | apply Kd.R_alloc | apply Kd.R_drewN | apply Kd.R_drew)); exact Kd.R_mono HO_11.out (fun _ hk => hk.1.1.2)⟩, ⟨by (try simp only [hl891002_42]); (with_reducible repeat (first | apply Kd.R_alloc | apply Kd.R_drewN | apply Kd.R_drew)); exact Kd.R_mono HO_891002.out (fun _ hk => hk.1.1.2)⟩, ⟨by (try simp only [hl891002_42]); (with_reducible repeat (first | refine blk_drewN ?_ _ | refine blk_drew ?_ | refine blk_alloc ?_ _)); exact BK874.out⟩, ⟨by (try simp only [hl891002_42]); (with_reducible repeat (first | refine blk_drewN ?_ _ | refine blk_drew ?_ | refine blk_alloc ?_ _)); exact BK890.out⟩, ⟨bq1_⟩⟩
      replace c80 := Bool.eq_false_iff.mpr c80
      subst c80
      rw [if_neg (show ¬ (false = true) by decide)] at H
      have H' := a0_ H
      clear H
      obtain ⟨Ao84, co84, eo84⟩ := Kd.R_slice HO915.out
      subst eo84
      obtain ⟨Ao85, co85, eo85⟩ := Kd.R_slice HO_8.out
      subst eo85
      go_wp2_with (first | ((with_reducible refine gate_callee (f := 23) rfl ?_); refine goesL_ (some 94) rfl rfl Tryz.func23 (by kernel_rfl) rfl #[.slice Ao84 t913.length co84, .slice Ao85 t881.length co85] rfl argsS_ ?_; (with_reducible refine (laws_eqRecordS.calls kj42 _ _ t913 _ _ t881 false _ ?side1 ?side2 ?side3 ?side4 A79.out).mono ?_); (case side1 => exact kD_ (Kd.R_reads' HO915.out).2.2); (case side2 => exact (Kd.R_reads' HO915.out).2.1); (case side3 => exact kD_ (Kd.R_reads' HO_8.out).2.2); (case side4 => exact (Kd.R_reads' HO_8.out).2.1); rintro e w86 ⟨rfl, hb⟩; refine ⟨_, rfl, ?_⟩; replace HO_8 := a0_ (Kd.R_below (kR_ HO_8.out) hb); replace HO_11 := a0_ (Kd.R_below (kR_ HO_11.out) hb); replace HO_891002 := a0_ (Kd.R_below (kR_ HO_891002.out) hb); replace HO912 := a0_ (Kd.R_below (kR_ HO912.out) hb); replace HO915 := a0_ (Kd.R_below (kR_ HO915.out) hb); replace BK874 := a0_ (bkB_ BK874 hb); replace BK890 := a0_ (bkB_ BK890 hb); replace HB := a0_ (below_step bq1_ hb); (try clear hb); (try clear hb2); (try clear hk); (try clear hi)))
      go_meet
      case rel => exact ⟨_, (true), rs_, H', ⟨by have := HJ14.out; have := HJ42.out; first | omega | exact Nat.le_refl _⟩, ⟨by (try simp only [hl891002_42]); (with_reducible repeat (first | apply Kd.R_alloc | apply Kd.R_drewN | apply Kd.R_drew)); exact Kd.R_mono HO_11.out (fun _ hk => hk.1.1.2)⟩, ⟨by (try simp only [hl891002_42]); (with_reducible repeat (first | apply Kd.R_alloc | apply Kd.R_drewN | apply Kd.R_drew)); exact Kd.R_mono HO_891002.out (fun _ hk => hk.1.1.2)⟩, ⟨by (try simp only [hl891002_42]); (with_reducible repeat (first | refine blk_drewN ?_ _ | refine blk_drew ?_ | refine blk_alloc ?_ _)); exact BK874.out⟩, ⟨by (try simp only [hl891002_42]); (with_reducible repeat (first | refine blk_drewN ?_ _ | refine blk_drew ?_ | refine blk_alloc ?_ _)); exact BK890.out⟩, ⟨bq1_⟩⟩
     case rest =>
      clear HC70
      try clear c1
      try clear c2
      try clear p2
      try clear c3
      try clear c4
      try clear c4b0
      try clear c4b1
      try clear c5
      try clear c6
      try clear c7
      try clear c7b0
      try clear c8
      try clear c10
      try clear c23
      try clear c24
      try clear c26
      try clear c27
      try clear c28
      try clear c31
      try clear c32
      try clear c34
      try clear c38
      try clear c40
      try clear c41
      try clear c42
      try clear c48
      try clear c51
      try clear c51b0
      try clear c53
      try clear c60
      try clear c63
      try clear c63b0
      try clear c67
      try clear c67b0
      try clear c67b1
      try clear c74
      try clear c80
      try clear z17_0 z17_1 z17_2
      try clear z19_0 z19_1 z19_2
      try clear z23_0 z23_1 z23_2
      try clear z27_0 z27_1 z27_2
      try clear z49_0 z49_1 z49_2
      try clear z75_0 z75_1 z75_2
      try clear z9_0 z9_1 z9_2
      try clear q17_0 q17_1 q17_2
      try clear q19_0 q19_1 q19_2
      try clear q23_0 q23_1 q23_2
      try clear q27_0 q27_1 q27_2
      try clear q49_0 q49_1 q49_2
      try clear q75_0 q75_1 q75_2
      try clear q9_0 q9_1 q9_2
      try clear p2
      obtain ⟨kq, x100_69, rfl, HA, HJ69, HO_11, HO_891002, BK874, BK890, HB⟩ := hcut
      have hl11_69 := (Kd.R_reads' HO_11.out).1
      rw [hl11_69] at HO_11
      (try simp only [hl11_69])
      (try simp only [hl11_69] at BK874)
      (try simp only [hl11_69] at BK890)
      (try simp only [hl11_69] at HO_891002)
      cases kq with
      | zero => exact absurd HA.out (by simp [laws_FnExactSetIn.j2])
      | succ kj69 =>
       have H := HA.out
       clear HA
       simp only [laws_FnExactSetIn.j2] at H
       by_cases c87 : x100_69 = true
       case pos =>
        subst c87
        rw [if_pos rfl] at H
        obtain rfl := Option.some.inj H
        go_wp2
        go_ret
        exact ⟨rr_, bq1_⟩
       replace c87 := Bool.eq_false_iff.mpr c87
       subst c87
       rw [if_neg (show ¬ (false = true) by decide)] at H
       obtain ⟨t918, A880, H⟩ := Option.bind_eq_some_iff.mp H
       have A88 := a0_ A880
       clear A880
       by_cases c89 : t918 < 0
       case pos =>
        rw [if_pos c89] at H
        have c89b0 := decide_eq_true c89
        clear c89
        obtain rfl := Option.some.inj H
        go_wp2_with (first | ((with_reducible refine gate_callee (f := 42) rfl ?_); refine goesL_ (some 103) rfl rfl Tryz.func42 (by kernel_rfl) rfl #[.slice Ao71 t906.length co71, .int .i64 1] rfl argsS_ ?_; (with_reducible refine (laws_heldRecordS.calls kj69 _ _ t906 1 t918 _ ?side1 ?side2 A88.out).mono ?_); (case side1 => exact kD_ (Kd.R_reads' HO_11.out).2.2); (case side2 => exact (Kd.R_reads' HO_11.out).2.1); rintro e w90 ⟨rfl, hb⟩; refine ⟨_, rfl, ?_⟩; replace HO_11 := a0_ (Kd.R_below (kR_ HO_11.out) hb); replace HO_891002 := a0_ (Kd.R_below (kR_ HO_891002.out) hb); replace BK874 := a0_ (bkB_ BK874 hb); replace BK890 := a0_ (bkB_ BK890 hb); replace HB := a0_ (below_step bq1_ hb); (try clear hb); (try clear hb2); (try clear hk); (try clear hi)))
        go_ret
        exact ⟨rr_, bq1_⟩
       rw [if_neg c89] at H
       have c89b0 := decide_eq_false c89
       clear c89
       by_cases c91 : t918 = t905
       case neg =>
        rw [if_neg c91] at H
        have c91b0 := beq_eq_false_iff_ne.mpr c91
        have c91b1 := bne_iff_ne.mpr c91
        obtain rfl := Option.some.inj H
        go_wp2_with (first | ((with_reducible refine gate_callee (f := 42) rfl ?_); refine goesL_ (some 103) rfl rfl Tryz.func42 (by kernel_rfl) rfl #[.slice Ao71 t906.length co71, .int .i64 1] rfl argsS_ ?_; (with_reducible refine (laws_heldRecordS.calls kj69 _ _ t906 1 t918 _ ?side1 ?side2 A88.out).mono ?_); (case side1 => exact kD_ (Kd.R_reads' HO_11.out).2.2); (case side2 => exact (Kd.R_reads' HO_11.out).2.1); rintro e w93 ⟨rfl, hb⟩; refine ⟨_, rfl, ?_⟩; replace HO_11 := a0_ (Kd.R_below (kR_ HO_11.out) hb); replace HO_891002 := a0_ (Kd.R_below (kR_ HO_891002.out) hb); replace BK874 := a0_ (bkB_ BK874 hb); replace BK890 := a0_ (bkB_ BK890 hb); replace HB := a0_ (below_step bq1_ hb); (try clear hb); (try clear hb2); (try clear hk); (try clear hi)))
        go_ret
        exact ⟨rr_, bq1_⟩
       rw [if_pos c91] at H
       have c91b0 := beq_iff_eq.mpr c91
       have c91b1 := bne_eq_false_iff_eq.mpr c91
       clear c91
       obtain rfl := Option.some.inj H
       go_wp2_with (first | ((with_reducible refine gate_callee (f := 42) rfl ?_); refine goesL_ (some 103) rfl rfl Tryz.func42 (by kernel_rfl) rfl #[.slice Ao71 t906.length co71, .int .i64 1] rfl argsS_ ?_; (with_reducible refine (laws_heldRecordS.calls kj69 _ _ t906 1 t918 _ ?side1 ?side2 A88.out).mono ?_); (case side1 => exact kD_ (Kd.R_reads' HO_11.out).2.2); (case side2 => exact (Kd.R_reads' HO_11.out).2.1); rintro e w92 ⟨rfl, hb⟩; refine ⟨_, rfl, ?_⟩; replace HO_11 := a0_ (Kd.R_below (kR_ HO_11.out) hb); replace HO_891002 := a0_ (Kd.R_below (kR_ HO_891002.out) hb); replace BK874 := a0_ (bkB_ BK874 hb); replace BK890 := a0_ (bkB_ BK890 hb); replace HB := a0_ (below_step bq1_ hb); (try clear hb); (try clear hb2); (try clear hk); (try clear hi)))
       go_ret
       exact ⟨rr_, bq1_⟩
end Go.Proofs.YtkpkfallgjdkmaaGreatDoor.P
