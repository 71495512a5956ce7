/- FnExactNamesIn: part 29 of 30 of my texts for this claim, joined; the theorem stands in the last. Conditions: none beyond the statement's. -/
import Derived.Test.YtkpkfallgjdkmaaGreatDoorMFnExactNamesInx27
namespace Go.Proofs.YtkpkfallgjdkmaaGreatDoor.P
open Go.RowKit Go.Proofs.YtkpkfallgjdkmaaGreatDoorW.PrintWords Go.Proofs.YtkpkfallgjdkmaaGreatDoorW.PrintLast Go.Proofs.YtkpkfallgjdkmaaGreatDoorW.PrintMore
attribute [local go_sem] max2_int min2_int max_two min_two max_three min_three max_four min_four
set_option linter.unusedVariables false
set_option linter.unusedSimpArgs false
mutual
def laws_FnExactNamesIn.j0 : Nat → List ByteArray → Bool → List ByteArray → Bool → Bool → ByteArray → Int → List (S71) → ByteArray → Int → List (S72) → Option (Bool)
 | 0, _, _, _, _, _, _, _, _, _, _, _ => none
 | k + 1, x4, x5, x7, x8, x40, x990000, x990001, x990002, x1006000, x1006001, x1006002 => if x40 = true then (some false) else ((laws_toZone.f k x990000 x990001 x990002).bind fun bt1011 => ((laws_eqZone.f k x1006000 x1006001 x1006002 bt1011.1 bt1011.2.1 bt1011.2.2).bind fun t1016 => (if t1016 = true then ((laws_markZone.f k x1006000 x1006001 x1006002 1).bind fun bt1017 => (if bt1017.1 < 0 then (laws_FnExactNamesIn.j1 k x4 x5 x7 true x990000 x990001 x990002) else ((laws_eqStringS.f k x7 x4).bind fun t1019 => (if t1019 = true then (laws_FnExactNamesIn.j1 k x4 x5 x7 (x8 != x5) x990000 x990001 x990002) else (laws_FnExactNamesIn.j1 k x4 x5 x7 true x990000 x990001 x990002))))) else (some false))))
def laws_FnExactNamesIn.j1 : Nat → List ByteArray → Bool → List ByteArray → Bool → ByteArray → Int → List (S71) → Option (Bool)
 | 0, _, _, _, _, _, _, _ => none
 | k + 1, x4, x5, x7, x61, x990000, x990001, x990002 => if x61 = true then (some false) else ((laws_markStringS.f k x7 1).bind fun bt1020 => ((laws_heldStringS.f k bt1020.2 1).bind fun t1022 => (if t1022 < 0 then (some false) else (if t1022 = bt1020.1 then ((laws_toZone.f k x990000 x990001 x990002).bind fun bt1023 => ((impl_NamesIn.f k bt1023.1 bt1023.2.1 bt1023.2.2).bind fun bt1028 => ((laws_eqStringS.f k bt1028.1 x4).bind fun t1032 => (if t1032 = true then (laws_FnExactNamesIn.j2 k bt1020.2 bt1020.1 (bt1028.2 != x5)) else (laws_FnExactNamesIn.j2 k bt1020.2 bt1020.1 true))))) else (some false)))))
def laws_FnExactNamesIn.j2 : Nat → List ByteArray → Int → Bool → Option (Bool)
 | 0, _, _, _ => none
 | k + 1, x7, x10, x87 => if x87 = true then (some false) else ((laws_heldStringS.f k x7 1).bind fun t1033 => (if t1033 < 0 then (some false) else (if t1033 = x10 then (some true) else (some false))))
end
def laws_FnExactNamesIn.f (k : Nat) (a0_0 : ByteArray) (a0_1 : Int) (l0_2 : List (S71)) : Option (Bool) := (laws_szZone.f k a0_0 a0_1 l0_2 1048576).bind fun t990 => (if t990 < 0 then (some true) else ((laws_toZone.f k a0_0 a0_1 l0_2).bind fun bt991 => ((spec_NamesIn.f k bt991.1 bt991.2.1 bt991.2.2).bind fun bt996 => ((laws_toZone.f k a0_0 a0_1 l0_2).bind fun bt1000 => ((impl_NamesIn.f k bt1000.1 bt1000.2.1 bt1000.2.2).bind fun bt1006 => ((laws_eqStringS.f k bt1006.1 bt996.1).bind fun t1010 => (if t1010 = true then (laws_FnExactNamesIn.j0 k bt996.1 bt996.2 bt1006.1 bt1006.2 (bt1006.2 != bt996.2) a0_0 a0_1 l0_2 bt1000.1 bt1000.2.1 bt1000.2.2) else (laws_FnExactNamesIn.j0 k bt996.1 bt996.2 bt1006.1 bt1006.2 true a0_0 a0_1 l0_2 bt1000.1 bt1000.2.1 bt1000.2.2))))))))
set_option maxHeartbeats 8000000 in
set_option maxRecDepth 100000 in
theorem laws_FnExactNamesIn.calls (k : Nat) (a0_0 : ByteArray) (a0_1 : Int) (A0_2 : Option Addr) (c0_2 : Nat) (l0_2 : List (S71)) (r : Bool) (w : World) (hr0_2 : Kd.C k71 w A0_2 l0_2.length l0_2) (hc0_2 : l0_2.length ≤ c0_2) (h : laws_FnExactNamesIn.f k a0_0 a0_1 l0_2 = some r) (hv_ : Vars w := by exact vv_) :
 Calls Tryz.prog 11 #[.agg #[.string a0_0, .int .i64 a0_1, .slice A0_2 l0_2.length c0_2]] w fun e w' => e = .returned (.bool r) ∧ Below w.heap.size w w' := by
 have HV_ := a0_ hv_
 clear hv_
 have hu51 := Tryz.underlying51
 have hu42 := Tryz.underlying42
 have HR0_2 := a0_ hr0_2
 have HC0_2 := a0_ hc0_2
 clear hr0_2 hc0_2
 have HB := a0_ (Below.refl w.heap.size w)
 have H : ((laws_szZone.f k a0_0 a0_1 l0_2 1048576).bind fun t990 => (if t990 < 0 then (some true) else ((laws_toZone.f k a0_0 a0_1 l0_2).bind fun bt991 => ((spec_NamesIn.f k bt991.1 bt991.2.1 bt991.2.2).bind fun bt996 => ((laws_toZone.f k a0_0 a0_1 l0_2).bind fun bt1000 => ((impl_NamesIn.f k bt1000.1 bt1000.2.1 bt1000.2.2).bind fun bt1006 => ((laws_eqStringS.f k bt1006.1 bt996.1).bind fun t1010 => (if t1010 = true then (laws_FnExactNamesIn.j0 k bt996.1 bt996.2 bt1006.1 bt1006.2 (bt1006.2 != bt996.2) a0_0 a0_1 l0_2 bt1000.1 bt1000.2.1 bt1000.2.2) else (laws_FnExactNamesIn.j0 k bt996.1 bt996.2 bt1006.1 bt1006.2 true a0_0 a0_1 l0_2 bt1000.1 bt1000.2.1 bt1000.2.2))))))))) = some r := h
 clear h
 obtain ⟨t990, A20, H⟩ := Option.bind_eq_some_iff.mp H
 have A2 := a0_ A20
 clear A20
 by_cases c3 : t990 < 0
 case pos =>
  rw [if_pos c3] at H
  have c3b0 := decide_eq_true c3
  clear c3
  obtain rfl := Option.some.inj H
  go_enter Tryz.func11, Tryz.ntmps11
  go_wp2_with (first | ((with_reducible refine gate_dst (N := 1) rfl ?_); refine boxS_ 1 #[.string a0_0, .int .i64 a0_1, .slice A0_2 l0_2.length c0_2] 51 (fun gb989 hg w4 hbox hb => ?_); have n0_ := a0_ (below_step bq0_ hb); have n1_ := a0_ (hbox); have n2_ := a0_ (gw_ hg : w.heap.size ≤ gb989); have n3_ := n2_; clear HB; have HB := n0_; have BK989 := n1_; have GW989 := n2_; have GE989 := n3_; clear n0_ n1_ n2_ n3_; clear hb hbox hg; obtain ⟨z5_0, z5_1, z5_2, q5_0, q5_1, q5_2⟩ := bk3_ BK989.out) | ((with_reducible refine gate_callee (f := 32) rfl ?_); refine goesL_ (some 16) rfl rfl Tryz.func32 (by kernel_rfl) rfl #[.agg #[.string a0_0, .int .i64 a0_1, .slice A0_2 l0_2.length c0_2], .int .i64 1048576] rfl argsS_ ?_; (with_reducible refine (laws_szZone.calls k a0_0 a0_1 _ _ l0_2 1048576 t990 _ ?side1 ?side2 A2.out).mono ?_); (case side1 => exact kC_ HR0_2.out HB.out); (case side2 => exact HC0_2.out); rintro e w6 ⟨rfl, hb⟩; refine ⟨_, rfl, ?_⟩; replace BK989 := a0_ (bkB_ BK989 hb); replace HB := a0_ (below_step bq1_ hb); (try clear hb); (try clear hb2); (try clear hk); (try clear hi)))
  go_ret
  exact ⟨rr_, bq1_⟩
 rw [if_neg c3] at H
 have c3b0 := decide_eq_false c3
 clear c3
 obtain ⟨⟨t991, t992, t993⟩, A70, H⟩ := Option.bind_eq_some_iff.mp H
 have A7 := a0_ A70
 clear A70
 obtain ⟨⟨t996, t999⟩, A80, H⟩ := Option.bind_eq_some_iff.mp H
 have A8 := a0_ A80
 clear A80
 obtain ⟨⟨t1000, t1001, t1002⟩, A90, H⟩ := Option.bind_eq_some_iff.mp H
 have A9 := a0_ A90
 clear A90
 obtain ⟨⟨t1006, t1009⟩, A100, H⟩ := Option.bind_eq_some_iff.mp H
 have A10 := a0_ A100
 clear A100
 have HC11 := a0_ H
 clear H
 go_enter Tryz.func11, Tryz.ntmps11
 go_upto_region 8 with (first | ((with_reducible refine gate_dst (N := 1) rfl ?_); refine boxS_ 1 #[.string a0_0, .int .i64 a0_1, .slice A0_2 l0_2.length c0_2] 51 (fun gb989 hg w12 hbox hb => ?_); have n0_ := a0_ (below_step bq0_ hb); have n1_ := a0_ (hbox); have n2_ := a0_ (gw_ hg : w.heap.size ≤ gb989); have n3_ := n2_; clear HB; have HB := n0_; have BK989 := n1_; have GW989 := n2_; have GE989 := n3_; clear n0_ n1_ n2_ n3_; clear hb hbox hg; obtain ⟨z13_0, z13_1, z13_2, q13_0, q13_1, q13_2⟩ := bk3_ BK989.out) | ((with_reducible refine gate_callee (f := 32) rfl ?_); refine goesL_ (some 16) rfl rfl Tryz.func32 (by kernel_rfl) rfl #[.agg #[.string a0_0, .int .i64 a0_1, .slice A0_2 l0_2.length c0_2], .int .i64 1048576] rfl argsS_ ?_; (with_reducible refine (laws_szZone.calls k a0_0 a0_1 _ _ l0_2 1048576 t990 _ ?side1 ?side2 A2.out).mono ?_); (case side1 => exact kC_ HR0_2.out HB.out); (case side2 => exact HC0_2.out); rintro e w14 ⟨rfl, hb⟩; refine ⟨_, rfl, ?_⟩; replace BK989 := a0_ (bkB_ BK989 hb); replace HB := a0_ (below_step bq1_ hb); (try clear hb); (try clear hb2); (try clear hk); (try clear hi); obtain ⟨z15_0, z15_1, z15_2, q15_0, q15_1, q15_2⟩ := bk3_ BK989.out) | ((with_reducible refine gate_callee (f := 34) rfl ?_); refine goesL_ (some 21) rfl rfl Tryz.func34 (by kernel_rfl) rfl #[.agg #[.string a0_0, .int .i64 a0_1, .slice A0_2 l0_2.length c0_2]] rfl argsS_ ?_; (with_reducible refine (laws_toZone.calls k a0_0 a0_1 _ _ l0_2 t991 t992 t993 _ ?side1 ?side2 A7.out).mono ?_); (case side1 => exact kC_ HR0_2.out HB.out); (case side2 => exact HC0_2.out); rintro e w16 ⟨v994, rfl, ho0, hb⟩; refine ⟨_, rfl, ?_⟩; have HO995 := a0_ (Kd.R_lower ho0 (below_size bq1_)); replace BK989 := a0_ (bkB_ BK989 hb); replace HB := a0_ (below_step bq1_ hb); (try clear hb); (try clear hb2); (try clear hk); (try clear hi); (try clear ho0); obtain ⟨Ao17, co17, eo17⟩ := Kd.R_slice HO995.out; subst eo17) | ((with_reducible refine gate_callee (f := 43) rfl ?_); refine goesL_ (some 22) rfl rfl Tryz.func43 (by kernel_rfl) rfl #[.agg #[.string t991, .int .i64 t992, .slice Ao17 t993.length co17]] rfl argsS_ ?_; (with_reducible refine (spec_NamesIn.calls k t991 t992 _ _ t993 t996 t999 _ ?side1 ?side2 A8.out).mono ?_); (case side1 => exact kD_ (Kd.R_reads' HO995.out).2.2); (case side2 => exact (Kd.R_reads' HO995.out).2.1); rintro e w18 ⟨v997, rfl, ho0, hb⟩; refine ⟨_, rfl, ?_⟩; replace HO995 := a0_ (Kd.R_below (kR_ HO995.out) hb); have HO998 := a0_ (Kd.R_lower ho0 (below_size bq1_)); replace BK989 := a0_ (bkB_ BK989 hb); replace HB := a0_ (below_step bq1_ hb); (try clear hb); (try clear hb2); (try clear hk); (try clear hi); (try clear ho0); obtain ⟨z19_0, z19_1, z19_2, q19_0, q19_1, q19_2⟩ := bk3_ BK989.out) | ((with_reducible refine gate_callee (f := 34) rfl ?_); refine goesL_ (some 26) rfl rfl Tryz.func34 (by kernel_rfl) rfl #[.agg #[.string a0_0, .int .i64 a0_1, .slice A0_2 l0_2.length c0_2]] rfl argsS_ ?_; (with_reducible refine (laws_toZone.calls k a0_0 a0_1 _ _ l0_2 t1000 t1001 t1002 _ ?side1 ?side2 A9.out).mono ?_); (case side1 => exact kC_ HR0_2.out HB.out); (case side2 => exact HC0_2.out); rintro e w20 ⟨v1003, rfl, ho0, hb⟩; refine ⟨_, rfl, ?_⟩; have n0_ := a0_ (Kd.R_elder' (kR_ HO995.out) (Kd.R_base ho0) hb); have n1_ := a0_ (Kd.R_below (kR_ HO998.out) hb); have n2_ := a0_ (Kd.R_lower (Kd.R_new' ho0 (Kd.R_lt (kR_ HO995.out))) (below_size bq1_)); have n3_ := a0_ (bkB_ BK989 hb); have n4_ := a0_ (below_step bq1_ hb); clear HO995; clear HO998; clear BK989; clear HB; have HO995 := n0_; have HO998 := n1_; have HO1004 := n2_; have BK989 := n3_; have HB := n4_; clear n0_ n1_ n2_ n3_ n4_; (try clear hb); (try clear hb2); (try clear hk); (try clear hi); (try clear ho0)) | ((with_reducible refine gate_dst (N := 6) rfl ?_); refine boxS_ 6 #[.string (⟨#[]⟩ : ByteArray), .int .i64 0, .slice none 0 0] 42 (fun gb1005 hg w21 hbox hb => ?_); have n0_ := a0_ (Kd.R_below (kR_ HO995.out) hb); have n1_ := a0_ (Kd.R_below (kR_ HO998.out) hb); have n2_ := a0_ (Kd.R_below (kR_ HO1004.out) hb); have n3_ := a0_ (bkB_ BK989 hb); have n4_ := a0_ (below_step bq1_ hb); have n5_ := a0_ (hbox); have n6_ := a0_ (gw_ hg (below_size bq1_) : w.heap.size ≤ gb1005); have n7_ := n6_; have n8_ := a0_ ((by rw [hg]; exact Nat.ne_of_lt (blk_lt (g := gb989) (o := .cells #[.string a0_0, .int .i64 a0_1, .slice A0_2 l0_2.length c0_2] 51 (0, 0)) (kB_ BK989.out)) : gb989 ≠ gb1005)); have n9_ := a0_ ((by rw [hg]; exact Nat.ne_of_gt (blk_lt (g := gb989) (o := .cells #[.string a0_0, .int .i64 a0_1, .slice A0_2 l0_2.length c0_2] 51 (0, 0)) (kB_ BK989.out)) : gb1005 ≠ gb989)); clear HO995; clear HO998; clear HO1004; clear BK989; clear HB; have HO995 := n0_; have HO998 := n1_; have HO1004 := n2_; have BK989 := n3_; have HB := n4_; have BK1005 := n5_; have GW1005 := n6_; have GE1005 := n7_; have NB989_1005 := n8_; have NB1005_989 := n9_; clear n0_ n1_ n2_ n3_ n4_ n5_ n6_ n7_ n8_ n9_; clear hb hbox hg; have hnb22 := NB1005_989.out; have hnc22 := NB989_1005.out; obtain ⟨z23_0, z23_1, z23_2, q23_0, q23_1, q23_2⟩ := bk3_ BK1005.out; obtain ⟨Ao24, co24, eo24⟩ := Kd.R_slice HO1004.out; subst eo24) | ((with_reducible refine gate_callee (f := 44) rfl ?_); refine goesL_ (some 29) rfl rfl Tryz.func44 (by kernel_rfl) rfl #[.agg #[.string t1000, .int .i64 t1001, .slice Ao24 t1002.length co24]] rfl argsS_ ?_; (with_reducible refine (impl_NamesIn.calls k t1000 t1001 _ _ t1002 t1006 t1009 _ ?side1 ?side2 A10.out).mono ?_); (case side1 => refine (Kd.R_reads' (e := 72) (base := w.heap.size) (ok := fun k_ => (True ∧ nw_ k_ Ao17 t993.length co17)) (n := t1002.length) (c := co24) ?_).2.2; exact (kR_ (farR3_ HO1004.out BK1005.out))); (case side2 => exact (Kd.R_reads' HO1004.out).2.1); rintro e w25 ⟨v1007, rfl, ho0, hb⟩; refine ⟨_, rfl, ?_⟩; have n0_ := a0_ (Kd.R_below (kR_ (farR3_ HO995.out BK1005.out)) hb); have n1_ := a0_ (Kd.R_elder' (kR_ (farR3_ HO998.out BK1005.out)) (Kd.R_base ho0) hb); have n2_ := a0_ (Kd.R_below (kR_ (farR3_ HO1004.out BK1005.out)) hb); have n3_ := a0_ (Kd.R_lower (Kd.R_new' ho0 (Kd.R_lt (kR_ (farR3_ HO998.out BK1005.out)))) (below_size bq1_)); have n4_ := a0_ (blk_below (g := gb989) (o := .cells #[.string a0_0, .int .i64 a0_1, .slice A0_2 l0_2.length c0_2] 51 (0, 0)) (bfar3_ NB989_1005.out BK989.out) hb); have n5_ := a0_ (blk_below (g := gb1005) (o := .cells #[.string t1000, .int .i64 t1001, .slice Ao24 t1002.length co24] 42 (0, 0)) (put3_ BK1005.out) hb); have n6_ := a0_ (below_step bq1_ hb); clear HO995; clear HO998; clear HO1004; clear BK989; clear BK1005; clear HB; have HO995 := n0_; have HO998 := n1_; have HO1004 := n2_; have HO1008 := n3_; have BK989 := n4_; have BK1005 := n5_; have HB := n6_; clear n0_ n1_ n2_ n3_ n4_ n5_ n6_; (try clear hb); (try clear hb2); (try clear hk); (try clear hi); (try clear ho0)))
 (try simp only [Act.put, List.setIfInBounds_toArray, List.set_cons_zero, List.set_cons_succ])
 go_cut [40] (fun v40 wc => ∃ (kq : Nat) (x40_10 : Bool), v40 = .bool x40_10 ∧ Aside0 (laws_FnExactNamesIn.j0 kq t996 t999 t1006 t1009 x40_10 a0_0 a0_1 l0_2 t1000 t1001 t1002 = some r) ∧ Aside0 (kq ≤ k) ∧ Aside0 (Kd.R Kd.string 9 wc w.heap.size (fun k_ => some k_ ≠ (v1007 : Value).ownBlock) v997 t996) ∧ Aside0 (Kd.R Kd.string 9 wc w.heap.size (fun k_ => some k_ ≠ (v997 : Value).ownBlock) v1007 t1006) ∧ Aside0 (Kd.R k72 72 wc w.heap.size (fun _ => True) (.slice Ao24 t1002.length co24) t1002) ∧ Aside0 (wc.heap[gb989]? = some (.cells #[.string a0_0, .int .i64 a0_1, (.slice A0_2 l0_2.length c0_2)] 51 (0, 0))) ∧ Aside0 (wc.heap[gb1005]? = some (.cells #[.string t1000, .int .i64 t1001, (.slice Ao24 t1002.length co24)] 42 (0, 0))) ∧ Aside0 (Below w.heap.size w wc))
 case first =>
  have H := HC11.out
  clear HC11
  obtain ⟨t1010, A260, H⟩ := Option.bind_eq_some_iff.mp H
  have A26 := a0_ A260
  clear A260
  by_cases c27 : t1010 = true
  case pos =>
   subst c27
   rw [if_pos rfl] at H
   have H' := a0_ H
   clear H
   obtain ⟨Ao28, co28, eo28⟩ := Kd.R_slice HO1008.out
   subst eo28
   obtain ⟨Ao29, co29, eo29⟩ := Kd.R_slice HO998.out
   subst eo29
   go_wp2_with (first | ((with_reducible refine gate_callee (f := 45) rfl ?_); refine goesL_ (some 34) rfl rfl Tryz.func45 (by kernel_rfl) rfl #[.slice Ao28 t1006.length co28, .slice Ao29 t996.length co29] rfl argsS_ ?_; (with_reducible refine (laws_eqStringS.calls k _ _ t1006 _ _ t996 true _ ?side1 ?side2 ?side3 ?side4 A26.out).mono ?_); (case side1 => exact kD_ (Kd.R_reads' HO1008.out).2.2); (case side2 => exact (Kd.R_reads' HO1008.out).2.1); (case side3 => exact kD_ (Kd.R_reads' HO998.out).2.2); (case side4 => exact (Kd.R_reads' HO998.out).2.1); rintro e w' ⟨rfl, ⟨nd, rfl⟩⟩; refine ⟨_, rfl, ?_⟩))
   go_meet
   case rel => exact ⟨_, ((t1009 != t999)), rs_, H', ⟨by first | omega | exact Nat.le_refl _⟩, ⟨by (with_reducible repeat (first | apply Kd.R_alloc | apply Kd.R_drewN | apply Kd.R_drew)); exact Kd.R_mono HO998.out (fun _ hk => hk.2)⟩, ⟨by (with_reducible repeat (first | apply Kd.R_alloc | apply Kd.R_drewN | apply Kd.R_drew)); exact Kd.R_mono HO1008.out (fun _ hk => hk.2)⟩, ⟨by (with_reducible repeat (first | apply Kd.R_alloc | apply Kd.R_drewN | apply Kd.R_drew)); exact Kd.R_mono HO1004.out (fun _ hk => trivial)⟩, ⟨by (with_reducible repeat (first | refine blk_drewN ?_ _ | refine blk_drew ?_ | refine blk_alloc ?_ _)); exact BK989.out⟩, ⟨by (with_reducible repeat (first | refine blk_drewN ?_ _ | refine blk_drew ?_ | refine blk_alloc ?_ _)); exact BK1005.out⟩, ⟨bq1_⟩⟩
  replace c27 := Bool.eq_false_iff.mpr c27
  subst c27
  rw [if_neg (show ¬ (false = true) by decide)] at H
  have H' := a0_ H
  clear H
  obtain ⟨Ao30, co30, eo30⟩ := Kd.R_slice HO1008.out
  subst eo30
  obtain ⟨Ao31, co31, eo31⟩ := Kd.R_slice HO998.out
  subst eo31
  go_wp2_with (first | ((with_reducible refine gate_callee (f := 45) rfl ?_); refine goesL_ (some 34) rfl rfl Tryz.func45 (by kernel_rfl) rfl #[.slice Ao30 t1006.length co30, .slice Ao31 t996.length co31] rfl argsS_ ?_; (with_reducible refine (laws_eqStringS.calls k _ _ t1006 _ _ t996 false _ ?side1 ?side2 ?side3 ?side4 A26.out).mono ?_); (case side1 => exact kD_ (Kd.R_reads' HO1008.out).2.2); (case side2 => exact (Kd.R_reads' HO1008.out).2.1); (case side3 => exact kD_ (Kd.R_reads' HO998.out).2.2); (case side4 => exact (Kd.R_reads' HO998.out).2.1); rintro e w' ⟨rfl, ⟨nd, rfl⟩⟩; refine ⟨_, rfl, ?_⟩))
  go_meet
  case rel => exact ⟨_, (true), rs_, H', ⟨by first | omega | exact Nat.le_refl _⟩, ⟨by (with_reducible repeat (first | apply Kd.R_alloc | apply Kd.R_drewN | apply Kd.R_drew)); exact Kd.R_mono HO998.out (fun _ hk => hk.2)⟩, ⟨by (with_reducible repeat (first | apply Kd.R_alloc | apply Kd.R_drewN | apply Kd.R_drew)); exact Kd.R_mono HO1008.out (fun _ hk => hk.2)⟩, ⟨by (with_reducible repeat (first | apply Kd.R_alloc | apply Kd.R_drewN | apply Kd.R_drew)); exact Kd.R_mono HO1004.out (fun _ hk => trivial)⟩, ⟨by (with_reducible repeat (first | refine blk_drewN ?_ _ | refine blk_drew ?_ | refine blk_alloc ?_ _)); exact BK989.out⟩, ⟨by (with_reducible repeat (first | refine blk_drewN ?_ _ | refine blk_drew ?_ | refine blk_alloc ?_ _)); exact BK1005.out⟩, ⟨bq1_⟩⟩
 case rest =>
  clear HC11
  try clear c1
  try clear c2
  try clear p2
  try clear c3
  try clear c3b0
  try clear c4
  try clear c11
  try clear c22
  try clear c27
  try clear z13_0 z13_1 z13_2
  try clear z15_0 z15_1 z15_2
  try clear z19_0 z19_1 z19_2
  try clear z23_0 z23_1 z23_2
  try clear z5_0 z5_1 z5_2
  try clear q13_0 q13_1 q13_2
  try clear q15_0 q15_1 q15_2
  try clear q19_0 q19_1 q19_2
  try clear q23_0 q23_1 q23_2
  try clear q5_0 q5_1 q5_2
  obtain ⟨kq, x40_10, rfl, HA, HJ10, HO_4, HO_7, HO_1006002, BK989, BK1005, HB⟩ := hcut
  cases kq with
  | zero => exact absurd HA.out (by simp [laws_FnExactNamesIn.j0])
  | succ kj10 =>
   have H := HA.out
   clear HA
   simp only [laws_FnExactNamesIn.j0] at H
   by_cases c32 : x40_10 = true
   case pos =>
    subst c32
    rw [if_pos rfl] at H
    obtain rfl := Option.some.inj H
    go_wp2
    go_ret
    exact ⟨rr_, bq1_⟩
   replace c32 := Bool.eq_false_iff.mpr c32
   subst c32
   rw [if_neg (show ¬ (false = true) by decide)] at H
   obtain ⟨⟨t1011, t1012, t1013⟩, A330, H⟩ := Option.bind_eq_some_iff.mp H
   have A33 := a0_ A330
   clear A330
   obtain ⟨t1016, A340, H⟩ := Option.bind_eq_some_iff.mp H
   have A34 := a0_ A340
   clear A340
   by_cases c35 : t1016 = true
   case neg =>
    replace c35 := Bool.eq_false_iff.mpr c35
    subst c35
    rw [if_neg (show ¬ (false = true) by decide)] at H
    obtain rfl := Option.some.inj H
    try go_wp2
    replace HO_4 := a0_ (Kd.R_drew HO_4.out)
    replace HO_7 := a0_ (Kd.R_drew HO_7.out)
    replace HO_1006002 := a0_ (Kd.R_drew HO_1006002.out)
    replace BK989 := a0_ (blk_drew BK989.out)
    replace BK1005 := a0_ (blk_drew BK1005.out)
    replace HB := a0_ (below_drew1 HB.out)
    refine start_ (n := 5) (S := fun w' => w'.cell? ⟨gb1005, 0, none⟩ = some (.string t1000) ∧ w'.cell? ⟨gb1005, 1, none⟩ = some (.int .i64 t1001) ∧ w'.cell? ⟨gb1005, 2, none⟩ = some (.slice Ao24 t1002.length co24) ∧ w'.cell? ⟨gb989, 0, none⟩ = some (.string a0_0) ∧ w'.cell? ⟨gb989, 1, none⟩ = some (.int .i64 a0_1) ∧ w'.cell? ⟨gb989, 2, none⟩ = some (.slice A0_2 l0_2.length c0_2)) (ds := []) #[false, false, false, false, false] (by kernel_rfl) rfl rfl ⟨(blk_cell BK1005.out 0).trans rfl, (blk_cell BK1005.out 1).trans rfl, (blk_cell BK1005.out 2).trans rfl, (blk_cell BK989.out 0).trans rfl, (blk_cell BK989.out 1).trans rfl, (blk_cell BK989.out 2).trans rfl⟩ (fun hHeld => ?_)
    generalize wc.drew = w87 at HO_4 HO_7 HO_1006002 BK989 BK1005 HB hHeld ⊢
    refine take_ (i := 0) (N := some 41) (v := ?_) (a' := ?_) #[true, false, false, false, false] rfl rfl (by kernel_rfl) (fun _ _ _ h => h) (Or.inl ⟨by rfl, ?_⟩) hHeld ?_ ?_
    rotate_left
    · rintro w' ⟨s0, s1, s2, s3, s4, s5⟩
      go_simp
      with_reducible rfl
    rotate_left
    · simp only [Act.put, List.setIfInBounds_toArray, List.set_cons_zero, List.set_cons_succ, i64_w, i32_w]
      rfl
    refine take_ (i := 1) (N := some 42) (v := ?_) (a' := ?_) #[true, true, false, false, false] rfl rfl (by kernel_rfl) (fun _ _ _ h => h) (Or.inl ⟨by rfl, ?_⟩) hHeld ?_ ?_
    rotate_left
    · rintro w' ⟨s0, s1, s2, s3, s4, s5⟩
      go_simp
      with_reducible rfl
    rotate_left
    · simp only [Act.put, List.setIfInBounds_toArray, List.set_cons_zero, List.set_cons_succ, i64_w, i32_w]
      rfl
    refine one_ (i := 2) (N := some 43) #[true, true, true, false, false] rfl rfl (by kernel_rfl) (by decide) (fun K hK => ?_)
    refine goes_ Tryz.func34 (by kernel_rfl) rfl #[.agg #[.string a0_0, .int .i64 a0_1, .slice A0_2 l0_2.length c0_2]] (by rfl) rfl rfl argsS_ ?_
    with_reducible refine (laws_toZone.calls kj10 a0_0 a0_1 _ _ l0_2 t1011 t1012 t1013 _ ?side1 ?side2 A33.out).mono ?_
    (case side1 => exact kC_ HR0_2.out HB.out)
    (case side2 => exact HC0_2.out)
    rintro e w88 ⟨v1014, rfl, ho0, hb⟩
    refine ⟨_, rfl, ?_⟩
    have n0_ := a0_ (Kd.R_below (kR_ HO_4.out) hb)
    have n1_ := a0_ (Kd.R_below (kR_ HO_7.out) hb)
    have n2_ := a0_ (Kd.R_elder' (kR_ HO_1006002.out) (Kd.R_base ho0) hb)
    have n3_ := a0_ (Kd.R_lower (Kd.R_new' ho0 (Kd.R_lt (kR_ HO_1006002.out))) (below_size bq1_))
    have n4_ := a0_ (bkB_ BK989 hb)
    have n5_ := a0_ (bkB_ BK1005 hb)
    have n6_ := a0_ (below_step bq1_ hb)
    clear HO_4
    clear HO_7
    clear HO_1006002
    clear BK989
    clear BK1005
    clear HB
    have HO_4 := n0_
    have HO_7 := n1_
    have HO_1006002 := n2_
    have HO1015 := n3_
    have BK989 := n4_
    have BK1005 := n5_
    have HB := n6_
    clear n0_ n1_ n2_ n3_ n4_ n5_ n6_
    (try clear hb)
    (try clear hb2)
    (try clear hk)
    (try clear hi)
    (try clear ho0)
    obtain ⟨Ao89, co89, eo89⟩ := Kd.R_slice HO1015.out
    (first | subst eo89 | (injection eo89 with f1_ f2_ f3_; have f4_ := f1_.symm; have f5_ := f3_.symm; clear f1_ f2_ f3_; subst f4_; subst f5_))
    refine hK.out _ _ ⟨(blk_cell BK1005.out 0).trans rfl, (blk_cell BK1005.out 1).trans rfl, (blk_cell BK1005.out 2).trans rfl, (blk_cell BK989.out 0).trans rfl, (blk_cell BK989.out 1).trans rfl, (blk_cell BK989.out 2).trans rfl⟩ (fun hHeld => ?_)
    clear hK K
    refine normS_ ?_
    refine one_ (i := 3) (N := some 44) #[true, true, true, true, false] rfl rfl (by kernel_rfl) (by decide) (fun K hK => ?_)
    refine goes_ Tryz.func27 (by kernel_rfl) rfl #[.agg #[.string t1000, .int .i64 t1001, .slice Ao24 t1002.length co24], .agg #[.string t1011, .int .i64 t1012, .slice Ao89 t1013.length co89]] (by rfl) rfl rfl argsS_ ?_
    with_reducible refine (laws_eqZone.calls kj10 t1000 t1001 _ _ t1002 t1011 t1012 _ _ t1013 false _ ?side1 ?side2 ?side3 ?side4 A34.out).mono ?_
    (case side1 => exact kD_ (Kd.R_reads' HO_1006002.out).2.2)
    (case side2 => exact (Kd.R_reads' HO_1006002.out).2.1)
    (case side3 => exact kD_ (Kd.R_reads' HO1015.out).2.2)
    (case side4 => exact (Kd.R_reads' HO1015.out).2.1)
    rintro e w90 ⟨rfl, hb⟩
    refine ⟨_, rfl, ?_⟩
    replace HO_4 := a0_ (Kd.R_below (kR_ HO_4.out) hb)
    replace HO_7 := a0_ (Kd.R_below (kR_ HO_7.out) hb)
    replace HO_1006002 := a0_ (Kd.R_below (kR_ HO_1006002.out) hb)
    replace HO1015 := a0_ (Kd.R_below (kR_ HO1015.out) hb)
    replace BK989 := a0_ (bkB_ BK989 hb)
    replace BK1005 := a0_ (bkB_ BK1005 hb)
    replace HB := a0_ (below_step bq1_ hb)
    (try clear hb)
    (try clear hb2)
    (try clear hk)
    (try clear hi)
    refine hK.out _ _ ⟨(blk_cell BK1005.out 0).trans rfl, (blk_cell BK1005.out 1).trans rfl, (blk_cell BK1005.out 2).trans rfl, (blk_cell BK989.out 0).trans rfl, (blk_cell BK989.out 1).trans rfl, (blk_cell BK989.out 2).trans rfl⟩ (fun hHeld => ?_)
    clear hK K
    refine normS_ ?_
    refine pure_ (i := 4) (N := some 45) (v := ?_) (a' := ?_) #[true, true, true, true, true] rfl rfl (by kernel_rfl) (fun _ _ _ h => h) (Or.inl ⟨by rfl, ?_⟩) ?_ ?_
    rotate_left
    · intro w'
      go_simp
      with_reducible rfl
    rotate_left
    · simp only [Act.put, List.setIfInBounds_toArray, List.set_cons_zero, List.set_cons_succ, i64_w, i32_w]
      rfl
    refine done_ (by kernel_rfl) ?_
    try go_wp2
    go_ret
    exact ⟨rr_, bq1_⟩
   subst c35
   rw [if_pos rfl] at H
   obtain ⟨⟨t1017, t1018⟩, A360, H⟩ := Option.bind_eq_some_iff.mp H
   have A36 := a0_ A360
   clear A360
   have HC37 := a0_ H
   clear H
   try go_wp2
   replace HO_4 := a0_ (Kd.R_drew HO_4.out)
   replace HO_7 := a0_ (Kd.R_drew HO_7.out)
   replace HO_1006002 := a0_ (Kd.R_drew HO_1006002.out)
   replace BK989 := a0_ (blk_drew BK989.out)
   replace BK1005 := a0_ (blk_drew BK1005.out)
   replace HB := a0_ (below_drew1 HB.out)
   refine start_ (n := 5) (S := fun w' => w'.cell? ⟨gb1005, 0, none⟩ = some (.string t1000) ∧ w'.cell? ⟨gb1005, 1, none⟩ = some (.int .i64 t1001) ∧ w'.cell? ⟨gb1005, 2, none⟩ = some (.slice Ao24 t1002.length co24) ∧ w'.cell? ⟨gb989, 0, none⟩ = some (.string a0_0) ∧ w'.cell? ⟨gb989, 1, none⟩ = some (.int .i64 a0_1) ∧ w'.cell? ⟨gb989, 2, none⟩ = some (.slice A0_2 l0_2.length c0_2)) (ds := []) #[false, false, false, false, false] (by kernel_rfl) rfl rfl ⟨(blk_cell BK1005.out 0).trans rfl, (blk_cell BK1005.out 1).trans rfl, (blk_cell BK1005.out 2).trans rfl, (blk_cell BK989.out 0).trans rfl, (blk_cell BK989.out 1).trans rfl, (blk_cell BK989.out 2).trans rfl⟩ (fun hHeld => ?_)
   generalize wc.drew = w38 at HO_4 HO_7 HO_1006002 BK989 BK1005 HB hHeld ⊢
   refine take_ (i := 0) (N := some 41) (v := ?_) (a' := ?_) #[true, false, false, false, false] rfl rfl (by kernel_rfl) (fun _ _ _ h => h) (Or.inl ⟨by rfl, ?_⟩) hHeld ?_ ?_
   rotate_left
   · rintro w' ⟨s0, s1, s2, s3, s4, s5⟩
     go_simp
     with_reducible rfl
   rotate_left
   · simp only [Act.put, List.setIfInBounds_toArray, List.set_cons_zero, List.set_cons_succ, i64_w, i32_w]
     rfl
   refine take_ (i := 1) (N := some 42) (v := ?_) (a' := ?_) #[true, true, false, false, false] rfl rfl (by kernel_rfl) (fun _ _ _ h => h) (Or.inl ⟨by rfl, ?_⟩) hHeld ?_ ?_
   rotate_left
   · rintro w' ⟨s0, s1, s2, s3, s4, s5⟩
     go_simp
     with_reducible rfl
   rotate_left
   · simp only [Act.put, List.setIfInBounds_toArray, List.set_cons_zero, List.set_cons_succ, i64_w, i32_w]
     rfl
   refine one_ (i := 2) (N := some 43) #[true, true, true, false, false] rfl rfl (by kernel_rfl) (by decide) (fun K hK => ?_)
   refine goes_ Tryz.func34 (by kernel_rfl) rfl #[.agg #[.string a0_0, .int .i64 a0_1, .slice A0_2 l0_2.length c0_2]] (by rfl) rfl rfl argsS_ ?_
   with_reducible refine (laws_toZone.calls kj10 a0_0 a0_1 _ _ l0_2 t1011 t1012 t1013 _ ?side1 ?side2 A33.out).mono ?_
   (case side1 => exact kC_ HR0_2.out HB.out)
   (case side2 => exact HC0_2.out)
   rintro e w39 ⟨v1014, rfl, ho0, hb⟩
   refine ⟨_, rfl, ?_⟩
   have n0_ := a0_ (Kd.R_below (kR_ HO_4.out) hb)
   have n1_ := a0_ (Kd.R_below (kR_ HO_7.out) hb)
   have n2_ := a0_ (Kd.R_elder' (kR_ HO_1006002.out) (Kd.R_base ho0) hb)
   have n3_ := a0_ (Kd.R_lower (Kd.R_new' ho0 (Kd.R_lt (kR_ HO_1006002.out))) (below_size bq1_))
   have n4_ := a0_ (bkB_ BK989 hb)
   have n5_ := a0_ (bkB_ BK1005 hb)
   have n6_ := a0_ (below_step bq1_ hb)
   clear HO_4
   clear HO_7
   clear HO_1006002
   clear BK989
   clear BK1005
   clear HB
   have HO_4 := n0_
   have HO_7 := n1_
   have HO_1006002 := n2_
   have HO1015 := n3_
   have BK989 := n4_
   have BK1005 := n5_
   have HB := n6_
   clear n0_ n1_ n2_ n3_ n4_ n5_ n6_
   (try clear hb)
   (try clear hb2)
   (try clear hk)
   (try clear hi)
   (try clear ho0)
   obtain ⟨Ao40, co40, eo40⟩ := Kd.R_slice HO1015.out
   (first | subst eo40 | (injection eo40 with f1_ f2_ f3_; have f4_ := f1_.symm; have f5_ := f3_.symm; clear f1_ f2_ f3_; subst f4_; subst f5_))
   refine hK.out _ _ ⟨(blk_cell BK1005.out 0).trans rfl, (blk_cell BK1005.out 1).trans rfl, (blk_cell BK1005.out 2).trans rfl, (blk_cell BK989.out 0).trans rfl, (blk_cell BK989.out 1).trans rfl, (blk_cell BK989.out 2).trans rfl⟩ (fun hHeld => ?_)
   clear hK K
   refine normS_ ?_
   refine one_ (i := 3) (N := some 44) #[true, true, true, true, false] rfl rfl (by kernel_rfl) (by decide) (fun K hK => ?_)
   refine goes_ Tryz.func27 (by kernel_rfl) rfl #[.agg #[.string t1000, .int .i64 t1001, .slice Ao24 t1002.length co24], .agg #[.string t1011, .int .i64 t1012, .slice Ao40 t1013.length co40]] (by rfl) rfl rfl argsS_ ?_
   with_reducible refine (laws_eqZone.calls kj10 t1000 t1001 _ _ t1002 t1011 t1012 _ _ t1013 true _ ?side1 ?side2 ?side3 ?side4 A34.out).mono ?_
   (case side1 => exact kD_ (Kd.R_reads' HO_1006002.out).2.2)
   (case side2 => exact (Kd.R_reads' HO_1006002.out).2.1)
   (case side3 => exact kD_ (Kd.R_reads' HO1015.out).2.2)
   (case side4 => exact (Kd.R_reads' HO1015.out).2.1)
   rintro e w41 ⟨rfl, hb⟩
   refine ⟨_, rfl, ?_⟩
   replace HO_4 := a0_ (Kd.R_below (kR_ HO_4.out) hb)
   replace HO_7 := a0_ (Kd.R_below (kR_ HO_7.out) hb)
   replace HO_1006002 := a0_ (Kd.R_below (kR_ HO_1006002.out) hb)
   replace HO1015 := a0_ (Kd.R_below (kR_ HO1015.out) hb)
   replace BK989 := a0_ (bkB_ BK989 hb)
   replace BK1005 := a0_ (bkB_ BK1005 hb)
   replace HB := a0_ (below_step bq1_ hb)
   (try clear hb)
   (try clear hb2)
   (try clear hk)
   (try clear hi)
   refine hK.out _ _ ⟨(blk_cell BK1005.out 0).trans rfl, (blk_cell BK1005.out 1).trans rfl, (blk_cell BK1005.out 2).trans rfl, (blk_cell BK989.out 0).trans rfl, (blk_cell BK989.out 1).trans rfl, (blk_cell BK989.out 2).trans rfl⟩ (fun hHeld => ?_)
   clear hK K
   refine normS_ ?_
   refine pure_ (i := 4) (N := some 45) (v := ?_) (a' := ?_) #[true, true, true, true, true] rfl rfl (by kernel_rfl) (fun _ _ _ h => h) (Or.inl ⟨by rfl, ?_⟩) ?_ ?_
   rotate_left
   · intro w'
     go_simp
     with_reducible rfl
   rotate_left
   · simp only [Act.put, List.setIfInBounds_toArray, List.set_cons_zero, List.set_cons_succ, i64_w, i32_w]
     rfl
   refine done_ (by kernel_rfl) ?_
   have hnb42 := NB1005_989.out
   have hnc42 := NB989_1005.out
   have z43_0 : w41.cell? ⟨gb1005, 0, none⟩ = some (.string t1000) := (blk_cell BK1005.out 0).trans rfl
   have z43_1 : w41.cell? ⟨gb1005, 1, none⟩ = some (.int .i64 t1001) := (blk_cell BK1005.out 1).trans rfl
   have z43_2 : w41.cell? ⟨gb1005, 2, none⟩ = some (.slice Ao24 t1002.length co24) := (blk_cell BK1005.out 2).trans rfl
   have q43_0 := blk_frozen BK1005.out 0
   have q43_1 := blk_frozen BK1005.out 1
   have q43_2 := blk_frozen BK1005.out 2
   go_upto_region 14 with (first | ((with_reducible refine gate_callee (f := 28) rfl ?_); refine goesL_ (some 48) rfl rfl Tryz.func28 (by kernel_rfl) rfl #[.agg #[.string t1000, .int .i64 t1001, .slice Ao24 t1002.length co24], .int .i64 1] rfl argsS_ ?_; (with_reducible refine (laws_markZone.calls kj10 t1000 t1001 (fun k_ => some k_ = (.slice Ao24 t1002.length co24 : Value).ownBlock) (.slice Ao24 t1002.length co24) t1002 1 t1017 t1018 w _ ?side1 ?side2 A36.out).mono ?_); (case side1 => repeat (first | (with_reducible first | exact HB.out | apply below_alloc | apply pw_below_drewN | apply below_drew1 | refine below_set ?_ GE989.out | refine below_set ?_ GE1005.out) | exact HB.out)); (case side2 => exact Kd.R_tight rfl HO_1006002.out); rintro e w44 ⟨rfl, hy0, hb, hkp⟩; refine ⟨_, rfl, ?_⟩; have n0_ := a0_ (Kd.R_mono (ok' := fun k_ => some k_ ≠ (v1007 : Value).ownBlock) (Kd.R_keptB ((Kd.R_apart' HO_4.out (Kd.R_typed HO_1006002.out) (by decide))) hkp (fun k_ hk_ hs_ => (hk_.2) hs_)) (fun k_ hk_ => hk_.1.1)); have n1_ := a0_ (Kd.R_mono (ok' := fun k_ => some k_ ≠ (v997 : Value).ownBlock) (Kd.R_keptB ((Kd.R_apart' HO_7.out (Kd.R_typed HO_1006002.out) (by decide))) hkp (fun k_ hk_ hs_ => (hk_.2) hs_)) (fun k_ hk_ => hk_.1.1)); have n2_ := a0_ (Kd.R_reok rfl hy0 (fun k_ e_ => HO_1006002.out.1 k_ e_)); have n3_ := a0_ (blk_kept (kB_ BK989.out) hkp (fun hs_ => (fun e_ => (Kd.R_ne HO_1006002.out BK989.out (by decide)) e_) hs_)); have n4_ := a0_ (blk_kept (kB_ BK1005.out) hkp (fun hs_ => (fun e_ => (Kd.R_ne HO_1006002.out BK1005.out (by decide)) e_) hs_)); have n5_ := a0_ (Kd.R_mono (ok' := fun k_ => nw_ k_ Ao24 t1002.length co24) (Kd.R_keptB (HO1015.out) hkp (fun k_ hk_ hs_ => (hk_.2) hs_)) (fun k_ hk_ => hk_.1.2)); have n6_ := a0_ (hb); clear HO_4; clear HO_7; clear HO_1006002; clear BK989; clear BK1005; clear HO1015; clear HB; have HO_4 := n0_; have HO_7 := n1_; have HO_1006002 := n2_; have BK989 := n3_; have BK1005 := n4_; have HO1015 := n5_; have HB := n6_; clear n0_ n1_ n2_ n3_ n4_ n5_ n6_; (try clear hb); (try clear hkp); (try clear hy0)))
   (try simp only [Act.put, List.setIfInBounds_toArray, List.set_cons_zero, List.set_cons_succ])
   go_cut [61] (fun v61 wc => ∃ (kq : Nat) (x61_36 : Bool), v61 = .bool x61_36 ∧ Aside0 (laws_FnExactNamesIn.j1 kq t996 t999 t1006 x61_36 a0_0 a0_1 l0_2 = some r) ∧ Aside0 (kq ≤ kj10) ∧ Aside0 (Kd.R Kd.string 9 wc w.heap.size (fun k_ => some k_ ≠ (v1007 : Value).ownBlock) v997 t996) ∧ Aside0 (Kd.R Kd.string 9 wc w.heap.size (fun k_ => some k_ ≠ (v997 : Value).ownBlock) v1007 t1006) ∧ Aside0 (Kd.R k72 72 wc w.heap.size (fun _ => True) (.slice Ao24 t1002.length co24) t1018) ∧ Aside0 (wc.heap[gb989]? = some (.cells #[.string a0_0, .int .i64 a0_1, (.slice A0_2 l0_2.length c0_2)] 51 (0, 0))) ∧ Aside0 (wc.heap[gb1005]? = some (.cells #[.string t1000, .int .i64 t1001, (.slice Ao24 t1002.length co24)] 42 (0, 0))) ∧ Aside0 (Below w.heap.size w wc))
   case first =>
    have H := HC37.out
    clear HC37
    by_cases c45 : t1017 < 0
    case pos =>
     rw [if_pos c45] at H
     have c45b0 := decide_eq_true c45
     clear c45
     (first | rw [c45b0] | (simp only [i64_w, i32_w]; rw [c45b0]) | skip)
     have H' := a0_ H
     clear H
     go_wp2
     go_meet
     case rel => exact ⟨_, (true), rs_, H', ⟨by have := HJ10.out; first | omega | exact Nat.le_refl _⟩, ⟨by (with_reducible repeat (first | apply Kd.R_alloc | apply Kd.R_drewN | apply Kd.R_drew)); exact HO_4.out⟩, ⟨by (with_reducible repeat (first | apply Kd.R_alloc | apply Kd.R_drewN | apply Kd.R_drew)); exact HO_7.out⟩, ⟨by (with_reducible repeat (first | apply Kd.R_alloc | apply Kd.R_drewN | apply Kd.R_drew)); exact Kd.R_mono HO_1006002.out (fun _ hk => trivial)⟩, ⟨by (with_reducible repeat (first | refine blk_drewN ?_ _ | refine blk_drew ?_ | refine blk_alloc ?_ _)); exact BK989.out⟩, ⟨by (with_reducible repeat (first | refine blk_drewN ?_ _ | refine blk_drew ?_ | refine blk_alloc ?_ _)); exact BK1005.out⟩, ⟨bq1_⟩⟩
    rw [if_neg c45] at H
    have c45b0 := decide_eq_false c45
    clear c45
    (first | rw [c45b0] | (simp only [i64_w, i32_w]; rw [c45b0]) | skip)
    obtain ⟨t1019, A460, H⟩ := Option.bind_eq_some_iff.mp H
    have A46 := a0_ A460
    clear A460
    by_cases c47 : t1019 = true
    case pos =>
     subst c47
     rw [if_pos rfl] at H
     have H' := a0_ H
     clear H
     obtain ⟨Ao48, co48, eo48⟩ := Kd.R_slice HO_7.out
     subst eo48
     obtain ⟨Ao49, co49, eo49⟩ := Kd.R_slice HO_4.out
     subst eo49
     go_wp2_with (first | (go_at_call 45; (with_reducible refine (laws_eqStringS.calls kj10 _ _ t1006 _ _ t996 true _ ?side1 ?side2 ?side3 ?side4 A46.out).mono ?_); (case side1 => exact kD_ (Kd.R_reads' HO_7.out).2.2); (case side2 => exact (Kd.R_reads' HO_7.out).2.1); (case side3 => exact kD_ (Kd.R_reads' HO_4.out).2.2); (case side4 => exact (Kd.R_reads' HO_4.out).2.1); rintro e w' ⟨rfl, ⟨nd, rfl⟩⟩))
     go_meet
     case rel => exact ⟨_, ((t1009 != t999)), rs_, H', ⟨by have := HJ10.out; first | omega | exact Nat.le_refl _⟩, ⟨by (with_reducible repeat (first | apply Kd.R_alloc | apply Kd.R_drewN | apply Kd.R_drew)); exact HO_4.out⟩, ⟨by (with_reducible repeat (first | apply Kd.R_alloc | apply Kd.R_drewN | apply Kd.R_drew)); exact HO_7.out⟩, ⟨by (with_reducible repeat (first | apply Kd.R_alloc | apply Kd.R_drewN | apply Kd.R_drew)); exact Kd.R_mono HO_1006002.out (fun _ hk => trivial)⟩, ⟨by (with_reducible repeat (first | refine blk_drewN ?_ _ | refine blk_drew ?_ | refine blk_alloc ?_ _)); exact BK989.out⟩, ⟨by (with_reducible repeat (first | refine blk_drewN ?_ _ | refine blk_drew ?_ | refine blk_alloc ?_ _)); exact BK1005.out⟩, ⟨bq1_⟩⟩
    replace c47 := Bool.eq_false_iff.mpr c47
    subst c47
    rw [if_neg (show ¬ (false = true) by decide)] at H
    have H' := a0_ H
    clear H
    obtain ⟨Ao50, co50, eo50⟩ := Kd.R_slice HO_7.out
    subst eo50
    obtain ⟨Ao51, co51, eo51⟩ := Kd.R_slice HO_4.out
    subst eo51
    go_wp2_with (first | (go_at_call 45; (with_reducible refine (laws_eqStringS.calls kj10 _ _ t1006 _ _ t996 false _ ?side1 ?side2 ?side3 ?side4 A46.out).mono ?_); (case side1 => exact kD_ (Kd.R_reads' HO_7.out).2.2); (case side2 => exact (Kd.R_reads' HO_7.out).2.1); (case side3 => exact kD_ (Kd.R_reads' HO_4.out).2.2); (case side4 => exact (Kd.R_reads' HO_4.out).2.1); rintro e w' ⟨rfl, ⟨nd, rfl⟩⟩))
    go_meet
    case rel => exact ⟨_, (true), rs_, H', ⟨by have := HJ10.out; first | omega | exact Nat.le_refl _⟩, ⟨by (with_reducible repeat (first | apply Kd.R_alloc | apply Kd.R_drewN | apply Kd.R_drew)); exact HO_4.out⟩, ⟨by (with_reducible repeat (first | apply Kd.R_alloc | apply Kd.R_drewN | apply Kd.R_drew)); exact HO_7.out⟩, ⟨by (with_reducible repeat (first | apply Kd.R_alloc | apply Kd.R_drewN | apply Kd.R_drew)); exact Kd.R_mono HO_1006002.out (fun _ hk => trivial)⟩, ⟨by (with_reducible repeat (first | refine blk_drewN ?_ _ | refine blk_drew ?_ | refine blk_alloc ?_ _)); exact BK989.out⟩, ⟨by (with_reducible repeat (first | refine blk_drewN ?_ _ | refine blk_drew ?_ | refine blk_alloc ?_ _)); exact BK1005.out⟩, ⟨bq1_⟩⟩
   case rest =>
    clear HC37
    try clear c1
    try clear c2
    try clear p2
    try clear c3
    try clear c3b0
    try clear c4
    try clear c11
    try clear c22
    try clear c27
    try clear c28
    try clear c32
    try clear c34
    try clear c35
    try clear c42
    try clear c43
    try clear c44
    try clear c45
    try clear c45b0
    try clear c47
    try clear z13_0 z13_1 z13_2
    try clear z15_0 z15_1 z15_2
    try clear z19_0 z19_1 z19_2
    try clear z23_0 z23_1 z23_2
    try clear z43_0 z43_1 z43_2
    try clear z5_0 z5_1 z5_2
    try clear q13_0 q13_1 q13_2
    try clear q15_0 q15_1 q15_2
    try clear q19_0 q19_1 q19_2
    try clear q23_0 q23_1 q23_2
    try clear q43_0 q43_1 q43_2
    try clear q5_0 q5_1 q5_2
    try clear p2
    obtain ⟨kq, x61_36, rfl, HA, HJ36, HO_4, HO_7, HO_1006002, BK989, BK1005, HB⟩ := hcut
    have hl1006002_36 := (Kd.R_reads' HO_1006002.out).1
    rw [hl1006002_36] at HO_1006002
    (try simp only [hl1006002_36])
    (try simp only [hl1006002_36] at BK989)
    (try simp only [hl1006002_36] at BK1005)
    (try simp only [hl1006002_36] at HO_4)
    (try simp only [hl1006002_36] at HO_7)
    cases kq with
    | zero => exact absurd HA.out (by simp [laws_FnExactNamesIn.j1])
    | succ kj36 =>
     have H := HA.out
     clear HA
     simp only [laws_FnExactNamesIn.j1] at H
     by_cases c52 : x61_36 = true
     case pos =>
      subst c52
      rw [if_pos rfl] at H
      obtain rfl := Option.some.inj H
      go_wp2
      go_ret
      exact ⟨rr_, bq1_⟩
     replace c52 := Bool.eq_false_iff.mpr c52
     subst c52
     rw [if_neg (show ¬ (false = true) by decide)] at H
     obtain ⟨⟨t1020, t1021⟩, A530, H⟩ := Option.bind_eq_some_iff.mp H
     have A53 := a0_ A530
     clear A530
     obtain ⟨t1022, A540, H⟩ := Option.bind_eq_some_iff.mp H
     have A54 := a0_ A540
     clear A540
     by_cases c55 : t1022 < 0
     case pos =>
      rw [if_pos c55] at H
      have c55b0 := decide_eq_true c55
      clear c55
      obtain rfl := Option.some.inj H
      obtain ⟨Ao56, co56, eo56⟩ := Kd.R_slice HO_7.out
      subst eo56
      go_wp2_with (first | ((with_reducible refine gate_callee (f := 46) rfl ?_); refine goesL_ (some 64) rfl rfl Tryz.func46 (by kernel_rfl) rfl #[.slice Ao56 t1006.length co56, .int .i64 1] rfl argsS_ ?_; (with_reducible refine (laws_markStringS.calls kj36 (fun k_ => some k_ = (.slice Ao56 t1006.length co56 : Value).ownBlock) (.slice Ao56 t1006.length co56) t1006 1 t1020 t1021 w _ ?side1 ?side2 A53.out).mono ?_); (case side1 => repeat (first | (with_reducible first | exact HB.out | apply below_alloc | apply pw_below_drewN | apply below_drew1 | refine below_set ?_ GE989.out | refine below_set ?_ GE1005.out) | exact HB.out)); (case side2 => exact Kd.R_tight rfl HO_7.out); rintro e w57 ⟨rfl, hy0, hb, hkp⟩; refine ⟨_, rfl, ?_⟩; have n0_ := a0_ (Kd.R_mono (ok' := fun k_ => nw_ k_ Ao56 t1006.length co56) (Kd.R_keptB (HO_4.out) hkp (fun k_ hk_ hs_ => (hk_) hs_)) (fun k_ hk_ => hk_.1)); have n1_ := a0_ (Kd.R_reok rfl hy0 (fun k_ e_ => HO_7.out.1 k_ e_)); have n2_ := a0_ (Kd.R_mono (ok' := fun k_ => True) (Kd.R_keptB ((Kd.R_apart' HO_1006002.out (Kd.R_typed HO_7.out) (by decide))) hkp (fun k_ hk_ hs_ => (hk_.2) hs_)) (fun k_ hk_ => trivial)); have n3_ := a0_ (blk_kept (kB_ BK989.out) hkp (fun hs_ => (fun e_ => (Kd.R_ne HO_7.out BK989.out (by decide)) e_) hs_)); have n4_ := a0_ (blk_kept (kB_ BK1005.out) hkp (fun hs_ => (fun e_ => (Kd.R_ne HO_7.out BK1005.out (by decide)) e_) hs_)); have n5_ := a0_ (hb); clear HO_4; clear HO_7; clear HO_1006002; clear BK989; clear BK1005; clear HB; have HO_4 := n0_; have HO_7 := n1_; have HO_1006002 := n2_; have BK989 := n3_; have BK1005 := n4_; have HB := n5_; clear n0_ n1_ n2_ n3_ n4_ n5_; (try clear hb); (try clear hkp); (try clear hy0)) | ((with_reducible refine gate_callee (f := 47) rfl ?_); refine goesL_ (some 67) rfl rfl Tryz.func47 (by kernel_rfl) rfl #[.slice Ao56 t1021.length co56, .int .i64 1] rfl (by (try simp only [List.map_toArray, List.map_cons, List.map_nil]); first | done | (rw [show t1021.length = t1006.length from (Kd.R_reads' HO_7.out).1.symm] <;> rfl) | rfl | (simp only [List.length_drop, List.length_take]; rfl)) ?_; (with_reducible refine (laws_heldStringS.calls kj36 _ _ t1021 1 t1022 _ ?side1 ?side2 A54.out).mono ?_); (case side1 => exact kD_ (Kd.R_reads' HO_7.out).2.2); (case side2 => rw [show t1021.length = t1006.length from (Kd.R_reads' HO_7.out).1.symm]; exact (Kd.R_reads' HO_7.out).2.1); rintro e w58 ⟨rfl, hb⟩; refine ⟨_, rfl, ?_⟩; replace HO_4 := a0_ (Kd.R_below (kR_ HO_4.out) hb); replace HO_7 := a0_ (Kd.R_below (kR_ HO_7.out) hb); replace HO_1006002 := a0_ (Kd.R_below (kR_ HO_1006002.out) hb); replace BK989 := a0_ (bkB_ BK989 hb); replace BK1005 := a0_ (bkB_ BK1005 hb); replace HB := a0_ (below_step bq1_ hb); (try clear hb); (try clear hb2); (try clear hk); (try clear hi)))
      go_ret
      exact ⟨rr_, bq1_⟩
     rw [if_neg c55] at H
     have c55b0 := decide_eq_false c55
     clear c55
     by_cases c59 : t1022 = t1020
     case neg =>
      rw [if_neg c59] at H
      have c59b0 := beq_eq_false_iff_ne.mpr c59
      have c59b1 := bne_iff_ne.mpr c59
      obtain rfl := Option.some.inj H
      obtain ⟨Ao84, co84, eo84⟩ := Kd.R_slice HO_7.out
      subst eo84
      go_wp2_with (first | ((with_reducible refine gate_callee (f := 46) rfl ?_); refine goesL_ (some 64) rfl rfl Tryz.func46 (by kernel_rfl) rfl #[.slice Ao84 t1006.length co84, .int .i64 1] rfl argsS_ ?_; (with_reducible refine (laws_markStringS.calls kj36 (fun k_ => some k_ = (.slice Ao84 t1006.length co84 : Value).ownBlock) (.slice Ao84 t1006.length co84) t1006 1 t1020 t1021 w _ ?side1 ?side2 A53.out).mono ?_); (case side1 => repeat (first | (with_reducible first | exact HB.out | apply below_alloc | apply pw_below_drewN | apply below_drew1 | refine below_set ?_ GE989.out | refine below_set ?_ GE1005.out) | exact HB.out)); (case side2 => exact Kd.R_tight rfl HO_7.out); rintro e w85 ⟨rfl, hy0, hb, hkp⟩; refine ⟨_, rfl, ?_⟩; have n0_ := a0_ (Kd.R_mono (ok' := fun k_ => nw_ k_ Ao84 t1006.length co84) (Kd.R_keptB (HO_4.out) hkp (fun k_ hk_ hs_ => (hk_) hs_)) (fun k_ hk_ => hk_.1)); have n1_ := a0_ (Kd.R_reok rfl hy0 (fun k_ e_ => HO_7.out.1 k_ e_)); have n2_ := a0_ (Kd.R_mono (ok' := fun k_ => True) (Kd.R_keptB ((Kd.R_apart' HO_1006002.out (Kd.R_typed HO_7.out) (by decide))) hkp (fun k_ hk_ hs_ => (hk_.2) hs_)) (fun k_ hk_ => trivial)); have n3_ := a0_ (blk_kept (kB_ BK989.out) hkp (fun hs_ => (fun e_ => (Kd.R_ne HO_7.out BK989.out (by decide)) e_) hs_)); have n4_ := a0_ (blk_kept (kB_ BK1005.out) hkp (fun hs_ => (fun e_ => (Kd.R_ne HO_7.out BK1005.out (by decide)) e_) hs_)); have n5_ := a0_ (hb); clear HO_4; clear HO_7; clear HO_1006002; clear BK989; clear BK1005; clear HB; have HO_4 := n0_; have HO_7 := n1_; have HO_1006002 := n2_; have BK989 := n3_; have BK1005 := n4_; have HB := n5_; clear n0_ n1_ n2_ n3_ n4_ n5_; (try clear hb); (try clear hkp); (try clear hy0)) | ((with_reducible refine gate_callee (f := 47) rfl ?_); refine goesL_ (some 67) rfl rfl Tryz.func47 (by kernel_rfl) rfl #[.slice Ao84 t1021.length co84, .int .i64 1] rfl (by (try simp only [List.map_toArray, List.map_cons, List.map_nil]); first | done | (rw [show t1021.length = t1006.length from (Kd.R_reads' HO_7.out).1.symm] <;> rfl) | rfl | (simp only [List.length_drop, List.length_take]; rfl)) ?_; (with_reducible refine (laws_heldStringS.calls kj36 _ _ t1021 1 t1022 _ ?side1 ?side2 A54.out).mono ?_); (case side1 => exact kD_ (Kd.R_reads' HO_7.out).2.2); (case side2 => rw [show t1021.length = t1006.length from (Kd.R_reads' HO_7.out).1.symm]; exact (Kd.R_reads' HO_7.out).2.1); rintro e w86 ⟨rfl, hb⟩; refine ⟨_, rfl, ?_⟩; replace HO_4 := a0_ (Kd.R_below (kR_ HO_4.out) hb); replace HO_7 := a0_ (Kd.R_below (kR_ HO_7.out) hb); replace HO_1006002 := a0_ (Kd.R_below (kR_ HO_1006002.out) hb); replace BK989 := a0_ (bkB_ BK989 hb); replace BK1005 := a0_ (bkB_ BK1005 hb); replace HB := a0_ (below_step bq1_ hb); (try clear hb); (try clear hb2); (try clear hk); (try clear hi)))
      go_ret
      exact ⟨rr_, bq1_⟩
     rw [if_pos c59] at H
     have c59b0 := beq_iff_eq.mpr c59
     have c59b1 := bne_eq_false_iff_eq.mpr c59
     clear c59
     obtain ⟨⟨t1023, t1024, t1025⟩, A600, H⟩ := Option.bind_eq_some_iff.mp H
     have A60 := a0_ A600
     clear A600
     obtain ⟨⟨t1028, t1031⟩, A610, H⟩ := Option.bind_eq_some_iff.mp H
     have A61 := a0_ A610
     clear A610
     have HC62 := a0_ H
     clear H
     obtain ⟨Ao63, co63, eo63⟩ := Kd.R_slice HO_7.out
     subst eo63
     go_upto_region 25 with (first | ((with_reducible refine gate_callee (f := 46) rfl ?_); refine goesL_ (some 64) rfl rfl Tryz.func46 (by kernel_rfl) rfl #[.slice Ao63 t1006.length co63, .int .i64 1] rfl argsS_ ?_; (with_reducible refine (laws_markStringS.calls kj36 (fun k_ => some k_ = (.slice Ao63 t1006.length co63 : Value).ownBlock) (.slice Ao63 t1006.length co63) t1006 1 t1020 t1021 w _ ?side1 ?side2 A53.out).mono ?_); (case side1 => repeat (first | (with_reducible first | exact HB.out | apply below_alloc | apply pw_below_drewN | apply below_drew1 | refine below_set ?_ GE989.out | refine below_set ?_ GE1005.out) | exact HB.out)); (case side2 => exact Kd.R_tight rfl HO_7.out); rintro e w64 ⟨rfl, hy0, hb, hkp⟩; refine ⟨_, rfl, ?_⟩; have n0_ := a0_ (Kd.R_mono (ok' := fun k_ => nw_ k_ Ao63 t1006.length co63) (Kd.R_keptB (HO_4.out) hkp (fun k_ hk_ hs_ => (hk_) hs_)) (fun k_ hk_ => hk_.1)); have n1_ := a0_ (Kd.R_reok rfl hy0 (fun k_ e_ => HO_7.out.1 k_ e_)); have n2_ := a0_ (Kd.R_mono (ok' := fun k_ => True) (Kd.R_keptB ((Kd.R_apart' HO_1006002.out (Kd.R_typed HO_7.out) (by decide))) hkp (fun k_ hk_ hs_ => (hk_.2) hs_)) (fun k_ hk_ => trivial)); have n3_ := a0_ (blk_kept (kB_ BK989.out) hkp (fun hs_ => (fun e_ => (Kd.R_ne HO_7.out BK989.out (by decide)) e_) hs_)); have n4_ := a0_ (blk_kept (kB_ BK1005.out) hkp (fun hs_ => (fun e_ => (Kd.R_ne HO_7.out BK1005.out (by decide)) e_) hs_)); have n5_ := a0_ (hb); clear HO_4; clear HO_7; clear HO_1006002; clear BK989; clear BK1005; clear HB; have HO_4 := n0_; have HO_7 := n1_; have HO_1006002 := n2_; have BK989 := n3_; have BK1005 := n4_; have HB := n5_; clear n0_ n1_ n2_ n3_ n4_ n5_; (try clear hb); (try clear hkp); (try clear hy0)) | ((with_reducible refine gate_callee (f := 47) rfl ?_); refine goesL_ (some 67) rfl rfl Tryz.func47 (by kernel_rfl) rfl #[.slice Ao63 t1021.length co63, .int .i64 1] rfl (by (try simp only [List.map_toArray, List.map_cons, List.map_nil]); first | done | (rw [show t1021.length = t1006.length from (Kd.R_reads' HO_7.out).1.symm] <;> rfl) | rfl | (simp only [List.length_drop, List.length_take]; rfl)) ?_; (with_reducible refine (laws_heldStringS.calls kj36 _ _ t1021 1 t1022 _ ?side1 ?side2 A54.out).mono ?_); (case side1 => exact kD_ (Kd.R_reads' HO_7.out).2.2); (case side2 => rw [show t1021.length = t1006.length from (Kd.R_reads' HO_7.out).1.symm]; exact (Kd.R_reads' HO_7.out).2.1); rintro e w65 ⟨rfl, hb⟩; refine ⟨_, rfl, ?_⟩; replace HO_4 := a0_ (Kd.R_below (kR_ HO_4.out) hb); replace HO_7 := a0_ (Kd.R_below (kR_ HO_7.out) hb); replace HO_1006002 := a0_ (Kd.R_below (kR_ HO_1006002.out) hb); replace BK989 := a0_ (bkB_ BK989 hb); replace BK1005 := a0_ (bkB_ BK1005 hb); replace HB := a0_ (below_step bq1_ hb); (try clear hb); (try clear hb2); (try clear hk); (try clear hi); have hnb66 := NB989_1005.out; have hnc66 := NB1005_989.out; obtain ⟨z67_0, z67_1, z67_2, q67_0, q67_1, q67_2⟩ := bk3_ BK989.out) | ((with_reducible refine gate_callee (f := 34) rfl ?_); refine goesL_ (some 75) rfl rfl Tryz.func34 (by kernel_rfl) rfl #[.agg #[.string a0_0, .int .i64 a0_1, .slice A0_2 l0_2.length c0_2]] rfl argsS_ ?_; (with_reducible refine (laws_toZone.calls kj36 a0_0 a0_1 _ _ l0_2 t1023 t1024 t1025 _ ?side1 ?side2 A60.out).mono ?_); (case side1 => exact kC_ HR0_2.out HB.out); (case side2 => exact HC0_2.out); rintro e w68 ⟨v1026, rfl, ho0, hb⟩; refine ⟨_, rfl, ?_⟩; have n0_ := a0_ (Kd.R_below (kR_ HO_4.out) hb); have n1_ := a0_ (Kd.R_below (kR_ HO_7.out) hb); have n2_ := a0_ (Kd.R_elder' (kR_ HO_1006002.out) (Kd.R_base ho0) hb); have n3_ := a0_ (Kd.R_lower (Kd.R_new' ho0 (Kd.R_lt (kR_ HO_1006002.out))) (below_size bq1_)); have n4_ := a0_ (bkB_ BK989 hb); have n5_ := a0_ (bkB_ BK1005 hb); have n6_ := a0_ (below_step bq1_ hb); clear HO_4; clear HO_7; clear HO_1006002; clear BK989; clear BK1005; clear HB; have HO_4 := n0_; have HO_7 := n1_; have HO_1006002 := n2_; have HO1027 := n3_; have BK989 := n4_; have BK1005 := n5_; have HB := n6_; clear n0_ n1_ n2_ n3_ n4_ n5_ n6_; (try clear hb); (try clear hb2); (try clear hk); (try clear hi); (try clear ho0); obtain ⟨Ao69, co69, eo69⟩ := Kd.R_slice HO1027.out; subst eo69) | ((with_reducible refine gate_callee (f := 44) rfl ?_); refine goesL_ (some 76) rfl rfl Tryz.func44 (by kernel_rfl) rfl #[.agg #[.string t1023, .int .i64 t1024, .slice Ao69 t1025.length co69]] rfl argsS_ ?_; (with_reducible refine (impl_NamesIn.calls kj36 t1023 t1024 _ _ t1025 t1028 t1031 _ ?side1 ?side2 A61.out).mono ?_); (case side1 => exact kD_ (Kd.R_reads' HO1027.out).2.2); (case side2 => exact (Kd.R_reads' HO1027.out).2.1); rintro e w70 ⟨v1029, rfl, ho0, hb⟩; refine ⟨_, rfl, ?_⟩; have n0_ := a0_ (Kd.R_elder' (kR_ HO_4.out) (Kd.R_base ho0) hb); have n1_ := a0_ (Kd.R_elder' (kR_ HO_7.out) (Kd.R_base ho0) hb); have n2_ := a0_ (Kd.R_below (kR_ HO_1006002.out) hb); have n3_ := a0_ (Kd.R_below (kR_ HO1027.out) hb); have n4_ := a0_ (Kd.R_lower (Kd.R_new' (Kd.R_new' ho0 (Kd.R_lt (kR_ HO_4.out))) (Kd.R_lt (kR_ HO_7.out))) (below_size bq1_)); have n5_ := a0_ (bkB_ BK989 hb); have n6_ := a0_ (bkB_ BK1005 hb); have n7_ := a0_ (below_step bq1_ hb); clear HO_4; clear HO_7; clear HO_1006002; clear HO1027; clear BK989; clear BK1005; clear HB; have HO_4 := n0_; have HO_7 := n1_; have HO_1006002 := n2_; have HO1027 := n3_; have HO1030 := n4_; have BK989 := n5_; have BK1005 := n6_; have HB := n7_; clear n0_ n1_ n2_ n3_ n4_ n5_ n6_ n7_; (try clear hb); (try clear hb2); (try clear hk); (try clear hi); (try clear ho0)))
     (try simp only [Act.put, List.setIfInBounds_toArray, List.set_cons_zero, List.set_cons_succ])
     go_cut [87] (fun v87 wc => ∃ (kq : Nat) (x87_61 : Bool), v87 = .bool x87_61 ∧ Aside0 (laws_FnExactNamesIn.j2 kq t1021 t1020 x87_61 = some r) ∧ Aside0 (kq ≤ kj36) ∧ Aside0 (Kd.R Kd.string 9 wc w.heap.size (fun _ => True) (.slice Ao63 t1006.length co63) t1021) ∧ Aside0 (Kd.R k72 72 wc w.heap.size (fun _ => True) (.slice Ao24 t1018.length co24) t1018) ∧ Aside0 (wc.heap[gb989]? = some (.cells #[.string a0_0, .int .i64 a0_1, (.slice A0_2 l0_2.length c0_2)] 51 (0, 0))) ∧ Aside0 (wc.heap[gb1005]? = some (.cells #[.string t1000, .int .i64 t1001, (.slice Ao24 t1018.length co24)] 42 (0, 0))) ∧ Aside0 (Below w.heap.size w wc))
     case first =>
      have H := HC62.out
      clear HC62
      obtain ⟨t1032, A710, H⟩ := Option.bind_eq_some_iff.mp H
      have A71 := a0_ A710
      clear A710
      by_cases c72 : t1032 = true
      case pos =>
       subst c72
       rw [if_pos rfl] at H
       have H' := a0_ H
       clear H
       obtain ⟨Ao73, co73, eo73⟩ := Kd.R_slice HO1030.out
       subst eo73
       obtain ⟨Ao74, co74, eo74⟩ := Kd.R_slice HO_4.out
       subst eo74
       go_wp2_with (first | ((with_reducible refine gate_callee (f := 45) rfl ?_); refine goesL_ (some 81) rfl rfl Tryz.func45 (by kernel_rfl) rfl #[.slice Ao73 t1028.length co73, .slice Ao74 t996.length co74] rfl argsS_ ?_; (with_reducible refine (laws_eqStringS.calls kj36 _ _ t1028 _ _ t996 true _ ?side1 ?side2 ?side3 ?side4 A71.out).mono ?_); (case side1 => exact kD_ (Kd.R_reads' HO1030.out).2.2); (case side2 => exact (Kd.R_reads' HO1030.out).2.1); (case side3 => exact kD_ (Kd.R_reads' HO_4.out).2.2); (case side4 => exact (Kd.R_reads' HO_4.out).2.1); rintro e w' ⟨rfl, ⟨nd, rfl⟩⟩; refine ⟨_, rfl, ?_⟩))
       go_meet
       case rel => exact ⟨_, ((t1031 != t999)), rs_, H', ⟨by have := HJ10.out; have := HJ36.out; first | omega | exact Nat.le_refl _⟩, ⟨by (try simp only [hl1006002_36]); (with_reducible repeat (first | apply Kd.R_alloc | apply Kd.R_drewN | apply Kd.R_drew)); exact Kd.R_mono HO_7.out (fun _ hk => trivial)⟩, ⟨by (try simp only [hl1006002_36]); (with_reducible repeat (first | apply Kd.R_alloc | apply Kd.R_drewN | apply Kd.R_drew)); exact Kd.R_mono HO_1006002.out (fun _ hk => trivial)⟩, ⟨by (try simp only [hl1006002_36]); (with_reducible repeat (first | refine blk_drewN ?_ _ | refine blk_drew ?_ | refine blk_alloc ?_ _)); exact BK989.out⟩, ⟨by (try simp only [hl1006002_36]); (with_reducible repeat (first | refine blk_drewN ?_ _ | refine blk_drew ?_ | refine blk_alloc ?_ _)); exact BK1005.out⟩, ⟨bq1_⟩⟩
      replace c72 := Bool.eq_false_iff.mpr c72
      subst c72
      rw [if_neg (show ¬ (false = true) by decide)] at H
      have H' := a0_ H
      clear H
      obtain ⟨Ao75, co75, eo75⟩ := Kd.R_slice HO1030.out
      subst eo75
      obtain ⟨Ao76, co76, eo76⟩ := Kd.R_slice HO_4.out
      subst eo76
      go_wp2_with (first | ((with_reducible refine gate_callee (f := 45) rfl ?_); refine goesL_ (some 81) rfl rfl Tryz.func45 (by kernel_rfl) rfl #[.slice Ao75 t1028.length co75, .slice Ao76 t996.length co76] rfl argsS_ ?_; (with_reducible refine (laws_eqStringS.calls kj36 _ _ t1028 _ _ t996 false _ ?side1 ?side2 ?side3 ?side4 A71.out).mono ?_); (case side1 => exact kD_ (Kd.R_reads' HO1030.out).2.2); (case side2 => exact (Kd.R_reads' HO1030.out).2.1); (case side3 => exact kD_ (Kd.R_reads' HO_4.out).2.2); (case side4 => exact (Kd.R_reads' HO_4.out).2.1); rintro e w' ⟨rfl, ⟨nd, rfl⟩⟩; refine ⟨_, rfl, ?_⟩))
      go_meet
      case rel => exact ⟨_, (true), rs_, H', ⟨by have := HJ10.out; have := HJ36.out; first | omega | exact Nat.le_refl _⟩, ⟨by (try simp only [hl1006002_36]); (with_reducible repeat (first | apply Kd.R_alloc | apply Kd.R_drewN | apply Kd.R_drew)); exact Kd.R_mono HO_7.out (fun _ hk => trivial)⟩, ⟨by (try simp only [hl1006002_36]); (with_reducible repeat (first | apply Kd.R_alloc | apply Kd.R_drewN | apply Kd.R_drew)); exact Kd.R_mono HO_1006002.out (fun _ hk => trivial)⟩, ⟨by (try simp only [hl1006002_36]); (with_reducible repeat (first | refine blk_drewN ?_ _ | refine blk_drew ?_ | refine blk_alloc ?_ _)); exact BK989.out⟩, ⟨by (try simp only [hl1006002_36]); (with_reducible repeat (first | refine blk_drewN ?_ _ | refine blk_drew ?_ | refine blk_alloc ?_ _)); exact BK1005.out⟩, ⟨bq1_⟩⟩
     case rest =>
      clear HC62
      try clear c1
      try clear c2
      try clear p2
      try clear c3
      try clear c3b0
      try clear c4
      try clear c5
      try clear c6
      try clear c7
      try clear c11
      try clear c22
      try clear c27
      try clear c28
      try clear c32
      try clear c34
      try clear c35
      try clear c42
      try clear c43
      try clear c44
      try clear c45
      try clear c45b0
      try clear c46
      try clear c47
      try clear c52
      try clear c55
      try clear c55b0
      try clear c59
      try clear c59b0
      try clear c59b1
      try clear c66
      try clear c72
      try clear z13_0 z13_1 z13_2
      try clear z15_0 z15_1 z15_2
      try clear z19_0 z19_1 z19_2
      try clear z23_0 z23_1 z23_2
      try clear z43_0 z43_1 z43_2
      try clear z5_0 z5_1 z5_2
      try clear z67_0 z67_1 z67_2
      try clear q13_0 q13_1 q13_2
      try clear q15_0 q15_1 q15_2
      try clear q19_0 q19_1 q19_2
      try clear q23_0 q23_1 q23_2
      try clear q43_0 q43_1 q43_2
      try clear q5_0 q5_1 q5_2
      try clear q67_0 q67_1 q67_2
      try clear p2
      obtain ⟨kq, x87_61, rfl, HA, HJ61, HO_7, HO_1006002, BK989, BK1005, HB⟩ := hcut
      have hl7_61 := (Kd.R_reads' HO_7.out).1
      rw [hl7_61] at HO_7
      (try simp only [hl7_61])
      (try simp only [hl7_61] at BK989)
      (try simp only [hl7_61] at BK1005)
      (try simp only [hl7_61] at HO_1006002)
      cases kq with
      | zero => exact absurd HA.out (by simp [laws_FnExactNamesIn.j2])
      | succ kj61 =>
       have H := HA.out
       clear HA
       simp only [laws_FnExactNamesIn.j2] at H
       by_cases c77 : x87_61 = true
       case pos =>
        subst c77
        rw [if_pos rfl] at H
        obtain rfl := Option.some.inj H
        go_wp2
        go_ret
        exact ⟨rr_, bq1_⟩
       replace c77 := Bool.eq_false_iff.mpr c77
       subst c77
       rw [if_neg (show ¬ (false = true) by decide)] at H
       obtain ⟨t1033, A780, H⟩ := Option.bind_eq_some_iff.mp H
       have A78 := a0_ A780
       clear A780
       by_cases c79 : t1033 < 0
       case pos =>
        rw [if_pos c79] at H
        have c79b0 := decide_eq_true c79
        clear c79
        obtain rfl := Option.some.inj H
        go_wp2_with (first | ((with_reducible refine gate_callee (f := 47) rfl ?_); refine goesL_ (some 90) rfl rfl Tryz.func47 (by kernel_rfl) rfl #[.slice Ao63 t1021.length co63, .int .i64 1] rfl argsS_ ?_; (with_reducible refine (laws_heldStringS.calls kj61 _ _ t1021 1 t1033 _ ?side1 ?side2 A78.out).mono ?_); (case side1 => exact kD_ (Kd.R_reads' HO_7.out).2.2); (case side2 => exact (Kd.R_reads' HO_7.out).2.1); rintro e w80 ⟨rfl, hb⟩; refine ⟨_, rfl, ?_⟩; replace HO_7 := a0_ (Kd.R_below (kR_ HO_7.out) hb); replace HO_1006002 := a0_ (Kd.R_below (kR_ HO_1006002.out) hb); replace BK989 := a0_ (bkB_ BK989 hb); replace BK1005 := a0_ (bkB_ BK1005 hb); replace HB := a0_ (below_step bq1_ hb); (try clear hb); (try clear hb2); (try clear hk); (try clear hi)))
        go_ret
        exact ⟨rr_, bq1_⟩
       rw [if_neg c79] at H
       have c79b0 := decide_eq_false c79
       clear c79
       by_cases c81 : t1033 = t1020
       case neg =>
        rw [if_neg c81] at H
        have c81b0 := beq_eq_false_iff_ne.mpr c81
        have c81b1 := bne_iff_ne.mpr c81
        obtain rfl := Option.some.inj H
        go_wp2_with (first | ((with_reducible refine gate_callee (f := 47) rfl ?_); refine goesL_ (some 90) rfl rfl Tryz.func47 (by kernel_rfl) rfl #[.slice Ao63 t1021.length co63, .int .i64 1] rfl argsS_ ?_; (with_reducible refine (laws_heldStringS.calls kj61 _ _ t1021 1 t1033 _ ?side1 ?side2 A78.out).mono ?_); (case side1 => exact kD_ (Kd.R_reads' HO_7.out).2.2); (case side2 => exact (Kd.R_reads' HO_7.out).2.1); rintro e w83 ⟨rfl, hb⟩; refine ⟨_, rfl, ?_⟩; replace HO_7 := a0_ (Kd.R_below (kR_ HO_7.out) hb); replace HO_1006002 := a0_ (Kd.R_below (kR_ HO_1006002.out) hb); replace BK989 := a0_ (bkB_ BK989 hb); replace BK1005 := a0_ (bkB_ BK1005 hb); replace HB := a0_ (below_step bq1_ hb); (try clear hb); (try clear hb2); (try clear hk); (try clear hi)))
        go_ret
        exact ⟨rr_, bq1_⟩
       rw [if_pos c81] at H
       have c81b0 := beq_iff_eq.mpr c81
       have c81b1 := bne_eq_false_iff_eq.mpr c81
       clear c81
       obtain rfl := Option.some.inj H
       go_wp2_with (first | ((with_reducible refine gate_callee (f := 47) rfl ?_); refine goesL_ (some 90) rfl rfl Tryz.func47 (by kernel_rfl) rfl #[.slice Ao63 t1021.length co63, .int .i64 1] rfl argsS_ ?_; (with_reducible refine (laws_heldStringS.calls kj61 _ _ t1021 1 t1033 _ ?side1 ?side2 A78.out).mono ?_); (case side1 => exact kD_ (Kd.R_reads' HO_7.out).2.2); (case side2 => exact (Kd.R_reads' HO_7.out).2.1); rintro e w82 ⟨rfl, hb⟩; refine ⟨_, rfl, ?_⟩; replace HO_7 := a0_ (Kd.R_below (kR_ HO_7.out) hb); replace HO_1006002 := a0_ (Kd.R_below (kR_ HO_1006002.out) hb); replace BK989 := a0_ (bkB_ BK989 hb); replace BK1005 := a0_ (bkB_ BK1005 hb); replace HB := a0_ (below_step bq1_ hb); (try clear hb); (try clear hb2); (try clear hk); (try clear hi)))
       go_ret
       exact ⟨rr_, bq1_⟩
end Go.Proofs.YtkpkfallgjdkmaaGreatDoor.P
