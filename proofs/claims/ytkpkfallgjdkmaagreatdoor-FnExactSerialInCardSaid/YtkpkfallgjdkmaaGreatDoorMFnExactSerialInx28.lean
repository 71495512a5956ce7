/- FnExactSerialIn: part 29 of 29 of my texts for this claim, joined; the theorem stands in the last. Conditions: none beyond the statement's. -/
import Derived.Test.YtkpkfallgjdkmaaGreatDoorMFnExactSerialInx3
import Derived.Test.YtkpkfallgjdkmaaGreatDoorMFnExactSerialInx10
import Derived.Test.YtkpkfallgjdkmaaGreatDoorMFnExactSerialInx23
import Derived.Test.YtkpkfallgjdkmaaGreatDoorMFnExactSerialInx27
import Derived.Test.YtkpkfallgjdkmaaGreatDoorCards
import Derived.Test.YtkpkfallgjdkmaaGreatDoorTie
import Derived.Deep.DeepHandedRow
import Derived.Stop.LaidErr
import Derived.Lib.LaidTab
import Derived.Lib.ItoaNum
namespace Go.Proofs.YtkpkfallgjdkmaaGreatDoor.P
open Go.RowKit Go.Proofs.YtkpkfallgjdkmaaGreatDoorW.PrintWords Go.Proofs.YtkpkfallgjdkmaaGreatDoorW.PrintLast Go.Proofs.YtkpkfallgjdkmaaGreatDoorW.PrintMore
attribute [local go_sem] max2_int min2_int max_two min_two max_three min_three max_four min_four
set_option linter.unusedVariables false
set_option linter.unusedSimpArgs false
def laws_FnExactSerialIn.j0 : Nat → Bool → ByteArray → Int → List (S71) → ByteArray → Int → List (S72) → Option (Bool)
  | 0, _, _, _, _, _, _, _ => none
  | k + 1, x34, x783000, x783001, x783002, x797000, x797001, x797002 => if x34 = true then (some false) else ((laws_toZone.f k x783000 x783001 x783002).bind fun bt799 => ((laws_eqZone.f k x797000 x797001 x797002 bt799.1 bt799.2.1 bt799.2.2).bind fun t804 => (if t804 = true then (some true) else (some false))))
def laws_FnExactSerialIn.f (k : Nat) (a0_0 : ByteArray) (a0_1 : Int) (l0_2 : List (S71)) : Option (Bool) := (laws_szZone.f k a0_0 a0_1 l0_2 1048576).bind fun t783 => (if t783 < 0 then (some true) else ((laws_toZone.f k a0_0 a0_1 l0_2).bind fun bt784 => ((spec_SerialIn.f k bt784.1 bt784.2.1 bt784.2.2).bind fun bt789 => ((laws_toZone.f k a0_0 a0_1 l0_2).bind fun bt791 => ((impl_SerialIn.f k bt791.1 bt791.2.1 bt791.2.2).bind fun bt797 => (if bt797.1 = bt789.1 then (laws_FnExactSerialIn.j0 k (bt797.2 != bt789.2) a0_0 a0_1 l0_2 bt791.1 bt791.2.1 bt791.2.2) else (laws_FnExactSerialIn.j0 k true a0_0 a0_1 l0_2 bt791.1 bt791.2.1 bt791.2.2)))))))
set_option maxHeartbeats 8000000 in
set_option maxRecDepth 100000 in
theorem laws_FnExactSerialIn.calls (k : Nat) (a0_0 : ByteArray) (a0_1 : Int) (A0_2 : Option Addr) (c0_2 : Nat) (l0_2 : List (S71)) (r : Bool) (w : World) (hr0_2 : Kd.C k71 w A0_2 l0_2.length l0_2) (hc0_2 : l0_2.length ≤ c0_2) (h : laws_FnExactSerialIn.f k a0_0 a0_1 l0_2 = some r) (hv_ : Vars w := by exact vv_) :
    Calls Tryz.prog 8 #[.agg #[.string a0_0, .int .i64 a0_1, .slice A0_2 l0_2.length c0_2]] w fun e w' => e = .returned (.bool r) ∧ Below w.heap.size w w' := by
  have HV_ := a0_ hv_
  clear hv_
  have hu51 := Tryz.underlying51
  have hu42 := Tryz.underlying42
  have HR0_2 := a0_ hr0_2
  have HC0_2 := a0_ hc0_2
  clear hr0_2 hc0_2
  have HB := a0_ (Below.refl w.heap.size w)
  have H : ((laws_szZone.f k a0_0 a0_1 l0_2 1048576).bind fun t783 => (if t783 < 0 then (some true) else ((laws_toZone.f k a0_0 a0_1 l0_2).bind fun bt784 => ((spec_SerialIn.f k bt784.1 bt784.2.1 bt784.2.2).bind fun bt789 => ((laws_toZone.f k a0_0 a0_1 l0_2).bind fun bt791 => ((impl_SerialIn.f k bt791.1 bt791.2.1 bt791.2.2).bind fun bt797 => (if bt797.1 = bt789.1 then (laws_FnExactSerialIn.j0 k (bt797.2 != bt789.2) a0_0 a0_1 l0_2 bt791.1 bt791.2.1 bt791.2.2) else (laws_FnExactSerialIn.j0 k true a0_0 a0_1 l0_2 bt791.1 bt791.2.1 bt791.2.2)))))))) = some r := h
  clear h
  replace H := Option.bind_eq_some_iff.mp H
  obtain ⟨t783, A20, H⟩ := H
  replace H : (if t783 < 0 then (some true) else ((laws_toZone.f k a0_0 a0_1 l0_2).bind fun bt784 => ((spec_SerialIn.f k bt784.1 bt784.2.1 bt784.2.2).bind fun bt789 => ((laws_toZone.f k a0_0 a0_1 l0_2).bind fun bt791 => ((impl_SerialIn.f k bt791.1 bt791.2.1 bt791.2.2).bind fun bt797 => (if bt797.1 = bt789.1 then (laws_FnExactSerialIn.j0 k (bt797.2 != bt789.2) a0_0 a0_1 l0_2 bt791.1 bt791.2.1 bt791.2.2) else (laws_FnExactSerialIn.j0 k true a0_0 a0_1 l0_2 bt791.1 bt791.2.1 bt791.2.2))))))) = some r := H
  have A2 := a0_ A20
  clear A20
  by_cases c3 : t783 < 0
  · rw [if_pos c3] at H
    have c3b0 : decide (t783 < 0) = true := decide_eq_true c3
    clear c3
    obtain rfl := Option.some.inj H
    go_enter Tryz.func8, Tryz.ntmps8
    go_wp2_with (first | ((with_reducible refine gate_dst (N := 1) rfl ?_); refine boxS_ 1 #[.string a0_0, .int .i64 a0_1, .slice A0_2 l0_2.length c0_2] 51 (fun gb782 hg w4 hbox hb => ?_); have n0_ := a0_ (below_step bq0_ hb); have n1_ := a0_ (hbox); have n2_ := a0_ (gw_ hg : w.heap.size ≤ gb782); have n3_ := n2_; clear HB; have HB := n0_; have BK782 := n1_; have GW782 := n2_; have GE782 := n3_; clear n0_ n1_ n2_ n3_; clear hb hbox hg; obtain ⟨z5_0, z5_1, z5_2, q5_0, q5_1, q5_2⟩ := bk3_ BK782.out) | ((with_reducible refine gate_callee (f := 32) rfl ?_); refine goesL_ (some 11) rfl rfl Tryz.func32 (by kernel_rfl) rfl #[.agg #[.string a0_0, .int .i64 a0_1, .slice A0_2 l0_2.length c0_2], .int .i64 1048576] rfl argsS_ ?_; (with_reducible refine (laws_szZone.calls k a0_0 a0_1 _ _ l0_2 1048576 t783 _ ?side1 ?side2 A2.out).mono ?_); (case side1 => exact kC_ HR0_2.out HB.out); (case side2 => exact HC0_2.out); rintro e w6 ⟨rfl, hb⟩; refine ⟨_, rfl, ?_⟩; replace BK782 := a0_ (bkB_ BK782 hb); replace HB := a0_ (below_step bq1_ hb); (try clear hb); (try clear hb2); (try clear hk); (try clear hi)))
    go_ret
    exact ⟨rr_, bq1_⟩
  · rw [if_neg c3] at H
    have c3b0 : decide (t783 < 0) = false := decide_eq_false c3
    clear c3
    replace H := Option.bind_eq_some_iff.mp H
    obtain ⟨⟨t784, t785, t786⟩, A70, H⟩ := H
    replace H : ((spec_SerialIn.f k t784 t785 t786).bind fun bt789 => ((laws_toZone.f k a0_0 a0_1 l0_2).bind fun bt791 => ((impl_SerialIn.f k bt791.1 bt791.2.1 bt791.2.2).bind fun bt797 => (if bt797.1 = bt789.1 then (laws_FnExactSerialIn.j0 k (bt797.2 != bt789.2) a0_0 a0_1 l0_2 bt791.1 bt791.2.1 bt791.2.2) else (laws_FnExactSerialIn.j0 k true a0_0 a0_1 l0_2 bt791.1 bt791.2.1 bt791.2.2))))) = some r := H
    have A7 := a0_ A70
    clear A70
    replace H := Option.bind_eq_some_iff.mp H
    obtain ⟨⟨t789, t790⟩, A80, H⟩ := H
    replace H : ((laws_toZone.f k a0_0 a0_1 l0_2).bind fun bt791 => ((impl_SerialIn.f k bt791.1 bt791.2.1 bt791.2.2).bind fun bt797 => (if bt797.1 = t789 then (laws_FnExactSerialIn.j0 k (bt797.2 != t790) a0_0 a0_1 l0_2 bt791.1 bt791.2.1 bt791.2.2) else (laws_FnExactSerialIn.j0 k true a0_0 a0_1 l0_2 bt791.1 bt791.2.1 bt791.2.2)))) = some r := H
    have A8 := a0_ A80
    clear A80
    replace H := Option.bind_eq_some_iff.mp H
    obtain ⟨⟨t791, t792, t793⟩, A90, H⟩ := H
    replace H : ((impl_SerialIn.f k t791 t792 t793).bind fun bt797 => (if bt797.1 = t789 then (laws_FnExactSerialIn.j0 k (bt797.2 != t790) a0_0 a0_1 l0_2 t791 t792 t793) else (laws_FnExactSerialIn.j0 k true a0_0 a0_1 l0_2 t791 t792 t793))) = some r := H
    have A9 := a0_ A90
    clear A90
    replace H := Option.bind_eq_some_iff.mp H
    obtain ⟨⟨t797, t798⟩, A100, H⟩ := H
    replace H : (if t797 = t789 then (laws_FnExactSerialIn.j0 k (t798 != t790) a0_0 a0_1 l0_2 t791 t792 t793) else (laws_FnExactSerialIn.j0 k true a0_0 a0_1 l0_2 t791 t792 t793)) = some r := H
    have A10 := a0_ A100
    clear A100
    have HC11 := a0_ H
    clear H
    go_enter Tryz.func8, Tryz.ntmps8
    go_upto_region 8 with (first | ((with_reducible refine gate_dst (N := 1) rfl ?_); refine boxS_ 1 #[.string a0_0, .int .i64 a0_1, .slice A0_2 l0_2.length c0_2] 51 (fun gb782 hg w12 hbox hb => ?_); have n0_ := a0_ (below_step bq0_ hb); have n1_ := a0_ (hbox); have n2_ := a0_ (gw_ hg : w.heap.size ≤ gb782); have n3_ := n2_; clear HB; have HB := n0_; have BK782 := n1_; have GW782 := n2_; have GE782 := n3_; clear n0_ n1_ n2_ n3_; clear hb hbox hg; obtain ⟨z13_0, z13_1, z13_2, q13_0, q13_1, q13_2⟩ := bk3_ BK782.out) | ((with_reducible refine gate_callee (f := 32) rfl ?_); refine goesL_ (some 11) rfl rfl Tryz.func32 (by kernel_rfl) rfl #[.agg #[.string a0_0, .int .i64 a0_1, .slice A0_2 l0_2.length c0_2], .int .i64 1048576] rfl argsS_ ?_; (with_reducible refine (laws_szZone.calls k a0_0 a0_1 _ _ l0_2 1048576 t783 _ ?side1 ?side2 A2.out).mono ?_); (case side1 => exact kC_ HR0_2.out HB.out); (case side2 => exact HC0_2.out); rintro e w14 ⟨rfl, hb⟩; refine ⟨_, rfl, ?_⟩; replace BK782 := a0_ (bkB_ BK782 hb); replace HB := a0_ (below_step bq1_ hb); (try clear hb); (try clear hb2); (try clear hk); (try clear hi); obtain ⟨z15_0, z15_1, z15_2, q15_0, q15_1, q15_2⟩ := bk3_ BK782.out) | ((with_reducible refine gate_callee (f := 34) rfl ?_); refine goesL_ (some 16) rfl rfl Tryz.func34 (by kernel_rfl) rfl #[.agg #[.string a0_0, .int .i64 a0_1, .slice A0_2 l0_2.length c0_2]] rfl argsS_ ?_; (with_reducible refine (laws_toZone.calls k a0_0 a0_1 _ _ l0_2 t784 t785 t786 _ ?side1 ?side2 A7.out).mono ?_); (case side1 => exact kC_ HR0_2.out HB.out); (case side2 => exact HC0_2.out); rintro e w16 ⟨v787, rfl, ho0, hb⟩; refine ⟨_, rfl, ?_⟩; have HO788 := a0_ (Kd.R_lower ho0 (below_size bq1_)); replace BK782 := a0_ (bkB_ BK782 hb); replace HB := a0_ (below_step bq1_ hb); (try clear hb); (try clear hb2); (try clear hk); (try clear hi); (try clear ho0); obtain ⟨Ao17, co17, eo17⟩ := Kd.R_slice HO788.out; subst eo17) | ((with_reducible refine gate_callee (f := 36) rfl ?_); refine goesL_ (some 17) rfl rfl Tryz.func36 (by kernel_rfl) rfl #[.agg #[.string t784, .int .i64 t785, .slice Ao17 t786.length co17]] rfl argsS_ ?_; (with_reducible refine (spec_SerialIn.calls k t784 t785 _ _ t786 t789 t790 _ ?side1 ?side2 A8.out).mono ?_); (case side1 => exact kD_ (Kd.R_reads' HO788.out).2.2); (case side2 => exact (Kd.R_reads' HO788.out).2.1); rintro e w18 ⟨rfl, hb⟩; refine ⟨_, rfl, ?_⟩; replace HO788 := a0_ (Kd.R_below (kR_ HO788.out) hb); replace BK782 := a0_ (bkB_ BK782 hb); replace HB := a0_ (below_step bq1_ hb); (try clear hb); (try clear hb2); (try clear hk); (try clear hi); obtain ⟨z19_0, z19_1, z19_2, q19_0, q19_1, q19_2⟩ := bk3_ BK782.out) | ((with_reducible refine gate_callee (f := 34) rfl ?_); refine goesL_ (some 21) rfl rfl Tryz.func34 (by kernel_rfl) rfl #[.agg #[.string a0_0, .int .i64 a0_1, .slice A0_2 l0_2.length c0_2]] rfl argsS_ ?_; (with_reducible refine (laws_toZone.calls k a0_0 a0_1 _ _ l0_2 t791 t792 t793 _ ?side1 ?side2 A9.out).mono ?_); (case side1 => exact kC_ HR0_2.out HB.out); (case side2 => exact HC0_2.out); rintro e w20 ⟨v794, rfl, ho0, hb⟩; refine ⟨_, rfl, ?_⟩; have n0_ := a0_ (Kd.R_elder' (kR_ HO788.out) (Kd.R_base ho0) hb); have n1_ := a0_ (Kd.R_lower (Kd.R_new' ho0 (Kd.R_lt (kR_ HO788.out))) (below_size bq1_)); have n2_ := a0_ (bkB_ BK782 hb); have n3_ := a0_ (below_step bq1_ hb); clear HO788; clear BK782; clear HB; have HO788 := n0_; have HO795 := n1_; have BK782 := n2_; have HB := n3_; clear n0_ n1_ n2_ n3_; (try clear hb); (try clear hb2); (try clear hk); (try clear hi); (try clear ho0)) | ((with_reducible refine gate_dst (N := 6) rfl ?_); refine boxS_ 6 #[.string (⟨#[]⟩ : ByteArray), .int .i64 0, .slice none 0 0] 42 (fun gb796 hg w21 hbox hb => ?_); have n0_ := a0_ (Kd.R_below (kR_ HO788.out) hb); have n1_ := a0_ (Kd.R_below (kR_ HO795.out) hb); have n2_ := a0_ (bkB_ BK782 hb); have n3_ := a0_ (below_step bq1_ hb); have n4_ := a0_ (hbox); have n5_ := a0_ (gw_ hg (below_size bq1_) : w.heap.size ≤ gb796); have n6_ := n5_; have n7_ := a0_ ((by rw [hg]; exact Nat.ne_of_lt (blk_lt (g := gb782) (o := .cells #[.string a0_0, .int .i64 a0_1, .slice A0_2 l0_2.length c0_2] 51 (0, 0)) (kB_ BK782.out)) : gb782 ≠ gb796)); have n8_ := a0_ ((by rw [hg]; exact Nat.ne_of_gt (blk_lt (g := gb782) (o := .cells #[.string a0_0, .int .i64 a0_1, .slice A0_2 l0_2.length c0_2] 51 (0, 0)) (kB_ BK782.out)) : gb796 ≠ gb782)); clear HO788; clear HO795; clear BK782; clear HB; have HO788 := n0_; have HO795 := n1_; have BK782 := n2_; have HB := n3_; have BK796 := n4_; have GW796 := n5_; have GE796 := n6_; have NB782_796 := n7_; have NB796_782 := n8_; clear n0_ n1_ n2_ n3_ n4_ n5_ n6_ n7_ n8_; clear hb hbox hg; have hnb22 := NB796_782.out; have hnc22 := NB782_796.out; obtain ⟨z23_0, z23_1, z23_2, q23_0, q23_1, q23_2⟩ := bk3_ BK796.out; obtain ⟨Ao24, co24, eo24⟩ := Kd.R_slice HO795.out; subst eo24) | ((with_reducible refine gate_callee (f := 37) rfl ?_); refine goesL_ (some 24) rfl rfl Tryz.func37 (by kernel_rfl) rfl #[.agg #[.string t791, .int .i64 t792, .slice Ao24 t793.length co24]] rfl argsS_ ?_; (with_reducible refine (impl_SerialIn.calls k t791 t792 _ _ t793 t797 t798 _ ?side1 ?side2 A10.out).mono ?_); (case side1 => refine (Kd.R_reads' (e := 72) (base := w.heap.size) (ok := fun k_ => (True ∧ some k_ ≠ (.slice Ao17 t786.length co17 : Value).ownBlock)) (n := t793.length) (c := co24) ?_).2.2; exact (kR_ (farR3_ HO795.out BK796.out))); (case side2 => exact (Kd.R_reads' HO795.out).2.1); rintro e w25 ⟨rfl, hb⟩; refine ⟨_, rfl, ?_⟩; replace HO788 := a0_ (Kd.R_below (kR_ (farR3_ HO788.out BK796.out)) hb); replace HO795 := a0_ (Kd.R_below (kR_ (farR3_ HO795.out BK796.out)) hb); replace BK782 := a0_ (blk_below (g := gb782) (o := .cells #[.string a0_0, .int .i64 a0_1, .slice A0_2 l0_2.length c0_2] 51 (0, 0)) (by (with_reducible repeat (first | refine blk_drewN ?_ _ | refine blk_drew ?_ | refine blk_alloc ?_ _)); refine blk_far ?_ NB782_796.out _; (with_reducible repeat (first | refine blk_drewN ?_ _ | refine blk_drew ?_ | refine blk_alloc ?_ _)); refine blk_far ?_ NB782_796.out _; (with_reducible repeat (first | refine blk_drewN ?_ _ | refine blk_drew ?_ | refine blk_alloc ?_ _)); refine blk_far ?_ NB782_796.out _; (with_reducible repeat (first | refine blk_drewN ?_ _ | refine blk_drew ?_ | refine blk_alloc ?_ _)); exact BK782.out) hb); replace BK796 := a0_ (blk_below (g := gb796) (o := .cells #[.string t791, .int .i64 t792, .slice Ao24 t793.length co24] 42 (0, 0)) (by (with_reducible repeat (first | refine blk_drewN ?_ _ | refine blk_drew ?_ | refine blk_alloc ?_ _)); refine blk_put (cs := #[.string t791, .int .i64 t792, .slice none 0 0]) ?_ 2 _ rfl; (with_reducible repeat (first | refine blk_drewN ?_ _ | refine blk_drew ?_ | refine blk_alloc ?_ _)); refine blk_put (cs := #[.string t791, .int .i64 0, .slice none 0 0]) ?_ 1 _ rfl; (with_reducible repeat (first | refine blk_drewN ?_ _ | refine blk_drew ?_ | refine blk_alloc ?_ _)); refine blk_put (cs := #[.string (⟨#[]⟩ : ByteArray), .int .i64 0, .slice none 0 0]) ?_ 0 _ rfl; (with_reducible repeat (first | refine blk_drewN ?_ _ | refine blk_drew ?_ | refine blk_alloc ?_ _)); exact BK796.out) hb); replace HB := a0_ (below_step bq1_ hb); (try clear hb); (try clear hb2); (try clear hk); (try clear hi)))
    (try simp only [Act.put, List.setIfInBounds_toArray, List.set_cons_zero, List.set_cons_succ])
    go_cut [34] (fun v34 wc => ∃ (kq : Nat) (x34_10 : Bool), v34 = .bool x34_10 ∧ Aside0 (laws_FnExactSerialIn.j0 kq x34_10 a0_0 a0_1 l0_2 t791 t792 t793 = some r) ∧ Aside0 (kq ≤ k) ∧ Aside0 (Kd.R k72 72 wc w.heap.size (fun _ => True) (.slice Ao24 t793.length co24) t793) ∧ Aside0 (wc.heap[gb782]? = some (.cells #[.string a0_0, .int .i64 a0_1, (.slice A0_2 l0_2.length c0_2)] 51 (0, 0))) ∧ Aside0 (wc.heap[gb796]? = some (.cells #[.string t791, .int .i64 t792, (.slice Ao24 t793.length co24)] 42 (0, 0))) ∧ Aside0 (Below w.heap.size w wc))
    case first =>
      have H := HC11.out
      clear HC11
      by_cases c26 : t797 = t789
      · rw [if_pos c26] at H
        have c26b0 : (t797 == t789) = true := beq_iff_eq.mpr c26
        have c26b1 : (t797 != t789) = false := bne_eq_false_iff_eq.mpr c26
        clear c26
        (first | rw [c26b0] | (simp only [i64_w, i32_w]; rw [c26b0]) | skip)
        have H' := a0_ H
        clear H
        go_wp2
        go_meet
        case rel => exact ⟨_, ((t798 != t790)), rs_, H', ⟨by first | omega | exact Nat.le_refl _⟩, ⟨by (with_reducible repeat (first | apply Kd.R_alloc | apply Kd.R_drewN | apply Kd.R_drew)); exact Kd.R_mono HO795.out (fun _ hk => trivial)⟩, ⟨by (with_reducible repeat (first | refine blk_drewN ?_ _ | refine blk_drew ?_ | refine blk_alloc ?_ _)); exact BK782.out⟩, ⟨by (with_reducible repeat (first | refine blk_drewN ?_ _ | refine blk_drew ?_ | refine blk_alloc ?_ _)); exact BK796.out⟩, ⟨bq1_⟩⟩
      · rw [if_neg c26] at H
        have c26b0 : (t797 == t789) = false := beq_eq_false_iff_ne.mpr c26
        have c26b1 : (t797 != t789) = true := bne_iff_ne.mpr c26
        (first | rw [c26b0] | (simp only [i64_w, i32_w]; rw [c26b0]) | skip)
        have H' := a0_ H
        clear H
        go_wp2
        go_meet
        case rel => exact ⟨_, (true), rs_, H', ⟨by first | omega | exact Nat.le_refl _⟩, ⟨by (with_reducible repeat (first | apply Kd.R_alloc | apply Kd.R_drewN | apply Kd.R_drew)); exact Kd.R_mono HO795.out (fun _ hk => trivial)⟩, ⟨by (with_reducible repeat (first | refine blk_drewN ?_ _ | refine blk_drew ?_ | refine blk_alloc ?_ _)); exact BK782.out⟩, ⟨by (with_reducible repeat (first | refine blk_drewN ?_ _ | refine blk_drew ?_ | refine blk_alloc ?_ _)); exact BK796.out⟩, ⟨bq1_⟩⟩
    case rest =>
      clear HC11
      try clear c2
      try clear p2
      try clear c3
      try clear c3b0
      try clear c8
      try clear c22
      try clear c26
      try clear c26b0
      try clear c26b1
      try clear z13_0 z13_1 z13_2
      try clear z15_0 z15_1 z15_2
      try clear z19_0 z19_1 z19_2
      try clear z23_0 z23_1 z23_2
      try clear z5_0 z5_1 z5_2
      try clear q13_0 q13_1 q13_2
      try clear q15_0 q15_1 q15_2
      try clear q19_0 q19_1 q19_2
      try clear q23_0 q23_1 q23_2
      try clear q5_0 q5_1 q5_2
      obtain ⟨kq, x34_10, rfl, HA, HJ10, HO_797002, BK782, BK796, HB⟩ := hcut
      cases kq with
      | zero => exact absurd HA.out (by simp [laws_FnExactSerialIn.j0])
      | succ kj10 =>
        have H := HA.out
        clear HA
        simp only [laws_FnExactSerialIn.j0] at H
        by_cases c27 : x34_10 = true
        · subst c27
          have H1 : (some false) = some r := by rw [if_pos rfl] at H; exact H
          clear H
          have H := H1
          clear H1
          obtain rfl := Option.some.inj H
          go_wp2
          go_ret
          exact ⟨rr_, bq1_⟩
        · replace c27 := Bool.eq_false_iff.mpr c27
          subst c27
          have H1 : ((laws_toZone.f kj10 a0_0 a0_1 l0_2).bind fun bt799 => ((laws_eqZone.f kj10 t791 t792 t793 bt799.1 bt799.2.1 bt799.2.2).bind fun t804 => (if t804 = true then (some true) else (some false)))) = some r := by rw [if_neg (show ¬ (false = true) by decide)] at H; exact H
          clear H
          have H := H1
          clear H1
          replace H := Option.bind_eq_some_iff.mp H
          obtain ⟨⟨t799, t800, t801⟩, A280, H⟩ := H
          replace H : ((laws_eqZone.f kj10 t791 t792 t793 t799 t800 t801).bind fun t804 => (if t804 = true then (some true) else (some false))) = some r := H
          have A28 := a0_ A280
          clear A280
          replace H := Option.bind_eq_some_iff.mp H
          obtain ⟨t804, A290, H⟩ := H
          replace H : (if t804 = true then (some true) else (some false)) = some r := H
          have A29 := a0_ A290
          clear A290
          by_cases c30 : t804 = true
          · subst c30
            have H1 : (some true) = some r := by rw [if_pos rfl] at H; exact H
            clear H
            have H := H1
            clear H1
            obtain rfl := Option.some.inj H
            try go_wp2
            replace HO_797002 := a0_ (Kd.R_drew HO_797002.out)
            replace BK782 := a0_ (blk_drew BK782.out)
            replace BK796 := a0_ (blk_drew BK796.out)
            replace HB := a0_ (below_drew1 HB.out)
            refine start_ (n := 5) (S := fun w' => w'.cell? ⟨gb796, 0, none⟩ = some (.string t791) ∧ w'.cell? ⟨gb796, 1, none⟩ = some (.int .i64 t792) ∧ w'.cell? ⟨gb796, 2, none⟩ = some (.slice Ao24 t793.length co24) ∧ w'.cell? ⟨gb782, 0, none⟩ = some (.string a0_0) ∧ w'.cell? ⟨gb782, 1, none⟩ = some (.int .i64 a0_1) ∧ w'.cell? ⟨gb782, 2, none⟩ = some (.slice A0_2 l0_2.length c0_2)) (ds := []) #[false, false, false, false, false] (by kernel_rfl) rfl rfl ⟨(blk_cell BK796.out 0).trans rfl, (blk_cell BK796.out 1).trans rfl, (blk_cell BK796.out 2).trans rfl, (blk_cell BK782.out 0).trans rfl, (blk_cell BK782.out 1).trans rfl, (blk_cell BK782.out 2).trans rfl⟩ (fun hHeld => ?_)
            generalize wc.drew = w31 at HO_797002 BK782 BK796 HB hHeld ⊢
            refine take_ (i := 0) (N := some 35) (v := ?_) (a' := ?_) #[true, false, false, false, false] rfl rfl (by kernel_rfl) (fun _ _ _ h => h) (Or.inl ⟨by rfl, ?_⟩) hHeld ?_ ?_
            rotate_left
            · rintro w' ⟨s0, s1, s2, s3, s4, s5⟩
              go_simp
              with_reducible rfl
            rotate_left
            · simp only [Act.put, List.setIfInBounds_toArray, List.set_cons_zero, List.set_cons_succ, i64_w, i32_w]
              rfl
            refine take_ (i := 1) (N := some 36) (v := ?_) (a' := ?_) #[true, true, false, false, false] rfl rfl (by kernel_rfl) (fun _ _ _ h => h) (Or.inl ⟨by rfl, ?_⟩) hHeld ?_ ?_
            rotate_left
            · rintro w' ⟨s0, s1, s2, s3, s4, s5⟩
              go_simp
              with_reducible rfl
            rotate_left
            · simp only [Act.put, List.setIfInBounds_toArray, List.set_cons_zero, List.set_cons_succ, i64_w, i32_w]
              rfl
            refine one_ (i := 2) (N := some 37) #[true, true, true, false, false] rfl rfl (by kernel_rfl) (by decide) (fun K hK => ?_)
            refine goes_ Tryz.func34 (by kernel_rfl) rfl #[.agg #[.string a0_0, .int .i64 a0_1, .slice A0_2 l0_2.length c0_2]] (by rfl) rfl rfl argsS_ ?_
            with_reducible refine (laws_toZone.calls kj10 a0_0 a0_1 _ _ l0_2 t799 t800 t801 _ ?side1 ?side2 A28.out).mono ?_
            (case side1 => exact kC_ HR0_2.out HB.out)
            (case side2 => exact HC0_2.out)
            rintro e w32 ⟨v802, rfl, ho0, hb⟩
            refine ⟨_, rfl, ?_⟩
            have n0_ := a0_ (Kd.R_elder' (kR_ HO_797002.out) (Kd.R_base ho0) hb)
            have n1_ := a0_ (Kd.R_lower (Kd.R_new' ho0 (Kd.R_lt (kR_ HO_797002.out))) (below_size bq1_))
            have n2_ := a0_ (bkB_ BK782 hb)
            have n3_ := a0_ (bkB_ BK796 hb)
            have n4_ := a0_ (below_step bq1_ hb)
            clear HO_797002
            clear BK782
            clear BK796
            clear HB
            have HO_797002 := n0_
            have HO803 := n1_
            have BK782 := n2_
            have BK796 := n3_
            have HB := n4_
            clear n0_ n1_ n2_ n3_ n4_
            (try clear hb)
            (try clear hb2)
            (try clear hk)
            (try clear hi)
            (try clear ho0)
            obtain ⟨Ao33, co33, eo33⟩ := Kd.R_slice HO803.out
            (first | subst eo33 | (injection eo33 with f1_ f2_ f3_; have f4_ := f1_.symm; have f5_ := f3_.symm; clear f1_ f2_ f3_; subst f4_; subst f5_))
            refine hK.out _ _ ⟨(blk_cell BK796.out 0).trans rfl, (blk_cell BK796.out 1).trans rfl, (blk_cell BK796.out 2).trans rfl, (blk_cell BK782.out 0).trans rfl, (blk_cell BK782.out 1).trans rfl, (blk_cell BK782.out 2).trans rfl⟩ (fun hHeld => ?_)
            clear hK K
            refine normS_ ?_
            refine one_ (i := 3) (N := some 38) #[true, true, true, true, false] rfl rfl (by kernel_rfl) (by decide) (fun K hK => ?_)
            refine goes_ Tryz.func27 (by kernel_rfl) rfl #[.agg #[.string t791, .int .i64 t792, .slice Ao24 t793.length co24], .agg #[.string t799, .int .i64 t800, .slice Ao33 t801.length co33]] (by rfl) rfl rfl argsS_ ?_
            with_reducible refine (laws_eqZone.calls kj10 t791 t792 _ _ t793 t799 t800 _ _ t801 true _ ?side1 ?side2 ?side3 ?side4 A29.out).mono ?_
            (case side1 => exact kD_ (Kd.R_reads' HO_797002.out).2.2)
            (case side2 => exact (Kd.R_reads' HO_797002.out).2.1)
            (case side3 => exact kD_ (Kd.R_reads' HO803.out).2.2)
            (case side4 => exact (Kd.R_reads' HO803.out).2.1)
            rintro e w34 ⟨rfl, hb⟩
            refine ⟨_, rfl, ?_⟩
            replace HO_797002 := a0_ (Kd.R_below (kR_ HO_797002.out) hb)
            replace HO803 := a0_ (Kd.R_below (kR_ HO803.out) hb)
            replace BK782 := a0_ (bkB_ BK782 hb)
            replace BK796 := a0_ (bkB_ BK796 hb)
            replace HB := a0_ (below_step bq1_ hb)
            (try clear hb)
            (try clear hb2)
            (try clear hk)
            (try clear hi)
            refine hK.out _ _ ⟨(blk_cell BK796.out 0).trans rfl, (blk_cell BK796.out 1).trans rfl, (blk_cell BK796.out 2).trans rfl, (blk_cell BK782.out 0).trans rfl, (blk_cell BK782.out 1).trans rfl, (blk_cell BK782.out 2).trans rfl⟩ (fun hHeld => ?_)
            clear hK K
            refine normS_ ?_
            refine pure_ (i := 4) (N := some 39) (v := ?_) (a' := ?_) #[true, true, true, true, true] rfl rfl (by kernel_rfl) (fun _ _ _ h => h) (Or.inl ⟨by rfl, ?_⟩) ?_ ?_
            rotate_left
            · intro w'
              go_simp
              with_reducible rfl
            rotate_left
            · simp only [Act.put, List.setIfInBounds_toArray, List.set_cons_zero, List.set_cons_succ, i64_w, i32_w]
              rfl
            refine done_ (by kernel_rfl) ?_
            try go_wp2
            go_ret
            exact ⟨rr_, bq1_⟩
          · replace c30 := Bool.eq_false_iff.mpr c30
            subst c30
            have H1 : (some false) = some r := by rw [if_neg (show ¬ (false = true) by decide)] at H; exact H
            clear H
            have H := H1
            clear H1
            obtain rfl := Option.some.inj H
            try go_wp2
            replace HO_797002 := a0_ (Kd.R_drew HO_797002.out)
            replace BK782 := a0_ (blk_drew BK782.out)
            replace BK796 := a0_ (blk_drew BK796.out)
            replace HB := a0_ (below_drew1 HB.out)
            refine start_ (n := 5) (S := fun w' => w'.cell? ⟨gb796, 0, none⟩ = some (.string t791) ∧ w'.cell? ⟨gb796, 1, none⟩ = some (.int .i64 t792) ∧ w'.cell? ⟨gb796, 2, none⟩ = some (.slice Ao24 t793.length co24) ∧ w'.cell? ⟨gb782, 0, none⟩ = some (.string a0_0) ∧ w'.cell? ⟨gb782, 1, none⟩ = some (.int .i64 a0_1) ∧ w'.cell? ⟨gb782, 2, none⟩ = some (.slice A0_2 l0_2.length c0_2)) (ds := []) #[false, false, false, false, false] (by kernel_rfl) rfl rfl ⟨(blk_cell BK796.out 0).trans rfl, (blk_cell BK796.out 1).trans rfl, (blk_cell BK796.out 2).trans rfl, (blk_cell BK782.out 0).trans rfl, (blk_cell BK782.out 1).trans rfl, (blk_cell BK782.out 2).trans rfl⟩ (fun hHeld => ?_)
            generalize wc.drew = w35 at HO_797002 BK782 BK796 HB hHeld ⊢
            refine take_ (i := 0) (N := some 35) (v := ?_) (a' := ?_) #[true, false, false, false, false] rfl rfl (by kernel_rfl) (fun _ _ _ h => h) (Or.inl ⟨by rfl, ?_⟩) hHeld ?_ ?_
            rotate_left
            · rintro w' ⟨s0, s1, s2, s3, s4, s5⟩
              go_simp
              with_reducible rfl
            rotate_left
            · simp only [Act.put, List.setIfInBounds_toArray, List.set_cons_zero, List.set_cons_succ, i64_w, i32_w]
              rfl
            refine take_ (i := 1) (N := some 36) (v := ?_) (a' := ?_) #[true, true, false, false, false] rfl rfl (by kernel_rfl) (fun _ _ _ h => h) (Or.inl ⟨by rfl, ?_⟩) hHeld ?_ ?_
            rotate_left
            · rintro w' ⟨s0, s1, s2, s3, s4, s5⟩
              go_simp
              with_reducible rfl
            rotate_left
            · simp only [Act.put, List.setIfInBounds_toArray, List.set_cons_zero, List.set_cons_succ, i64_w, i32_w]
              rfl
            refine one_ (i := 2) (N := some 37) #[true, true, true, false, false] rfl rfl (by kernel_rfl) (by decide) (fun K hK => ?_)
            refine goes_ Tryz.func34 (by kernel_rfl) rfl #[.agg #[.string a0_0, .int .i64 a0_1, .slice A0_2 l0_2.length c0_2]] (by rfl) rfl rfl argsS_ ?_
            with_reducible refine (laws_toZone.calls kj10 a0_0 a0_1 _ _ l0_2 t799 t800 t801 _ ?side1 ?side2 A28.out).mono ?_
            (case side1 => exact kC_ HR0_2.out HB.out)
            (case side2 => exact HC0_2.out)
            rintro e w36 ⟨v802, rfl, ho0, hb⟩
            refine ⟨_, rfl, ?_⟩
            have n0_ := a0_ (Kd.R_elder' (kR_ HO_797002.out) (Kd.R_base ho0) hb)
            have n1_ := a0_ (Kd.R_lower (Kd.R_new' ho0 (Kd.R_lt (kR_ HO_797002.out))) (below_size bq1_))
            have n2_ := a0_ (bkB_ BK782 hb)
            have n3_ := a0_ (bkB_ BK796 hb)
            have n4_ := a0_ (below_step bq1_ hb)
            clear HO_797002
            clear BK782
            clear BK796
            clear HB
            have HO_797002 := n0_
            have HO803 := n1_
            have BK782 := n2_
            have BK796 := n3_
            have HB := n4_
            clear n0_ n1_ n2_ n3_ n4_
            (try clear hb)
            (try clear hb2)
            (try clear hk)
            (try clear hi)
            (try clear ho0)
            obtain ⟨Ao37, co37, eo37⟩ := Kd.R_slice HO803.out
            (first | subst eo37 | (injection eo37 with f1_ f2_ f3_; have f4_ := f1_.symm; have f5_ := f3_.symm; clear f1_ f2_ f3_; subst f4_; subst f5_))
            refine hK.out _ _ ⟨(blk_cell BK796.out 0).trans rfl, (blk_cell BK796.out 1).trans rfl, (blk_cell BK796.out 2).trans rfl, (blk_cell BK782.out 0).trans rfl, (blk_cell BK782.out 1).trans rfl, (blk_cell BK782.out 2).trans rfl⟩ (fun hHeld => ?_)
            clear hK K
            refine normS_ ?_
            refine one_ (i := 3) (N := some 38) #[true, true, true, true, false] rfl rfl (by kernel_rfl) (by decide) (fun K hK => ?_)
            refine goes_ Tryz.func27 (by kernel_rfl) rfl #[.agg #[.string t791, .int .i64 t792, .slice Ao24 t793.length co24], .agg #[.string t799, .int .i64 t800, .slice Ao37 t801.length co37]] (by rfl) rfl rfl argsS_ ?_
            with_reducible refine (laws_eqZone.calls kj10 t791 t792 _ _ t793 t799 t800 _ _ t801 false _ ?side1 ?side2 ?side3 ?side4 A29.out).mono ?_
            (case side1 => exact kD_ (Kd.R_reads' HO_797002.out).2.2)
            (case side2 => exact (Kd.R_reads' HO_797002.out).2.1)
            (case side3 => exact kD_ (Kd.R_reads' HO803.out).2.2)
            (case side4 => exact (Kd.R_reads' HO803.out).2.1)
            rintro e w38 ⟨rfl, hb⟩
            refine ⟨_, rfl, ?_⟩
            replace HO_797002 := a0_ (Kd.R_below (kR_ HO_797002.out) hb)
            replace HO803 := a0_ (Kd.R_below (kR_ HO803.out) hb)
            replace BK782 := a0_ (bkB_ BK782 hb)
            replace BK796 := a0_ (bkB_ BK796 hb)
            replace HB := a0_ (below_step bq1_ hb)
            (try clear hb)
            (try clear hb2)
            (try clear hk)
            (try clear hi)
            refine hK.out _ _ ⟨(blk_cell BK796.out 0).trans rfl, (blk_cell BK796.out 1).trans rfl, (blk_cell BK796.out 2).trans rfl, (blk_cell BK782.out 0).trans rfl, (blk_cell BK782.out 1).trans rfl, (blk_cell BK782.out 2).trans rfl⟩ (fun hHeld => ?_)
            clear hK K
            refine normS_ ?_
            refine pure_ (i := 4) (N := some 39) (v := ?_) (a' := ?_) #[true, true, true, true, true] rfl rfl (by kernel_rfl) (fun _ _ _ h => h) (Or.inl ⟨by rfl, ?_⟩) ?_ ?_
            rotate_left
            · intro w'
              go_simp
              with_reducible rfl
            rotate_left
            · simp only [Act.put, List.setIfInBounds_toArray, List.set_cons_zero, List.set_cons_succ, i64_w, i32_w]
              rfl
            refine done_ (by kernel_rfl) ?_
            try go_wp2
            go_ret
            exact ⟨rr_, bq1_⟩
end Go.Proofs.YtkpkfallgjdkmaaGreatDoor.P
namespace Go.Proofs.YtkpkfallgjdkmaaGreatDoor.Pure
open Go.RowKit Go.Proofs.YtkpkfallgjdkmaaGreatDoor.P Go.Proofs.YtkpkfallgjdkmaaGreatDoorW.PrintWords Go.Proofs.YtkpkfallgjdkmaaGreatDoorW.PrintLast Go.Proofs.YtkpkfallgjdkmaaGreatDoorW.PrintMore
set_option linter.unusedVariables false
set_option linter.unusedSimpArgs false
theorem serIn_both (a : ByteArray) (c : Int) (L : List ZRec) (ha : a.size ≤ 1048576) (hL : L.length ≤ 1048576) (hs : ∀ r ∈ L, Small r.f0 ∧ Small r.f3) : ∃ (n : Int) (ok : Bool), Ev (fun k => spec_SerialIn.f k a c L) (n, ok) ∧ Ev (fun k => impl_SerialIn.f k a c L) (n, ok) := by
  obtain ⟨r1, r2⟩ := zone_both a c L ha hL hs
  cases h : zoneB a c L with
  | false =>
    rw [h] at r1 r2
    exact ⟨0, false, Ev.congr (fun k => rfl) (Ev.bind r1 (Ev.now _)), Ev.congr (fun k => rfl) (Ev.bind r2 (Ev.now _))⟩
  | true =>
    rw [h] at r1 r2
    exact ⟨Int.tmod c 4294967296, true, Ev.congr (fun k => rfl) (Ev.bind r1 (Ev.now _)), Ev.congr (fun k => rfl) (Ev.bind r2 (Ev.now _))⟩
theorem FnExactSerialIn : ∀ (a : ByteArray) (c : Int) (l : List LRec), a.size ≤ maxLen → l.length ≤ maxLen → (∀ y ∈ l, y.f0.size ≤ maxLen ∧ y.f3.size ≤ maxLen) → ∃ k, laws_FnExactSerialIn.f k a c l = some true := by
  intro a c l ha hm hw
  suffices h : Ev (fun k => laws_FnExactSerialIn.f k a c l) true from h.rounds
  obtain ⟨t, e, q⟩ := szZ_ev a c l ha hm hw
  refine Ev.congr (fun k => rfl) (Ev.bind e ?_)
  by_cases ht : t < 0
  · simp only [if_pos ht]; exact Ev.now _
  · obtain ⟨q1, q2, q3⟩ := q (by omega)
    have hl : (l.map conv).length ≤ 1048576 := by rw [List.length_map]; exact q2
    obtain ⟨n, ok, r1, r2⟩ := serIn_both a c (l.map conv) q1 hl (small_conv q3)
    have eT := toZ_ev a c l q2
    have eE := eqZ_ev a c (l.map conv) hl
    simp only [if_neg ht]
    refine Ev.bind eT (Ev.bind r1 (Ev.bind eT (Ev.bind r2 ?_)))
    simp only [bne_self_eq_false, if_true]
    refine Ev.step (fun k => by rw [laws_FnExactSerialIn.j0, if_neg (by decide)]) ?_
    exact Ev.bind eT (Ev.bind eE (Ev.now _))
end Go.Proofs.YtkpkfallgjdkmaaGreatDoor.Pure
namespace Go.Proofs.YtkpkfallgjdkmaaGreatDoor.fnExactSerialIn
open Go.ChangeShapes Go.WideShapes Go.ChangeAt Go.RowKit Go.Joins Go.Proofs.YtkpkfallgjdkmaaGreatDoor.P Go.Proofs.YtkpkfallgjdkmaaGreatDoorW.PrintWords
open Go.ChangeMaps (open_string shut_string)
set_option linter.unusedVariables false
theorem own : ownKnob Tryz.prog.godebug = none := by kernel_rfl
theorem laidOut : laidOutB Tryz.prog = true := by kernel_rfl
instance : Inhabited (P.S71) := ⟨P.z71⟩
theorem opens_rec : Opens Tryz.prog 71 P.k71 (fun x => x.f0.size ≤ maxLen ∧ x.f3.size ≤ maxLen) :=
  Opens.imp (opens_iso (f := fun x : P.S71 => (x.f0, x.f1, x.f2, x.f3)) (fun x => (⟨x.1, x.2.1, x.2.2.1, x.2.2.2⟩ : P.S71)) (fun _ => rfl) (opens_struct4 Tryz.underlying71 (by kernel_rfl) (by kernel_rfl) (opens_text Tryz.underlying9) (opens_int Tryz.underlying3) (opens_int Tryz.underlying3) (opens_text Tryz.underlying9))) fun x h => ⟨h.1, h.2.2.2⟩
theorem opens_recs : Opens Tryz.prog 30 (Kd.slice 71 P.k71) (fun l => l.length ≤ maxLen ∧ ∀ y ∈ l, y.f0.size ≤ maxLen ∧ y.f3.size ≤ maxLen) :=
  opens_slice Tryz.underlying30 (by kernel_rfl) opens_rec
/-- So many blocks has the settled world. -/
noncomputable def low : Nat := (World.holding Tryz.prog default ⟨#[], #[], []⟩).heap.size
/-- A world for the witness: the settled one, the listed tables holding what the row lists. -/
noncomputable def laidWorld (os : Os) : World :=
  { World.holding Tryz.prog os ⟨#[.cells #[.string { data := #[118, 97, 108, 117, 101, 32, 111, 117, 116, 32, 111, 102, 32, 114, 97, 110, 103, 101] }] 179, .cells #[.string { data := #[105, 110, 118, 97, 108, 105, 100, 32, 115, 121, 110, 116, 97, 120] }] 179], #[], []⟩ with heap := ((((((((World.holding Tryz.prog os ⟨#[.cells #[.string { data := #[118, 97, 108, 117, 101, 32, 111, 117, 116, 32, 111, 102, 32, 114, 97, 110, 103, 101] }] 179, .cells #[.string { data := #[105, 110, 118, 97, 108, 105, 100, 32, 115, 121, 110, 116, 97, 120] }] 179], #[], []⟩).heap.modify 4 fun
      | .cells _ t frozen => .cells #[.int .u8 0, .int .u8 1, .int .u8 28, .int .u8 2, .int .u8 29, .int .u8 14, .int .u8 24, .int .u8 3, .int .u8 30, .int .u8 22, .int .u8 20, .int .u8 15, .int .u8 25, .int .u8 17, .int .u8 4, .int .u8 8, .int .u8 31, .int .u8 27, .int .u8 13, .int .u8 23, .int .u8 21, .int .u8 19, .int .u8 16, .int .u8 7, .int .u8 26, .int .u8 12, .int .u8 18, .int .u8 6, .int .u8 11, .int .u8 5, .int .u8 10, .int .u8 9] t frozen
      | o => o).modify 5 fun
      | .cells _ t frozen => .cells #[.int .u8 0, .int .u8 1, .int .u8 56, .int .u8 2, .int .u8 57, .int .u8 49, .int .u8 28, .int .u8 3, .int .u8 61, .int .u8 58, .int .u8 42, .int .u8 50, .int .u8 38, .int .u8 29, .int .u8 17, .int .u8 4, .int .u8 62, .int .u8 47, .int .u8 59, .int .u8 36, .int .u8 45, .int .u8 43, .int .u8 51, .int .u8 22, .int .u8 53, .int .u8 39, .int .u8 33, .int .u8 30, .int .u8 24, .int .u8 18, .int .u8 12, .int .u8 5, .int .u8 63, .int .u8 55, .int .u8 48, .int .u8 27, .int .u8 60, .int .u8 41, .int .u8 37, .int .u8 16, .int .u8 46, .int .u8 35, .int .u8 44, .int .u8 21, .int .u8 52, .int .u8 32, .int .u8 23, .int .u8 11, .int .u8 54, .int .u8 26, .int .u8 40, .int .u8 15, .int .u8 34, .int .u8 20, .int .u8 31, .int .u8 10, .int .u8 25, .int .u8 14, .int .u8 19, .int .u8 9, .int .u8 13, .int .u8 8, .int .u8 7, .int .u8 6] t frozen
      | o => o).modify 1 fun
      | .cells _ t frozen => .cells #[.int .u64 1, .int .u64 10, .int .u64 100, .int .u64 1000, .int .u64 10000, .int .u64 100000, .int .u64 1000000, .int .u64 10000000, .int .u64 100000000, .int .u64 1000000000, .int .u64 10000000000, .int .u64 100000000000, .int .u64 1000000000000, .int .u64 10000000000000, .int .u64 100000000000000, .int .u64 1000000000000000, .int .u64 10000000000000000, .int .u64 100000000000000000, .int .u64 1000000000000000000, .int .u64 10000000000000000000] t frozen
      | o => o).modify 3 fun
      | .cells _ t frozen => .cells #[.int .u8 128, .int .u8 191, .int .u8 160, .int .u8 191, .int .u8 128, .int .u8 159, .int .u8 144, .int .u8 191, .int .u8 128, .int .u8 143, .int .u8 0, .int .u8 0, .int .u8 0, .int .u8 0, .int .u8 0, .int .u8 0, .int .u8 0, .int .u8 0, .int .u8 0, .int .u8 0, .int .u8 0, .int .u8 0, .int .u8 0, .int .u8 0, .int .u8 0, .int .u8 0, .int .u8 0, .int .u8 0, .int .u8 0, .int .u8 0, .int .u8 0, .int .u8 0] t frozen
      | o => o).modify 7 fun
      | .cells _ t frozen => .cells #[.iface 177 (.pointer (some ⟨low, 0, none⟩))] t frozen
      | o => o).modify 6 fun
      | .cells _ t frozen => .cells #[.iface 177 (.pointer (some ⟨low + 1, 0, none⟩))] t frozen
      | o => o).modify 2 fun
      | .cells _ t frozen => .cells #[.int .u8 240, .int .u8 240, .int .u8 240, .int .u8 240, .int .u8 240, .int .u8 240, .int .u8 240, .int .u8 240, .int .u8 240, .int .u8 240, .int .u8 240, .int .u8 240, .int .u8 240, .int .u8 240, .int .u8 240, .int .u8 240, .int .u8 240, .int .u8 240, .int .u8 240, .int .u8 240, .int .u8 240, .int .u8 240, .int .u8 240, .int .u8 240, .int .u8 240, .int .u8 240, .int .u8 240, .int .u8 240, .int .u8 240, .int .u8 240, .int .u8 240, .int .u8 240, .int .u8 240, .int .u8 240, .int .u8 240, .int .u8 240, .int .u8 240, .int .u8 240, .int .u8 240, .int .u8 240, .int .u8 240, .int .u8 240, .int .u8 240, .int .u8 240, .int .u8 240, .int .u8 240, .int .u8 240, .int .u8 240, .int .u8 240, .int .u8 240, .int .u8 240, .int .u8 240, .int .u8 240, .int .u8 240, .int .u8 240, .int .u8 240, .int .u8 240, .int .u8 240, .int .u8 240, .int .u8 240, .int .u8 240, .int .u8 240, .int .u8 240, .int .u8 240, .int .u8 240, .int .u8 240, .int .u8 240, .int .u8 240, .int .u8 240, .int .u8 240, .int .u8 240, .int .u8 240, .int .u8 240, .int .u8 240, .int .u8 240, .int .u8 240, .int .u8 240, .int .u8 240, .int .u8 240, .int .u8 240, .int .u8 240, .int .u8 240, .int .u8 240, .int .u8 240, .int .u8 240, .int .u8 240, .int .u8 240, .int .u8 240, .int .u8 240, .int .u8 240, .int .u8 240, .int .u8 240, .int .u8 240, .int .u8 240, .int .u8 240, .int .u8 240, .int .u8 240, .int .u8 240, .int .u8 240, .int .u8 240, .int .u8 240, .int .u8 240, .int .u8 240, .int .u8 240, .int .u8 240, .int .u8 240, .int .u8 240, .int .u8 240, .int .u8 240, .int .u8 240, .int .u8 240, .int .u8 240, .int .u8 240, .int .u8 240, .int .u8 240, .int .u8 240, .int .u8 240, .int .u8 240, .int .u8 240, .int .u8 240, .int .u8 240, .int .u8 240, .int .u8 240, .int .u8 240, .int .u8 240, .int .u8 240, .int .u8 240, .int .u8 240, .int .u8 241, .int .u8 241, .int .u8 241, .int .u8 241, .int .u8 241, .int .u8 241, .int .u8 241, .int .u8 241, .int .u8 241, .int .u8 241, .int .u8 241, .int .u8 241, .int .u8 241, .int .u8 241, .int .u8 241, .int .u8 241, .int .u8 241, .int .u8 241, .int .u8 241, .int .u8 241, .int .u8 241, .int .u8 241, .int .u8 241, .int .u8 241, .int .u8 241, .int .u8 241, .int .u8 241, .int .u8 241, .int .u8 241, .int .u8 241, .int .u8 241, .int .u8 241, .int .u8 241, .int .u8 241, .int .u8 241, .int .u8 241, .int .u8 241, .int .u8 241, .int .u8 241, .int .u8 241, .int .u8 241, .int .u8 241, .int .u8 241, .int .u8 241, .int .u8 241, .int .u8 241, .int .u8 241, .int .u8 241, .int .u8 241, .int .u8 241, .int .u8 241, .int .u8 241, .int .u8 241, .int .u8 241, .int .u8 241, .int .u8 241, .int .u8 241, .int .u8 241, .int .u8 241, .int .u8 241, .int .u8 241, .int .u8 241, .int .u8 241, .int .u8 241, .int .u8 241, .int .u8 241, .int .u8 2, .int .u8 2, .int .u8 2, .int .u8 2, .int .u8 2, .int .u8 2, .int .u8 2, .int .u8 2, .int .u8 2, .int .u8 2, .int .u8 2, .int .u8 2, .int .u8 2, .int .u8 2, .int .u8 2, .int .u8 2, .int .u8 2, .int .u8 2, .int .u8 2, .int .u8 2, .int .u8 2, .int .u8 2, .int .u8 2, .int .u8 2, .int .u8 2, .int .u8 2, .int .u8 2, .int .u8 2, .int .u8 2, .int .u8 2, .int .u8 19, .int .u8 3, .int .u8 3, .int .u8 3, .int .u8 3, .int .u8 3, .int .u8 3, .int .u8 3, .int .u8 3, .int .u8 3, .int .u8 3, .int .u8 3, .int .u8 3, .int .u8 35, .int .u8 3, .int .u8 3, .int .u8 52, .int .u8 4, .int .u8 4, .int .u8 4, .int .u8 68, .int .u8 241, .int .u8 241, .int .u8 241, .int .u8 241, .int .u8 241, .int .u8 241, .int .u8 241, .int .u8 241, .int .u8 241, .int .u8 241, .int .u8 241] t frozen
      | o => o) }
set_option maxRecDepth 100000 in
theorem laid_met (os : Os) : laidMet Tryz.prog Rows.fnExactSerialInRow.laid ((laidWorld os).forCall (fun _ _ => 0) ⟨#[], #[.agg #[.string ByteArray.empty, .int .i64 0, .slice none 0 0]], []⟩).memory :=
  laidMet_of_run' 8 (by kernel_rfl) (by kernel_rfl)
theorem ptr_row (u : TypeId) (h : Tryz.prog.typeName? 3 u = some "*errors.errorString") : u = 177 :=
  typeName_ptr_named (nm := "errors.errorString") (by rw [show "*" ++ "errors.errorString" = "*errors.errorString" by decide]; kernel_rfl) (by kernel_rfl) (by decide) u (by rw [show "*" ++ "errors.errorString" = "*errors.errorString" by decide]; exact h)
/-- What the row lists is what the walk asks of the variables. -/
theorem vars_of {W : World} (hL : laidMet Tryz.prog Rows.fnExactSerialInRow.laid W) : P.Vars W := by
  obtain ⟨_, _, hs, -, -, -⟩ := laid_sentinel (n := "strconv.ErrSyntax") (g := 6) hL.tail.tail.tail.tail.tail (by kernel_rfl) (by kernel_rfl) Tryz.underlying140 ptr_row Tryz.underlying177 Tryz.underlying179 rfl rfl Tryz.underlying9 (by kernel_rfl) (by kernel_rfl)
  obtain ⟨_, _, hr, -, -, -⟩ := laid_sentinel (n := "strconv.ErrRange") (g := 7) hL.tail.tail.tail.tail (by kernel_rfl) (by kernel_rfl) Tryz.underlying140 ptr_row Tryz.underlying177 Tryz.underlying179 rfl rfl Tryz.underlying9 (by kernel_rfl) (by kernel_rfl)
  have hp : laidMet Tryz.prog (("internal/strconv.uint64pow10", Lib.tabData .u64 Lib.pow10Tab) :: _) W := hL.tail.tail
  have ht := Lib.tabIs_of_head (g := 1) (by kernel_rfl) (by kernel_rfl) Tryz.underlying148 Tryz.underlying130 (by kernel_rfl) (by kernel_rfl) hp
  exact ⟨⟨_, _, hs⟩, ⟨_, _, hr⟩, ht⟩
set_option maxRecDepth 100000 in
theorem contract (H : Type) (enc : TypeId × Value → H) (W : World) (base : Nat) (args : Array Value) (ds gs : List (DataW H)) (before : List MemPlace)
    (hval0 : ∀ (j : Nat) t v, Tryz.f8.params[j]? = some t → args[j]? = some v → Value.okWide Tryz.prog W .any base t v)
    (hW : DataW.Whole enc Tryz.prog Tryz.f8.params.toList Rows.fnExactSerialInSpec.vars false W args.toList ds gs before)
    (hsz0 : (DataW.weightsEach Tryz.prog (Tryz.f8.params.toList ++ Rows.fnExactSerialInSpec.plain.varTypes Tryz.prog) (ds ++ gs)).all (· ≤ reachBytes) = true) (hL : laidMet Tryz.prog Rows.fnExactSerialInRow.laid W) :
    Calls Tryz.prog 8 args W fun e W' => ∃ v, e = .returned v ∧ Rows.fnExactSerialInSpec.post enc Tryz.prog Tryz.f8 false true false false W args v W' := by
  have hsz : (DataW.weightsEach Tryz.prog (Tryz.f8.params.toList ++ Rows.fnExactSerialInSpec.plain.varTypes Tryz.prog) (ds ++ gs)).all (· ≤ reachBytes) = true := hsz0
  have hval : ∀ (j : Nat) t v, Tryz.f8.params[j]? = some t → args[j]? = some v → Value.okWide Tryz.prog W .any base t v := hval0
  have hW' := hW
  obtain ⟨p, q, hA0, hV, rfl, hfz, hnd⟩ := hW
  have hA : DataW.TrodAll enc Tryz.prog W 0 (fun _ => true) true Tryz.f8.params.toList args.toList ds p := hA0
  rw [Tryz.params8] at hA hval hsz
  obtain ⟨v0, vs0, d0, ds0, p0, q0, hargs, rfl, rfl, h0, r0⟩ := trodAll_cons hA
  obtain ⟨rfl, rfl, rfl⟩ := trodAll_nil r0
  obtain rfl : args = #[v0] := by cases args; simp_all
  obtain ⟨rfl, rfl⟩ := trodVars_none hV
  have k0 := h0
  have lt0 : ∀ x ∈ p0, x.block < W.heap.size := by obtain ⟨m, hm⟩ := k0; exact DataW.trod_lt m _ _ _ hm
  obtain ⟨l0, n0, rfl, z0, f0⟩ := open_agg Tryz.underlying51 (by kernel_rfl) (by kernel_rfl) (hval 0 51 v0 rfl rfl) h0
  obtain ⟨c0_0, c0_1, c0_2, rfl⟩ := list3 z0
  obtain ⟨y0_0, hy0_0⟩ := f0 0 _ c0_0 rfl rfl
  obtain ⟨g0_0, eg0_0, wg0_0⟩ := opens_text Tryz.underlying9 H enc W 0 _ true _ _ _ hy0_0
  obtain ⟨rfl, _⟩ := List.cons.inj eg0_0
  obtain ⟨y0_1, hy0_1⟩ := f0 1 _ c0_1 rfl rfl
  obtain ⟨g0_1, eg0_1, wg0_1⟩ := opens_int Tryz.underlying3 H enc W 0 _ true _ _ _ hy0_1
  obtain ⟨rfl, _⟩ := List.cons.inj eg0_1
  obtain ⟨y0_2, hy0_2⟩ := f0 2 _ c0_2 rfl rfl
  obtain ⟨g0_2, ⟨Ag0_2, cg0_2, eg0_2, lg0_2, rg0_2⟩, mg0_2, wg0_2⟩ := opens_recs H enc W 0 _ true _ _ _ hy0_2
  obtain ⟨rfl, _⟩ := List.cons.inj eg0_2
  clear f0
  clear hA0 hval0 hsz0 hsz
  obtain ⟨k, hk⟩ := Pure.FnExactSerialIn g0_0 g0_1 g0_2 wg0_0 mg0_2 wg0_2
  refine (P.laws_FnExactSerialIn.calls k g0_0 g0_1 Ag0_2 cg0_2 g0_2 true W rg0_2 lg0_2 hk (vars_of hL)).mono fun e W' ⟨he, bel⟩ => ?_
  subst he
  exact ⟨_, rfl, _, _, _, [], _, [], hW', trodAll_mk1 (shut_bool Tryz.underlying4 _), (trodAll_cons_mk (Below.trod laidOut (by kernel_rfl) (of_decide_eq_true (by kernel_rfl)) k0 bel lt0) trodAll_mk0), rfl, bel.frame _, fun h => by cases h⟩
set_option maxRecDepth 100000 in
theorem reads (os : Os) {H : Type} (enc : TypeId × Value → H) : ∃ places, DataW.whole enc Tryz.prog ((laidWorld os).forCall (fun _ _ => 0) ⟨#[], #[.agg #[.string ByteArray.empty, .int .i64 0, .slice none 0 0]], []⟩).memory Tryz.f8.params.toList Rows.fnExactSerialInSpec.vars false (#[.agg #[.string ByteArray.empty, .int .i64 0, .slice none 0 0]] : Array Value).toList 8 = some ([.agg [.lit (.string []), .lit (.int .i64 0), .nil]], [], places) :=
  ⟨[], by kernel_rfl⟩
set_option maxRecDepth 100000 in
theorem lifted (os : Os) (started : os.Started) (H : Type) (enc : TypeId × Value → H) (F : Stop.Interp) :
    ReturnsInHanded {} Tryz.checked os 8 .any ((OpenSpec.ofChange Rows.fnExactSerialInSpec).preRow enc Tryz.prog Tryz.f8 Rows.fnExactSerialInRow.domain false Rows.fnExactSerialInRow.laid) (((OpenSpec.ofChange Rows.fnExactSerialInSpec).at F).post enc Tryz.prog Tryz.f8 false true false false) := by
  obtain ⟨places, hx⟩ := reads os enc
  refine returnsInHanded_of_row (C := Tryz.checked) (s := OpenSpec.ofChange Rows.fnExactSerialInSpec) own started (by kernel_rfl) Tryz.func8
    (witness_row_at (enc := enc) (C := Tryz.checked) false (laidWorld os) #[.agg #[.string ByteArray.empty, .int .i64 0, .slice none 0 0]] rfl (by kernel_rfl) (by kernel_rfl) (by kernel_rfl)
      (OpenSpec.preRow_of_cond 8 hx (by kernel_rfl) (fun k hk => by cases hk) (by kernel_rfl) (laid_met os))) ?_
  intro W base args ds gs before hval hW _ _ hsz hL _ _
  exact contract H enc W base args ds gs before hval hW hsz hL
theorem said : Rows.FnExactSerialInSaid :=
  OpenClaim.holds_of_cond 8 Tryz.f8 rfl rfl rfl rfl rfl rfl rfl ⟨rfl, rfl, rfl, rfl, rfl⟩ rfl rfl rfl rfl rfl (by kernel_rfl) Tryz.func8 (by kernel_rfl)
    (of_decide_eq_true (by kernel_rfl)) (by unfold Func.isWrapper; first | (rw [if_pos (by decide +kernel)]; kernel_rfl) | (rw [if_neg (by decide +kernel)]; exact ⟨rfl, rfl⟩))
    (fun os started H enc _ F => by rw [OpenClaim.pre_eq_preRow]; exact lifted os started H enc F)
theorem wants : Tryz.f8.params.toList.all (fun t => Tryz.prog.wantsStandIn t == false) = true := by kernel_rfl
theorem plain (f : FuncId) (fn : Func) (hf : Tryz.pinned.checked.prog.funcNamed "loop.example/g00300/laws.FnExactSerialIn" = some f) (hfn : Tryz.pinned.checked.prog.funcs[f]? = some fn) :
    true = Tryz.pinned.checked.prog.looks [] ∧ ∀ (j : Nat) t, fn.params[j]? = some t → Tryz.pinned.checked.prog.wantsStandIn t = false := by
  obtain rfl : f = 8 := Option.some.inj ((show Tryz.prog.funcNamed "loop.example/g00300/laws.FnExactSerialIn" = some 8 by kernel_rfl).symm.trans hf) |>.symm
  obtain rfl : fn = Tryz.f8 := (Option.some.inj (Tryz.func8.symm.trans hfn)).symm
  refine ⟨by kernel_rfl, fun j t ht => ?_⟩
  exact eq_of_beq (List.all_eq_true.1 wants t (Array.mem_toList_iff.2 (Array.mem_of_getElem? ht)))
theorem proved : Rows.FnExactSerialInCardSaid :=
  Claim7.holds_tied_plain_at .later [] _ _ _ _ said (fun _ h => by cases h) (by kernel_rfl) (fun _ h => by cases h) fnExactSerialIn_row_tie rfl ⟨rfl, rfl⟩ (by kernel_rfl) rfl plain (by kernel_rfl)
#print axioms proved
end Go.Proofs.YtkpkfallgjdkmaaGreatDoor.fnExactSerialIn
namespace Go.Proofs.YtkpkfallgjdkmaaGreatDoor
/-- The card, under a short name, for the claim. -/
theorem fnExactSerialIn_holds : Rows.FnExactSerialInCardSaid := fnExactSerialIn.proved
end Go.Proofs.YtkpkfallgjdkmaaGreatDoor
