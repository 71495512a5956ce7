/- FnExactSetIn: part 22 of 31 of my texts for this claim, joined; the theorem stands in the last. Conditions: none beyond the statement's. -/
import Derived.Test.YtkpkfallgjdkmaaGreatDoorMFnExactSetInx3
import Derived.Test.YtkpkfallgjdkmaaGreatDoorMFnExactSetInx19
import Derived.Test.YtkpkfallgjdkmaaGreatDoorMFnExactSetInx4
import Derived.Test.YtkpkfallgjdkmaaGreatDoorMFnExactSetInx9
namespace Go.Proofs.YtkpkfallgjdkmaaGreatDoor.P
open Go.RowKit Go.Proofs.YtkpkfallgjdkmaaGreatDoorW.PrintWords Go.Proofs.YtkpkfallgjdkmaaGreatDoorW.PrintLast Go.Proofs.YtkpkfallgjdkmaaGreatDoorW.PrintMore
attribute [local go_sem] max2_int min2_int max_two min_two max_three min_three max_four min_four
set_option linter.unusedVariables false
set_option linter.unusedSimpArgs false
mutual
def spec_GoodZone.j0 : Nat → Bool → ByteArray → Int → List (S72) → Option (Bool)
 | 0, _, _, _, _ => none
 | k + 1, x16, x746000, x746001, x746002 => if x16 = true then (some false) else (spec_GoodZone.l0 k x746002 (x746002.length : Int) 0 x746000 x746001 x746002)
def spec_GoodZone.l0 : Nat → List (S72) → Int → Int → ByteArray → Int → List (S72) → Option (Bool)
 | 0, _, _, _, _, _, _ => none
 | k + 1, x18, x19, x20, x746000, x746001, x746002 => if x20 < x19 then (if 0 ≤ x20 then (if x20 < (x18.length : Int) then (if ((rd_T72 x18 x20).f1) = 6 then ((spec_l6Soa.f k x746000 x746001 x746002).bind fun t750 => (if ((rd_T72 x18 x20).f3).toList = t750.toList then (spec_GoodZone.l0 k x18 x19 (wrap64 (x20 + 1)) x746000 x746001 x746002) else (some false))) else (spec_GoodZone.l0 k x18 x19 (wrap64 (x20 + 1)) x746000 x746001 x746002)) else (none)) else (none)) else (some true)
end
def spec_GoodZone.f (k : Nat) (a0_0 : ByteArray) (a0_1 : Int) (l0_2 : List (S72)) : Option (Bool) := (spec_l1In.f a0_1 0 1152921504606846976).bind fun t746 => (if t746 = true then ((spec_RuleOf.f k a0_0 l0_2).bind fun t747 => (spec_GoodZone.j0 k (t747 != 0) a0_0 a0_1 l0_2)) else (spec_GoodZone.j0 k true a0_0 a0_1 l0_2))
def spec_GoodZone.T6 : Bool × List (List Nat × List Nat) := (true, [([], []), ([0], [0]), ([1], [1]), ([2], [2]), ([3], [3]), ([4, 3], [3, 4]), ([3], [3]), ([6, 3, 3], [3, 6]), ([5, 7, 3], [3, 5, 7]), ([3, 8], [3, 8])])
def spec_GoodZone.B6 : List Nat := [0, 1, 3, 7, 15, 31, 15, 79, 255, 511]
theorem spec_GoodZone.tab6 : rtab .any (opsOf Tryz.f33 6) = spec_GoodZone.T6 := by kernel_rfl
theorem spec_GoodZone.bits6 : waitsOk spec_GoodZone.T6.2 spec_GoodZone.B6 = true := by kernel_rfl
set_option maxHeartbeats 8000000 in
set_option maxRecDepth 100000 in
theorem spec_GoodZone.calls (k : Nat) (a0_0 : ByteArray) (a0_1 : Int) (A0_2 : Option Addr) (c0_2 : Nat) (l0_2 : List (S72)) (r : Bool) (w : World) (hr0_2 : Kd.C k72 w A0_2 l0_2.length l0_2) (hc0_2 : l0_2.length ≤ c0_2) (h : spec_GoodZone.f k a0_0 a0_1 l0_2 = some r) :
 Calls Tryz.prog 33 #[.agg #[.string a0_0, .int .i64 a0_1, .slice A0_2 l0_2.length c0_2]] w fun e w' => e = .returned (.bool r) ∧ Below w.heap.size w w' := by
 have hu42 := Tryz.underlying42
 have hu72 := Tryz.underlying72
 have HR0_2 := a0_ hr0_2
 have HC0_2 := a0_ hc0_2
 clear hr0_2 hc0_2
 have HB := a0_ (Below.refl w.heap.size w)
 have H : ((spec_l1In.f a0_1 0 1152921504606846976).bind fun t746 => (if t746 = true then ((spec_RuleOf.f k a0_0 l0_2).bind fun t747 => (spec_GoodZone.j0 k (t747 != 0) a0_0 a0_1 l0_2)) else (spec_GoodZone.j0 k true a0_0 a0_1 l0_2))) = some r := h
 clear h
 have HC2 := a0_ H
 clear H
 go_enter Tryz.func33, Tryz.ntmps33
 go_upto_region 1 with (first | ((with_reducible refine gate_dst (N := 1) rfl ?_); refine boxS_ 1 #[.string a0_0, .int .i64 a0_1, .slice A0_2 l0_2.length c0_2] 42 (fun gb745 hg w3 hbox hb => ?_); have n0_ := a0_ (below_step bq0_ hb); have n1_ := a0_ (hbox); have n2_ := a0_ (gw_ hg : w.heap.size ≤ gb745); have n3_ := n2_; clear HB; have HB := n0_; have BK745 := n1_; have GW745 := n2_; have GE745 := n3_; clear n0_ n1_ n2_ n3_; clear hb hbox hg))
 (try simp only [Act.put, List.setIfInBounds_toArray, List.set_cons_zero, List.set_cons_succ])
 go_cut [16] (fun v16 wc => ∃ (kq : Nat) (x16_1 : Bool), v16 = .bool x16_1 ∧ Aside0 (spec_GoodZone.j0 kq x16_1 a0_0 a0_1 l0_2 = some r) ∧ Aside0 (kq ≤ k) ∧ Aside0 (wc.heap[gb745]? = some (.cells #[.string a0_0, .int .i64 a0_1, (.slice A0_2 l0_2.length c0_2)] 42 (0, 0))) ∧ Aside0 (Below w.heap.size w wc))
 case first =>
  have H := HC2.out
  clear HC2
  obtain ⟨t746, A40, H⟩ := Option.bind_eq_some_iff.mp H
  have A4 := a0_ A40
  clear A40
  by_cases c5 : t746 = true
  case neg =>
   replace c5 := Bool.eq_false_iff.mpr c5
   subst c5
   rw [if_neg (show ¬ (false = true) by decide)] at H
   have H' := a0_ H
   clear H
   have z9_0 : w3.cell? ⟨gb745, 0, none⟩ = some (.string a0_0) := (blk_cell BK745.out 0).trans rfl
   have z9_1 : w3.cell? ⟨gb745, 1, none⟩ = some (.int .i64 a0_1) := (blk_cell BK745.out 1).trans rfl
   have z9_2 : w3.cell? ⟨gb745, 2, none⟩ = some (.slice A0_2 l0_2.length c0_2) := (blk_cell BK745.out 2).trans rfl
   have q9_0 := blk_frozen BK745.out 0
   have q9_1 := blk_frozen BK745.out 1
   have q9_2 := blk_frozen BK745.out 2
   go_wp2_with (first | ((with_reducible refine gate_callee (f := 63) rfl ?_); refine goesL_ (some 7) rfl rfl Tryz.func63 (by kernel_rfl) rfl #[.int .i64 a0_1, .int .i64 0, .int .i64 1152921504606846976] rfl argsS_ ?_; (with_reducible refine (spec_l1In.calls a0_1 0 1152921504606846976 false _ A4.out).mono ?_); rintro e w' ⟨rfl, ⟨nd, rfl⟩⟩; refine ⟨_, rfl, ?_⟩))
   go_meet
   case rel => exact ⟨_, (true), rs_, H', ⟨by first | omega | exact Nat.le_refl _⟩, ⟨by (with_reducible repeat (first | refine blk_drewN ?_ _ | refine blk_drew ?_ | refine blk_alloc ?_ _)); exact BK745.out⟩, ⟨bq1_⟩⟩
  subst c5
  rw [if_pos rfl] at H
  obtain ⟨t747, A60, H⟩ := Option.bind_eq_some_iff.mp H
  have A6 := a0_ A60
  clear A60
  have H' := a0_ H
  clear H
  have z7_0 : w3.cell? ⟨gb745, 0, none⟩ = some (.string a0_0) := (blk_cell BK745.out 0).trans rfl
  have z7_1 : w3.cell? ⟨gb745, 1, none⟩ = some (.int .i64 a0_1) := (blk_cell BK745.out 1).trans rfl
  have z7_2 : w3.cell? ⟨gb745, 2, none⟩ = some (.slice A0_2 l0_2.length c0_2) := (blk_cell BK745.out 2).trans rfl
  have q7_0 := blk_frozen BK745.out 0
  have q7_1 := blk_frozen BK745.out 1
  have q7_2 := blk_frozen BK745.out 2
  go_wp2_with (first | ((with_reducible refine gate_callee (f := 63) rfl ?_); refine goesL_ (some 7) rfl rfl Tryz.func63 (by kernel_rfl) rfl #[.int .i64 a0_1, .int .i64 0, .int .i64 1152921504606846976] rfl argsS_ ?_; (with_reducible refine (spec_l1In.calls a0_1 0 1152921504606846976 true _ A4.out).mono ?_); rintro e w' ⟨rfl, ⟨nd, rfl⟩⟩; refine ⟨_, rfl, ?_⟩) | (go_at_call 30; (with_reducible refine (spec_RuleOf.calls k a0_0 _ _ l0_2 t747 _ ?side1 ?side2 A6.out).mono ?_); (case side1 => exact kC_ HR0_2.out bq1_); (case side2 => exact HC0_2.out); rintro e w8 ⟨rfl, hb⟩; replace BK745 := a0_ (bkB_ BK745 hb); replace HB := a0_ (below_step bq1_ hb); (try clear hb); (try clear hb2); (try clear hk); (try clear hi)))
  go_meet
  case rel => exact ⟨_, ((t747 != 0)), rs_, H', ⟨by first | omega | exact Nat.le_refl _⟩, ⟨by (with_reducible repeat (first | refine blk_drewN ?_ _ | refine blk_drew ?_ | refine blk_alloc ?_ _)); exact BK745.out⟩, ⟨bq1_⟩⟩
 case rest =>
  clear HC2
  try clear p2
  try clear c3
  try clear c5
  try clear c6
  try clear z7_0 z7_1 z7_2
  try clear z9_0 z9_1 z9_2
  try clear q7_0 q7_1 q7_2
  try clear q9_0 q9_1 q9_2
  obtain ⟨kq, x16_1, rfl, HA, HJ1, BK745, HB⟩ := hcut
  cases kq with
  | zero => exact absurd HA.out (by simp [spec_GoodZone.j0])
  | succ kj1 =>
   have H := HA.out
   clear HA
   simp only [spec_GoodZone.j0] at H
   by_cases c10 : x16_1 = true
   case pos =>
    subst c10
    rw [if_pos rfl] at H
    obtain rfl := Option.some.inj H
    go_wp2
    go_ret
    exact ⟨rr_, bq1_⟩
   replace c10 := Bool.eq_false_iff.mpr c10
   subst c10
   rw [if_neg (show ¬ (false = true) by decide)] at H
   have H' := a0_ H
   clear H
   have z11_0 : wc.cell? ⟨gb745, 0, none⟩ = some (.string a0_0) := (blk_cell BK745.out 0).trans rfl
   have z11_1 : wc.cell? ⟨gb745, 1, none⟩ = some (.int .i64 a0_1) := (blk_cell BK745.out 1).trans rfl
   have z11_2 : wc.cell? ⟨gb745, 2, none⟩ = some (.slice A0_2 l0_2.length c0_2) := (blk_cell BK745.out 2).trans rfl
   have q11_0 := blk_frozen BK745.out 0
   have q11_1 := blk_frozen BK745.out 1
   have q11_2 := blk_frozen BK745.out 2
   go_wp2
   go_loopg [20] kj1 (fun kq v20 w' => ∃ (x20_2 : Int), v20 = .int .i64 x20_2 ∧ Aside0 (spec_GoodZone.l0 kq l0_2 (l0_2.length : Int) x20_2 a0_0 a0_1 l0_2 = some r) ∧ Aside0 (kq ≤ kj1) ∧ Aside0 (w'.heap[gb745]? = some (.cells #[.string a0_0, .int .i64 a0_1, (.slice A0_2 l0_2.length c0_2)] 42 (0, 0))) ∧ Aside0 (Below w.heap.size w w'))
   case atStart => exact ⟨(0), rs_, H', ⟨Nat.le_refl _⟩, ⟨by (with_reducible repeat (first | refine blk_drewN ?_ _ | refine blk_drew ?_ | refine blk_alloc ?_ _)); exact BK745.out⟩, ⟨bq1_⟩⟩
   case round =>
    clear H'
    try clear c1
    try clear p2
    try clear c3
    try clear c5
    try clear c6
    try clear c10
    try clear z11_0 z11_1 z11_2
    try clear z7_0 z7_1 z7_2
    try clear z9_0 z9_1 z9_2
    try clear q11_0 q11_1 q11_2
    try clear q7_0 q7_1 q7_2
    try clear q9_0 q9_1 q9_2
    try clear p2
    obtain ⟨x20_2, rfl, HA, HK2, BK745, HB⟩ := hrel
    cases gk with
    | zero => exact absurd HA.out (by simp [spec_GoodZone.l0])
    | succ k2 =>
     have H := HA.out
     clear HA
     simp only [spec_GoodZone.l0] at H
     by_cases c12 : x20_2 < (l0_2.length : Int)
     case neg =>
      rw [if_neg c12] at H
      have c12b0 := decide_eq_false c12
      clear c12
      obtain rfl := Option.some.inj H
      go_wp2
      go_ret
      exact ⟨rr_, bq1_⟩
     rw [if_pos c12] at H
     have c12b0 := decide_eq_true c12
     clear c12
     by_cases c13 : 0 ≤ x20_2
     case neg =>
      rw [if_neg c13] at H
      exact absurd H (by simp)
     rw [if_pos c13] at H
     have c13b0 := decide_eq_true c13
     clear c13
     by_cases c14 : x20_2 < (l0_2.length : Int)
     case neg =>
      rw [if_neg c14] at H
      exact absurd H (by simp)
     rw [if_pos c14] at H
     have c14b0 := decide_eq_true c14
     clear c14
     by_cases c15 : ((rd_T72 l0_2 x20_2).f1) = 6
     case neg =>
      rw [if_neg c15] at H
      have c15b0 := beq_eq_false_iff_ne.mpr c15
      have c15b1 := bne_iff_ne.mpr c15
      have H' := a0_ H
      clear H
      have p748 : 0 ≤ (x20_2 : Int) := dec_
      have q748 : x20_2 < (l0_2.length : Int) := dec_
      obtain ⟨ad748, e748, hx748_0, hx748_1, hx748_2, hx748_3⟩ := at_T72 HR0_2.out x20_2 p748 q748
      cases e748
      obtain ⟨hx748_0, hx748_1, hx748_2, hx748_3⟩ := up4_ HB.out hx748_0 hx748_1 hx748_2 hx748_3
      replace p748 := eq_true p748
      replace q748 := eq_true q748
      try go_wp2_with (first | ((with_reducible refine gate_dst (N := 4) rfl ?_); refine boxS_ 4 #[.string (⟨#[]⟩ : ByteArray), .int .i64 0, .int .i64 0, .string (⟨#[]⟩ : ByteArray)] 72 (fun gb749 hg w30 hbox hb => ?_); have n0_ := a0_ (bkB_ BK745 hb); have n1_ := a0_ (below_step bq1_ hb); have n2_ := a0_ (hbox); have n3_ := a0_ (gw_ hg (below_size bq1_) : w.heap.size ≤ gb749); have n4_ := n3_; have n5_ := a0_ ((by rw [hg]; exact Nat.ne_of_lt (blk_lt (g := gb745) (o := .cells #[.string a0_0, .int .i64 a0_1, .slice (some ad748) l0_2.length c0_2] 42 (0, 0)) (kB_ BK745.out)) : gb745 ≠ gb749)); have n6_ := a0_ ((by rw [hg]; exact Nat.ne_of_gt (blk_lt (g := gb745) (o := .cells #[.string a0_0, .int .i64 a0_1, .slice (some ad748) l0_2.length c0_2] 42 (0, 0)) (kB_ BK745.out)) : gb749 ≠ gb745)); clear BK745; clear HB; have BK745 := n0_; have HB := n1_; have BK749 := n2_; have GW749 := n3_; have GE749 := n4_; have NB745_749 := n5_; have NB749_745 := n6_; clear n0_ n1_ n2_ n3_ n4_ n5_ n6_; clear hb hbox hg; have hnb31 := NB749_745.out; have hnc31 := NB745_749.out; obtain ⟨z32_0, z32_1, z32_2, z32_3, q32_0, q32_1, q32_2, q32_3⟩ := bk4_ BK749.out))
      have n0_ : Aside0 (((((w30.setCell ⟨gb749, 0, none⟩ (.string ((rd_T72 l0_2 x20_2).f0))).setCell ⟨gb749, 1, none⟩ (.int .i64 ((rd_T72 l0_2 x20_2).f1))).setCell ⟨gb749, 2, none⟩ (.int .i64 ((rd_T72 l0_2 x20_2).f2))).setCell ⟨gb749, 3, none⟩ (.string ((rd_T72 l0_2 x20_2).f3))).heap[gb745]? = some (.cells #[.string a0_0, .int .i64 a0_1, .slice (some ad748) l0_2.length c0_2] 42 (0, 0))) := ⟨bfar4_ NB745_749.out BK745.out⟩
      have n1_ : Aside0 (((((w30.setCell ⟨gb749, 0, none⟩ (.string ((rd_T72 l0_2 x20_2).f0))).setCell ⟨gb749, 1, none⟩ (.int .i64 ((rd_T72 l0_2 x20_2).f1))).setCell ⟨gb749, 2, none⟩ (.int .i64 ((rd_T72 l0_2 x20_2).f2))).setCell ⟨gb749, 3, none⟩ (.string ((rd_T72 l0_2 x20_2).f3))).heap[gb749]? = some (.cells #[.string ((rd_T72 l0_2 x20_2).f0), .int .i64 ((rd_T72 l0_2 x20_2).f1), .int .i64 ((rd_T72 l0_2 x20_2).f2), .string ((rd_T72 l0_2 x20_2).f3)] 72 (0, 0))) := ⟨put4_ BK749.out⟩
      have n2_ : Aside0 (Below w.heap.size w ((((w30.setCell ⟨gb749, 0, none⟩ (.string ((rd_T72 l0_2 x20_2).f0))).setCell ⟨gb749, 1, none⟩ (.int .i64 ((rd_T72 l0_2 x20_2).f1))).setCell ⟨gb749, 2, none⟩ (.int .i64 ((rd_T72 l0_2 x20_2).f2))).setCell ⟨gb749, 3, none⟩ (.string ((rd_T72 l0_2 x20_2).f3)))) := ⟨bq1_⟩
      (try clear BK745)
      (try clear BK749)
      (try clear HB)
      generalize ((((w30.setCell ⟨gb749, 0, none⟩ (.string ((rd_T72 l0_2 x20_2).f0))).setCell ⟨gb749, 1, none⟩ (.int .i64 ((rd_T72 l0_2 x20_2).f1))).setCell ⟨gb749, 2, none⟩ (.int .i64 ((rd_T72 l0_2 x20_2).f2))).setCell ⟨gb749, 3, none⟩ (.string ((rd_T72 l0_2 x20_2).f3))) = w33 at n0_ n1_ n2_ ⊢
      have BK745 := n0_
      have BK749 := n1_
      have HB := n2_
      clear n0_ n1_ n2_
      replace BK745 := a0_ (blk_drew BK745.out)
      replace BK749 := a0_ (blk_drew BK749.out)
      replace HB := a0_ (below_drew1 HB.out)
      refine start_ (n := 10) (S := fun w' => w'.cell? ⟨gb749, 0, none⟩ = some (.string ((rd_T72 l0_2 x20_2).f0)) ∧ w'.cell? ⟨gb749, 1, none⟩ = some (.int .i64 ((rd_T72 l0_2 x20_2).f1)) ∧ w'.cell? ⟨gb749, 2, none⟩ = some (.int .i64 ((rd_T72 l0_2 x20_2).f2)) ∧ w'.cell? ⟨gb749, 3, none⟩ = some (.string ((rd_T72 l0_2 x20_2).f3))) (ds := []) #[false, false, false, false, false, false, false, false, false, false] (by kernel_rfl) rfl rfl ⟨(blk_cell BK749.out 0).trans rfl, (blk_cell BK749.out 1).trans rfl, (blk_cell BK749.out 2).trans rfl, (blk_cell BK749.out 3).trans rfl⟩ (fun hHeld => ?_); refine with_tabW spec_GoodZone.tab6 spec_GoodZone.bits6 (fun HT_ HW_ => ?_)
      generalize w33.drew = w34 at BK745 BK749 HB hHeld ⊢
      refine pureS_ 0 (some 24) ?_
      refine takeS_ 1 (some 25) ?_
      refine pureS_ 2 (some 26) ?_
      refine pureS_ 3 (some 27) ?_
      refine skipS_ 4 (some 28) ?_
      refine skipS_ 5 (some 29) ?_
      refine skipS_ 6 (some 30) ?_
      refine skipS_ 7 (some 31) ?_
      refine skipS_ 8 (some 32) ?_
      refine pureS_ 9 (some 33) ?_
      refine done_ (done_of HT_.out (by kernel_rfl)) ?_
      try go_wp2
      go_roundg k2
      case measure => have := HJ1.out; have := HK2.out; omega
      case rel => exact ⟨(wrap64 (x20_2 + 1)), rs_, H', ⟨by have := HJ1.out; have := HK2.out; omega⟩, ⟨by (with_reducible repeat (first | refine blk_drewN ?_ _ | refine blk_drew ?_ | refine blk_alloc ?_ _)); exact BK745.out⟩, ⟨bq1_⟩⟩
     rw [if_pos c15] at H
     have c15b0 := beq_iff_eq.mpr c15
     have c15b1 := bne_eq_false_iff_eq.mpr c15
     clear c15
     obtain ⟨t750, A160, H⟩ := Option.bind_eq_some_iff.mp H
     have A16 := a0_ A160
     clear A160
     by_cases c17 : ((rd_T72 l0_2 x20_2).f3).toList = t750.toList
     case neg =>
      rw [if_neg c17] at H
      have c17b0 := beq_eq_false_iff_ne.mpr c17
      have c17b1 := bne_iff_ne.mpr c17
      obtain rfl := Option.some.inj H
      have p748 : 0 ≤ (x20_2 : Int) := dec_
      have q748 : x20_2 < (l0_2.length : Int) := dec_
      obtain ⟨ad748, e748, hx748_0, hx748_1, hx748_2, hx748_3⟩ := at_T72 HR0_2.out x20_2 p748 q748
      cases e748
      obtain ⟨hx748_0, hx748_1, hx748_2, hx748_3⟩ := up4_ HB.out hx748_0 hx748_1 hx748_2 hx748_3
      replace p748 := eq_true p748
      replace q748 := eq_true q748
      try go_wp2_with (first | ((with_reducible refine gate_dst (N := 4) rfl ?_); refine boxS_ 4 #[.string (⟨#[]⟩ : ByteArray), .int .i64 0, .int .i64 0, .string (⟨#[]⟩ : ByteArray)] 72 (fun gb749 hg w24 hbox hb => ?_); have n0_ := a0_ (bkB_ BK745 hb); have n1_ := a0_ (below_step bq1_ hb); have n2_ := a0_ (hbox); have n3_ := a0_ (gw_ hg (below_size bq1_) : w.heap.size ≤ gb749); have n4_ := n3_; have n5_ := a0_ ((by rw [hg]; exact Nat.ne_of_lt (blk_lt (g := gb745) (o := .cells #[.string a0_0, .int .i64 a0_1, .slice (some ad748) l0_2.length c0_2] 42 (0, 0)) (kB_ BK745.out)) : gb745 ≠ gb749)); have n6_ := a0_ ((by rw [hg]; exact Nat.ne_of_gt (blk_lt (g := gb745) (o := .cells #[.string a0_0, .int .i64 a0_1, .slice (some ad748) l0_2.length c0_2] 42 (0, 0)) (kB_ BK745.out)) : gb749 ≠ gb745)); clear BK745; clear HB; have BK745 := n0_; have HB := n1_; have BK749 := n2_; have GW749 := n3_; have GE749 := n4_; have NB745_749 := n5_; have NB749_745 := n6_; clear n0_ n1_ n2_ n3_ n4_ n5_ n6_; clear hb hbox hg; have hnb25 := NB749_745.out; have hnc25 := NB745_749.out; obtain ⟨z26_0, z26_1, z26_2, z26_3, q26_0, q26_1, q26_2, q26_3⟩ := bk4_ BK749.out))
      have n0_ : Aside0 (((((w24.setCell ⟨gb749, 0, none⟩ (.string ((rd_T72 l0_2 x20_2).f0))).setCell ⟨gb749, 1, none⟩ (.int .i64 ((rd_T72 l0_2 x20_2).f1))).setCell ⟨gb749, 2, none⟩ (.int .i64 ((rd_T72 l0_2 x20_2).f2))).setCell ⟨gb749, 3, none⟩ (.string ((rd_T72 l0_2 x20_2).f3))).heap[gb745]? = some (.cells #[.string a0_0, .int .i64 a0_1, .slice (some ad748) l0_2.length c0_2] 42 (0, 0))) := ⟨bfar4_ NB745_749.out BK745.out⟩
      have n1_ : Aside0 (((((w24.setCell ⟨gb749, 0, none⟩ (.string ((rd_T72 l0_2 x20_2).f0))).setCell ⟨gb749, 1, none⟩ (.int .i64 ((rd_T72 l0_2 x20_2).f1))).setCell ⟨gb749, 2, none⟩ (.int .i64 ((rd_T72 l0_2 x20_2).f2))).setCell ⟨gb749, 3, none⟩ (.string ((rd_T72 l0_2 x20_2).f3))).heap[gb749]? = some (.cells #[.string ((rd_T72 l0_2 x20_2).f0), .int .i64 ((rd_T72 l0_2 x20_2).f1), .int .i64 ((rd_T72 l0_2 x20_2).f2), .string ((rd_T72 l0_2 x20_2).f3)] 72 (0, 0))) := ⟨put4_ BK749.out⟩
      have n2_ : Aside0 (Below w.heap.size w ((((w24.setCell ⟨gb749, 0, none⟩ (.string ((rd_T72 l0_2 x20_2).f0))).setCell ⟨gb749, 1, none⟩ (.int .i64 ((rd_T72 l0_2 x20_2).f1))).setCell ⟨gb749, 2, none⟩ (.int .i64 ((rd_T72 l0_2 x20_2).f2))).setCell ⟨gb749, 3, none⟩ (.string ((rd_T72 l0_2 x20_2).f3)))) := ⟨bq1_⟩
      (try clear BK745)
      (try clear BK749)
      (try clear HB)
      generalize ((((w24.setCell ⟨gb749, 0, none⟩ (.string ((rd_T72 l0_2 x20_2).f0))).setCell ⟨gb749, 1, none⟩ (.int .i64 ((rd_T72 l0_2 x20_2).f1))).setCell ⟨gb749, 2, none⟩ (.int .i64 ((rd_T72 l0_2 x20_2).f2))).setCell ⟨gb749, 3, none⟩ (.string ((rd_T72 l0_2 x20_2).f3))) = w27 at n0_ n1_ n2_ ⊢
      have BK745 := n0_
      have BK749 := n1_
      have HB := n2_
      clear n0_ n1_ n2_
      replace BK745 := a0_ (blk_drew BK745.out)
      replace BK749 := a0_ (blk_drew BK749.out)
      replace HB := a0_ (below_drew1 HB.out)
      refine start_ (n := 10) (S := fun w' => w'.cell? ⟨gb749, 0, none⟩ = some (.string ((rd_T72 l0_2 x20_2).f0)) ∧ w'.cell? ⟨gb749, 1, none⟩ = some (.int .i64 ((rd_T72 l0_2 x20_2).f1)) ∧ w'.cell? ⟨gb749, 2, none⟩ = some (.int .i64 ((rd_T72 l0_2 x20_2).f2)) ∧ w'.cell? ⟨gb749, 3, none⟩ = some (.string ((rd_T72 l0_2 x20_2).f3)) ∧ w'.cell? ⟨gb745, 0, none⟩ = some (.string a0_0) ∧ w'.cell? ⟨gb745, 1, none⟩ = some (.int .i64 a0_1) ∧ w'.cell? ⟨gb745, 2, none⟩ = some (.slice (some ad748) l0_2.length c0_2)) (ds := []) #[false, false, false, false, false, false, false, false, false, false] (by kernel_rfl) rfl rfl ⟨(blk_cell BK749.out 0).trans rfl, (blk_cell BK749.out 1).trans rfl, (blk_cell BK749.out 2).trans rfl, (blk_cell BK749.out 3).trans rfl, (blk_cell BK745.out 0).trans rfl, (blk_cell BK745.out 1).trans rfl, (blk_cell BK745.out 2).trans rfl⟩ (fun hHeld => ?_); refine with_tabW spec_GoodZone.tab6 spec_GoodZone.bits6 (fun HT_ HW_ => ?_)
      generalize w27.drew = w28 at BK745 BK749 HB hHeld ⊢
      refine pureS_ 0 (some 24) ?_
      refine takeS_ 1 (some 25) ?_
      refine pureS_ 2 (some 26) ?_
      refine pureS_ 3 (some 27) ?_
      refine pureS_ 4 (some 28) ?_
      refine takeS_ 5 (some 29) ?_
      refine takeS_ 6 (some 30) ?_
      refine oneS_ 7 (some 31) (fun K hK => ?_)
      refine goes_ Tryz.func64 (by kernel_rfl) rfl #[.agg #[.string a0_0, .int .i64 a0_1, .slice (some ad748) l0_2.length c0_2]] (by rfl) rfl rfl argsS_ ?_
      with_reducible refine (spec_l6Soa.calls k2 a0_0 a0_1 _ _ l0_2 t750 _ ?side1 ?side2 A16.out).mono ?_
      (case side1 => exact kC_ HR0_2.out HB.out)
      (case side2 => exact HC0_2.out)
      rintro e w29 ⟨rfl, hb⟩
      refine ⟨_, rfl, ?_⟩
      replace BK745 := a0_ (bkB_ BK745 hb)
      replace BK749 := a0_ (bkB_ BK749 hb)
      replace HB := a0_ (below_step bq1_ hb)
      (try clear hb)
      (try clear hb2)
      (try clear hk)
      (try clear hi)
      refine hK.out _ _ ⟨(blk_cell BK749.out 0).trans rfl, (blk_cell BK749.out 1).trans rfl, (blk_cell BK749.out 2).trans rfl, (blk_cell BK749.out 3).trans rfl, (blk_cell BK745.out 0).trans rfl, (blk_cell BK745.out 1).trans rfl, (blk_cell BK745.out 2).trans rfl⟩ (fun hHeld => ?_)
      clear hK K
      refine normS_ ?_
      refine pureS_ 8 (some 32) ?_
      refine pureS_ 9 (some 33) ?_
      refine done_ (done_of HT_.out (by kernel_rfl)) ?_
      try go_wp2
      go_ret
      exact ⟨rr_, bq1_⟩
     rw [if_pos c17] at H
     have c17b0 := beq_iff_eq.mpr c17
     have c17b1 := bne_eq_false_iff_eq.mpr c17
     clear c17
     have H' := a0_ H
     clear H
     have p748 : 0 ≤ (x20_2 : Int) := dec_
     have q748 : x20_2 < (l0_2.length : Int) := dec_
     obtain ⟨ad748, e748, hx748_0, hx748_1, hx748_2, hx748_3⟩ := at_T72 HR0_2.out x20_2 p748 q748
     cases e748
     obtain ⟨hx748_0, hx748_1, hx748_2, hx748_3⟩ := up4_ HB.out hx748_0 hx748_1 hx748_2 hx748_3
     replace p748 := eq_true p748
     replace q748 := eq_true q748
     try go_wp2_with (first | ((with_reducible refine gate_dst (N := 4) rfl ?_); refine boxS_ 4 #[.string (⟨#[]⟩ : ByteArray), .int .i64 0, .int .i64 0, .string (⟨#[]⟩ : ByteArray)] 72 (fun gb749 hg w18 hbox hb => ?_); have n0_ := a0_ (bkB_ BK745 hb); have n1_ := a0_ (below_step bq1_ hb); have n2_ := a0_ (hbox); have n3_ := a0_ (gw_ hg (below_size bq1_) : w.heap.size ≤ gb749); have n4_ := n3_; have n5_ := a0_ ((by rw [hg]; exact Nat.ne_of_lt (blk_lt (g := gb745) (o := .cells #[.string a0_0, .int .i64 a0_1, .slice (some ad748) l0_2.length c0_2] 42 (0, 0)) (kB_ BK745.out)) : gb745 ≠ gb749)); have n6_ := a0_ ((by rw [hg]; exact Nat.ne_of_gt (blk_lt (g := gb745) (o := .cells #[.string a0_0, .int .i64 a0_1, .slice (some ad748) l0_2.length c0_2] 42 (0, 0)) (kB_ BK745.out)) : gb749 ≠ gb745)); clear BK745; clear HB; have BK745 := n0_; have HB := n1_; have BK749 := n2_; have GW749 := n3_; have GE749 := n4_; have NB745_749 := n5_; have NB749_745 := n6_; clear n0_ n1_ n2_ n3_ n4_ n5_ n6_; clear hb hbox hg; have hnb19 := NB749_745.out; have hnc19 := NB745_749.out; obtain ⟨z20_0, z20_1, z20_2, z20_3, q20_0, q20_1, q20_2, q20_3⟩ := bk4_ BK749.out))
     have n0_ : Aside0 (((((w18.setCell ⟨gb749, 0, none⟩ (.string ((rd_T72 l0_2 x20_2).f0))).setCell ⟨gb749, 1, none⟩ (.int .i64 ((rd_T72 l0_2 x20_2).f1))).setCell ⟨gb749, 2, none⟩ (.int .i64 ((rd_T72 l0_2 x20_2).f2))).setCell ⟨gb749, 3, none⟩ (.string ((rd_T72 l0_2 x20_2).f3))).heap[gb745]? = some (.cells #[.string a0_0, .int .i64 a0_1, .slice (some ad748) l0_2.length c0_2] 42 (0, 0))) := ⟨bfar4_ NB745_749.out BK745.out⟩
     have n1_ : Aside0 (((((w18.setCell ⟨gb749, 0, none⟩ (.string ((rd_T72 l0_2 x20_2).f0))).setCell ⟨gb749, 1, none⟩ (.int .i64 ((rd_T72 l0_2 x20_2).f1))).setCell ⟨gb749, 2, none⟩ (.int .i64 ((rd_T72 l0_2 x20_2).f2))).setCell ⟨gb749, 3, none⟩ (.string ((rd_T72 l0_2 x20_2).f3))).heap[gb749]? = some (.cells #[.string ((rd_T72 l0_2 x20_2).f0), .int .i64 ((rd_T72 l0_2 x20_2).f1), .int .i64 ((rd_T72 l0_2 x20_2).f2), .string ((rd_T72 l0_2 x20_2).f3)] 72 (0, 0))) := ⟨put4_ BK749.out⟩
     have n2_ : Aside0 (Below w.heap.size w ((((w18.setCell ⟨gb749, 0, none⟩ (.string ((rd_T72 l0_2 x20_2).f0))).setCell ⟨gb749, 1, none⟩ (.int .i64 ((rd_T72 l0_2 x20_2).f1))).setCell ⟨gb749, 2, none⟩ (.int .i64 ((rd_T72 l0_2 x20_2).f2))).setCell ⟨gb749, 3, none⟩ (.string ((rd_T72 l0_2 x20_2).f3)))) := ⟨bq1_⟩
     (try clear BK745)
     (try clear BK749)
     (try clear HB)
     generalize ((((w18.setCell ⟨gb749, 0, none⟩ (.string ((rd_T72 l0_2 x20_2).f0))).setCell ⟨gb749, 1, none⟩ (.int .i64 ((rd_T72 l0_2 x20_2).f1))).setCell ⟨gb749, 2, none⟩ (.int .i64 ((rd_T72 l0_2 x20_2).f2))).setCell ⟨gb749, 3, none⟩ (.string ((rd_T72 l0_2 x20_2).f3))) = w21 at n0_ n1_ n2_ ⊢
     have BK745 := n0_
     have BK749 := n1_
     have HB := n2_
     clear n0_ n1_ n2_
     replace BK745 := a0_ (blk_drew BK745.out)
     replace BK749 := a0_ (blk_drew BK749.out)
     replace HB := a0_ (below_drew1 HB.out)
     refine start_ (n := 10) (S := fun w' => w'.cell? ⟨gb749, 0, none⟩ = some (.string ((rd_T72 l0_2 x20_2).f0)) ∧ w'.cell? ⟨gb749, 1, none⟩ = some (.int .i64 ((rd_T72 l0_2 x20_2).f1)) ∧ w'.cell? ⟨gb749, 2, none⟩ = some (.int .i64 ((rd_T72 l0_2 x20_2).f2)) ∧ w'.cell? ⟨gb749, 3, none⟩ = some (.string ((rd_T72 l0_2 x20_2).f3)) ∧ w'.cell? ⟨gb745, 0, none⟩ = some (.string a0_0) ∧ w'.cell? ⟨gb745, 1, none⟩ = some (.int .i64 a0_1) ∧ w'.cell? ⟨gb745, 2, none⟩ = some (.slice (some ad748) l0_2.length c0_2)) (ds := []) #[false, false, false, false, false, false, false, false, false, false] (by kernel_rfl) rfl rfl ⟨(blk_cell BK749.out 0).trans rfl, (blk_cell BK749.out 1).trans rfl, (blk_cell BK749.out 2).trans rfl, (blk_cell BK749.out 3).trans rfl, (blk_cell BK745.out 0).trans rfl, (blk_cell BK745.out 1).trans rfl, (blk_cell BK745.out 2).trans rfl⟩ (fun hHeld => ?_); refine with_tabW spec_GoodZone.tab6 spec_GoodZone.bits6 (fun HT_ HW_ => ?_)
     generalize w21.drew = w22 at BK745 BK749 HB hHeld ⊢
     refine pureS_ 0 (some 24) ?_
     refine takeS_ 1 (some 25) ?_
     refine pureS_ 2 (some 26) ?_
     refine pureS_ 3 (some 27) ?_
     refine pureS_ 4 (some 28) ?_
     refine takeS_ 5 (some 29) ?_
     refine takeS_ 6 (some 30) ?_
     refine oneS_ 7 (some 31) (fun K hK => ?_)
     refine goes_ Tryz.func64 (by kernel_rfl) rfl #[.agg #[.string a0_0, .int .i64 a0_1, .slice (some ad748) l0_2.length c0_2]] (by rfl) rfl rfl argsS_ ?_
     with_reducible refine (spec_l6Soa.calls k2 a0_0 a0_1 _ _ l0_2 t750 _ ?side1 ?side2 A16.out).mono ?_
     (case side1 => exact kC_ HR0_2.out HB.out)
     (case side2 => exact HC0_2.out)
     rintro e w23 ⟨rfl, hb⟩
     refine ⟨_, rfl, ?_⟩
     replace BK745 := a0_ (bkB_ BK745 hb)
     replace BK749 := a0_ (bkB_ BK749 hb)
     replace HB := a0_ (below_step bq1_ hb)
     (try clear hb)
     (try clear hb2)
     (try clear hk)
     (try clear hi)
     refine hK.out _ _ ⟨(blk_cell BK749.out 0).trans rfl, (blk_cell BK749.out 1).trans rfl, (blk_cell BK749.out 2).trans rfl, (blk_cell BK749.out 3).trans rfl, (blk_cell BK745.out 0).trans rfl, (blk_cell BK745.out 1).trans rfl, (blk_cell BK745.out 2).trans rfl⟩ (fun hHeld => ?_)
     clear hK K
     refine normS_ ?_
     refine pureS_ 8 (some 32) ?_
     refine pureS_ 9 (some 33) ?_
     refine done_ (done_of HT_.out (by kernel_rfl)) ?_
     try go_wp2
     go_roundg k2
     case measure => have := HJ1.out; have := HK2.out; omega
     case rel => exact ⟨(wrap64 (x20_2 + 1)), rs_, H', ⟨by have := HJ1.out; have := HK2.out; omega⟩, ⟨by (with_reducible repeat (first | refine blk_drewN ?_ _ | refine blk_drew ?_ | refine blk_alloc ?_ _)); exact BK745.out⟩, ⟨bq1_⟩⟩
end Go.Proofs.YtkpkfallgjdkmaaGreatDoor.P
