/- FnExactNamesIn: part 21 of 30 of my texts for this claim, joined; the theorem stands in the last. Conditions: none beyond the statement's. -/
import Derived.Test.YtkpkfallgjdkmaaGreatDoorMFnExactNamesInx3
import Derived.Test.YtkpkfallgjdkmaaGreatDoorMFnExactNamesInx18
import Derived.Test.YtkpkfallgjdkmaaGreatDoorMFnExactNamesInx5
import Derived.Test.YtkpkfallgjdkmaaGreatDoorMFnExactNamesInx6
import Derived.Test.YtkpkfallgjdkmaaGreatDoorMFnExactNamesInx14
import Derived.Test.YtkpkfallgjdkmaaGreatDoorMFnExactNamesInx15
import Derived.Test.YtkpkfallgjdkmaaGreatDoorMFnExactNamesInx11
namespace Go.Proofs.YtkpkfallgjdkmaaGreatDoor.P
open Go.RowKit Go.Proofs.YtkpkfallgjdkmaaGreatDoorW.PrintWords Go.Proofs.YtkpkfallgjdkmaaGreatDoorW.PrintLast Go.Proofs.YtkpkfallgjdkmaaGreatDoorW.PrintMore
attribute [local go_sem] max2_int min2_int max_two min_two max_three min_three max_four min_four
set_option linter.unusedVariables false
set_option linter.unusedSimpArgs false
def spec_l6List.l0 : Nat → List (S72) → List (S72) → Int → Int → Option (Bool)
 | 0, _, _, _, _ => none
 | k + 1, x0, x5, x6, x7 => if x7 < x6 then (if 0 ≤ x7 then (if x7 < (x5.length : Int) then ((spec_GoodRecord.f k ((rd_T72 x5 x7).f0) ((rd_T72 x5 x7).f1) ((rd_T72 x5 x7).f2) ((rd_T72 x5 x7).f3)).bind fun t687 => (if t687 = true then (if x7 > 0 then (if 0 ≤ (wrap64 (x7 - 1)) then (if (wrap64 (x7 - 1)) < (x0.length : Int) then ((spec_l3Compare.f k ((rd_T72 x0 (wrap64 (x7 - 1))).f0) ((rd_T72 x0 (wrap64 (x7 - 1))).f1) ((rd_T72 x0 (wrap64 (x7 - 1))).f2) ((rd_T72 x0 (wrap64 (x7 - 1))).f3) ((rd_T72 x5 x7).f0) ((rd_T72 x5 x7).f1) ((rd_T72 x5 x7).f2) ((rd_T72 x5 x7).f3)).bind fun t689 => (if t689 ≥ 0 then (some false) else (spec_l6List.l0 k x0 x5 x6 (wrap64 (x7 + 1))))) else (none)) else (none)) else (spec_l6List.l0 k x0 x5 x6 (wrap64 (x7 + 1)))) else (some false))) else (none)) else (none)) else (some (decide ((x0.length : Int) ≤ 40)))
def spec_l6List.f (k : Nat) (l0 : List (S72)) : Option (Bool) := spec_l6List.l0 k l0 l0 (l0.length : Int) 0
def spec_l6List.T4 : Bool × List (List Nat × List Nat) := (true, [([], []), ([0], [0]), ([1], [1]), ([2, 1], [2]), ([3], [3]), ([4, 3], [3, 4]), ([5, 3, 3], [3, 5]), ([6], [6]), ([6], [6]), ([8, 6], [6, 8]), ([7, 9, 6], [6, 7, 9]), ([10, 6], [6, 10]), ([6], [6]), ([11, 12, 6, 6], [6, 11, 12]), ([13, 6], [6, 13]), ([6, 14, 3], [3, 6, 14]), ([3, 15], [3, 15])])
def spec_l6List.B4 : List Nat := [0, 1, 3, 7, 15, 31, 63, 127, 127, 383, 1023, 2047, 127, 8191, 16383, 32767, 65535]
theorem spec_l6List.tab4 : rtab .any (opsOf Tryz.f56 4) = spec_l6List.T4 := by kernel_rfl
theorem spec_l6List.bits4 : waitsOk spec_l6List.T4.2 spec_l6List.B4 = true := by kernel_rfl
set_option maxHeartbeats 8000000 in
set_option maxRecDepth 100000 in
theorem spec_l6List.calls (k : Nat) (A0 : Option Addr) (c0 : Nat) (l0 : List (S72)) (r : Bool) (w : World) (hr0 : Kd.C k72 w A0 l0.length l0) (hc0 : l0.length ≤ c0) (h : spec_l6List.f k l0 = some r) :
 Calls Tryz.prog 56 #[.slice A0 l0.length c0] w fun e w' => e = .returned (.bool r) ∧ Below w.heap.size w w' := by
 have hu72 := Tryz.underlying72
 have HR0 := a0_ hr0
 have HC0 := a0_ hc0
 clear hr0 hc0
 have HB := a0_ (Below.refl w.heap.size w)
 have H : (spec_l6List.l0 k l0 l0 (l0.length : Int) 0) = some r := h
 clear h
 have H' := a0_ H
 clear H
 go_enter Tryz.func56, Tryz.ntmps56
 go_wp2
 go_loopg [7] k (fun kq v7 w' => ∃ (x7_1 : Int), v7 = .int .i64 x7_1 ∧ Aside0 (spec_l6List.l0 kq l0 l0 (l0.length : Int) x7_1 = some r) ∧ Aside0 (kq ≤ k) ∧ Aside0 (Below w.heap.size w w'))
 case atStart => exact ⟨(0), rs_, H', ⟨Nat.le_refl _⟩, ⟨bq0_⟩⟩
 case round =>
  clear H'
  obtain ⟨x7_1, rfl, HA, HK1, HB⟩ := hrel
  cases gk with
  | zero => exact absurd HA.out (by simp [spec_l6List.l0])
  | succ k1 =>
   have H := HA.out
   clear HA
   simp only [spec_l6List.l0] at H
   by_cases c2 : x7_1 < (l0.length : Int)
   case neg =>
    rw [if_neg c2] at H
    have c2b0 := decide_eq_false c2
    clear c2
    obtain rfl := Option.some.inj H
    go_wp2
    go_ret
    exact ⟨rr_, bq0_⟩
   rw [if_pos c2] at H
   have c2b0 := decide_eq_true c2
   clear c2
   by_cases c3 : 0 ≤ x7_1
   case neg =>
    rw [if_neg c3] at H
    exact absurd H (by simp)
   rw [if_pos c3] at H
   have c3b0 := decide_eq_true c3
   clear c3
   by_cases c4 : x7_1 < (l0.length : Int)
   case neg =>
    rw [if_neg c4] at H
    exact absurd H (by simp)
   rw [if_pos c4] at H
   have c4b0 := decide_eq_true c4
   clear c4
   obtain ⟨t687, A50, H⟩ := Option.bind_eq_some_iff.mp H
   have A5 := a0_ A50
   clear A50
   by_cases c6 : t687 = true
   case neg =>
    replace c6 := Bool.eq_false_iff.mpr c6
    subst c6
    rw [if_neg (show ¬ (false = true) by decide)] at H
    obtain rfl := Option.some.inj H
    have p685 : 0 ≤ (x7_1 : Int) := dec_
    have q685 : x7_1 < (l0.length : Int) := dec_
    obtain ⟨ad685, e685, hx685_0, hx685_1, hx685_2, hx685_3⟩ := at_T72 HR0.out x7_1 p685 q685
    cases e685
    obtain ⟨hx685_0, hx685_1, hx685_2, hx685_3⟩ := up4_ HB.out hx685_0 hx685_1 hx685_2 hx685_3
    replace p685 := eq_true p685
    replace q685 := eq_true q685
    try go_wp2_with (first | ((with_reducible refine gate_dst (N := 4) rfl ?_); refine boxS_ 4 #[.string (⟨#[]⟩ : ByteArray), .int .i64 0, .int .i64 0, .string (⟨#[]⟩ : ByteArray)] 72 (fun gb686 hg w30 hbox hb => ?_); have n0_ := a0_ (below_step bq0_ hb); have n1_ := a0_ (hbox); have n2_ := a0_ (gw_ hg : w.heap.size ≤ gb686); have n3_ := n2_; clear HB; have HB := n0_; have BK686 := n1_; have GW686 := n2_; have GE686 := n3_; clear n0_ n1_ n2_ n3_; clear hb hbox hg; obtain ⟨z31_0, z31_1, z31_2, z31_3, q31_0, q31_1, q31_2, q31_3⟩ := bk4_ BK686.out))
    have n0_ : Aside0 (((((w30.setCell ⟨gb686, 0, none⟩ (.string ((rd_T72 l0 x7_1).f0))).setCell ⟨gb686, 1, none⟩ (.int .i64 ((rd_T72 l0 x7_1).f1))).setCell ⟨gb686, 2, none⟩ (.int .i64 ((rd_T72 l0 x7_1).f2))).setCell ⟨gb686, 3, none⟩ (.string ((rd_T72 l0 x7_1).f3))).heap[gb686]? = some (.cells #[.string ((rd_T72 l0 x7_1).f0), .int .i64 ((rd_T72 l0 x7_1).f1), .int .i64 ((rd_T72 l0 x7_1).f2), .string ((rd_T72 l0 x7_1).f3)] 72 (0, 0))) := ⟨put4_ BK686.out⟩
    have n1_ : Aside0 (Below w.heap.size w ((((w30.setCell ⟨gb686, 0, none⟩ (.string ((rd_T72 l0 x7_1).f0))).setCell ⟨gb686, 1, none⟩ (.int .i64 ((rd_T72 l0 x7_1).f1))).setCell ⟨gb686, 2, none⟩ (.int .i64 ((rd_T72 l0 x7_1).f2))).setCell ⟨gb686, 3, none⟩ (.string ((rd_T72 l0 x7_1).f3)))) := ⟨bq1_⟩
    (try clear BK686)
    (try clear HB)
    generalize ((((w30.setCell ⟨gb686, 0, none⟩ (.string ((rd_T72 l0 x7_1).f0))).setCell ⟨gb686, 1, none⟩ (.int .i64 ((rd_T72 l0 x7_1).f1))).setCell ⟨gb686, 2, none⟩ (.int .i64 ((rd_T72 l0 x7_1).f2))).setCell ⟨gb686, 3, none⟩ (.string ((rd_T72 l0 x7_1).f3))) = w32 at n0_ n1_ ⊢
    have BK686 := n0_
    have HB := n1_
    clear n0_ n1_
    replace BK686 := a0_ (blk_drew BK686.out)
    replace HB := a0_ (below_drew1 HB.out)
    refine start_ (n := 17) (S := fun w' => w'.cell? ⟨gb686, 0, none⟩ = some (.string ((rd_T72 l0 x7_1).f0)) ∧ w'.cell? ⟨gb686, 1, none⟩ = some (.int .i64 ((rd_T72 l0 x7_1).f1)) ∧ w'.cell? ⟨gb686, 2, none⟩ = some (.int .i64 ((rd_T72 l0 x7_1).f2)) ∧ w'.cell? ⟨gb686, 3, none⟩ = some (.string ((rd_T72 l0 x7_1).f3))) (ds := []) #[false, false, false, false, false, false, false, false, false, false, false, false, false, false, false, false, false] (by kernel_rfl) rfl rfl ⟨(blk_cell BK686.out 0).trans rfl, (blk_cell BK686.out 1).trans rfl, (blk_cell BK686.out 2).trans rfl, (blk_cell BK686.out 3).trans rfl⟩ (fun hHeld => ?_); refine with_tabW spec_l6List.tab4 spec_l6List.bits4 (fun HT_ HW_ => ?_)
    generalize w32.drew = w33 at BK686 HB hHeld ⊢
    refine takeS_ 0 (some 12) ?_
    refine oneS_ 1 (some 13) (fun K hK => ?_)
    refine goes_ Tryz.func82 (by kernel_rfl) rfl #[.agg #[.string ((rd_T72 l0 x7_1).f0), .int .i64 ((rd_T72 l0 x7_1).f1), .int .i64 ((rd_T72 l0 x7_1).f2), .string ((rd_T72 l0 x7_1).f3)]] (by rfl) rfl rfl argsS_ ?_
    with_reducible refine (spec_GoodRecord.calls k1 ((rd_T72 l0 x7_1).f0) ((rd_T72 l0 x7_1).f1) ((rd_T72 l0 x7_1).f2) ((rd_T72 l0 x7_1).f3) false _ A5.out).mono ?_
    rintro e w34 ⟨rfl, hb⟩
    refine ⟨_, rfl, ?_⟩
    replace BK686 := a0_ (bkB_ BK686 hb)
    replace HB := a0_ (below_step bq1_ hb)
    (try clear hb)
    (try clear hb2)
    (try clear hk)
    (try clear hi)
    refine hK.out _ _ ⟨(blk_cell BK686.out 0).trans rfl, (blk_cell BK686.out 1).trans rfl, (blk_cell BK686.out 2).trans rfl, (blk_cell BK686.out 3).trans rfl⟩ (fun hHeld => ?_)
    clear hK K
    refine normS_ ?_
    refine pureS_ 2 (some 14) ?_
    refine pureS_ 3 (some 15) ?_
    refine skipS_ 4 (some 16) ?_
    refine skipS_ 5 (some 17) ?_
    refine skipS_ 6 (some 18) ?_
    refine skipS_ 7 (some 19) ?_
    refine skipS_ 8 (some 20) ?_
    refine skipS_ 9 (some 21) ?_
    refine skipS_ 10 (some 22) ?_
    refine skipS_ 11 (some 23) ?_
    refine skipS_ 12 (some 24) ?_
    refine skipS_ 13 (some 25) ?_
    refine skipS_ 14 (some 26) ?_
    refine skipS_ 15 (some 27) ?_
    refine pureS_ 16 (some 28) ?_
    refine done_ (done_of HT_.out (by kernel_rfl)) ?_
    try go_wp2
    go_ret
    exact ⟨rr_, bq1_⟩
   subst c6
   rw [if_pos rfl] at H
   by_cases c7 : x7_1 > 0
   case neg =>
    rw [if_neg c7] at H
    have c7b0 := decide_eq_false c7
    clear c7
    have H' := a0_ H
    clear H
    have p685 : 0 ≤ (x7_1 : Int) := dec_
    have q685 : x7_1 < (l0.length : Int) := dec_
    obtain ⟨ad685, e685, hx685_0, hx685_1, hx685_2, hx685_3⟩ := at_T72 HR0.out x7_1 p685 q685
    cases e685
    obtain ⟨hx685_0, hx685_1, hx685_2, hx685_3⟩ := up4_ HB.out hx685_0 hx685_1 hx685_2 hx685_3
    replace p685 := eq_true p685
    replace q685 := eq_true q685
    try go_wp2_with (first | ((with_reducible refine gate_dst (N := 4) rfl ?_); refine boxS_ 4 #[.string (⟨#[]⟩ : ByteArray), .int .i64 0, .int .i64 0, .string (⟨#[]⟩ : ByteArray)] 72 (fun gb686 hg w25 hbox hb => ?_); have n0_ := a0_ (below_step bq0_ hb); have n1_ := a0_ (hbox); have n2_ := a0_ (gw_ hg : w.heap.size ≤ gb686); have n3_ := n2_; clear HB; have HB := n0_; have BK686 := n1_; have GW686 := n2_; have GE686 := n3_; clear n0_ n1_ n2_ n3_; clear hb hbox hg; obtain ⟨z26_0, z26_1, z26_2, z26_3, q26_0, q26_1, q26_2, q26_3⟩ := bk4_ BK686.out))
    have n0_ : Aside0 (((((w25.setCell ⟨gb686, 0, none⟩ (.string ((rd_T72 l0 x7_1).f0))).setCell ⟨gb686, 1, none⟩ (.int .i64 ((rd_T72 l0 x7_1).f1))).setCell ⟨gb686, 2, none⟩ (.int .i64 ((rd_T72 l0 x7_1).f2))).setCell ⟨gb686, 3, none⟩ (.string ((rd_T72 l0 x7_1).f3))).heap[gb686]? = some (.cells #[.string ((rd_T72 l0 x7_1).f0), .int .i64 ((rd_T72 l0 x7_1).f1), .int .i64 ((rd_T72 l0 x7_1).f2), .string ((rd_T72 l0 x7_1).f3)] 72 (0, 0))) := ⟨put4_ BK686.out⟩
    have n1_ : Aside0 (Below w.heap.size w ((((w25.setCell ⟨gb686, 0, none⟩ (.string ((rd_T72 l0 x7_1).f0))).setCell ⟨gb686, 1, none⟩ (.int .i64 ((rd_T72 l0 x7_1).f1))).setCell ⟨gb686, 2, none⟩ (.int .i64 ((rd_T72 l0 x7_1).f2))).setCell ⟨gb686, 3, none⟩ (.string ((rd_T72 l0 x7_1).f3)))) := ⟨bq1_⟩
    (try clear BK686)
    (try clear HB)
    generalize ((((w25.setCell ⟨gb686, 0, none⟩ (.string ((rd_T72 l0 x7_1).f0))).setCell ⟨gb686, 1, none⟩ (.int .i64 ((rd_T72 l0 x7_1).f1))).setCell ⟨gb686, 2, none⟩ (.int .i64 ((rd_T72 l0 x7_1).f2))).setCell ⟨gb686, 3, none⟩ (.string ((rd_T72 l0 x7_1).f3))) = w27 at n0_ n1_ ⊢
    have BK686 := n0_
    have HB := n1_
    clear n0_ n1_
    replace BK686 := a0_ (blk_drew BK686.out)
    replace HB := a0_ (below_drew1 HB.out)
    refine start_ (n := 17) (S := fun w' => w'.cell? ⟨gb686, 0, none⟩ = some (.string ((rd_T72 l0 x7_1).f0)) ∧ w'.cell? ⟨gb686, 1, none⟩ = some (.int .i64 ((rd_T72 l0 x7_1).f1)) ∧ w'.cell? ⟨gb686, 2, none⟩ = some (.int .i64 ((rd_T72 l0 x7_1).f2)) ∧ w'.cell? ⟨gb686, 3, none⟩ = some (.string ((rd_T72 l0 x7_1).f3))) (ds := []) #[false, false, false, false, false, false, false, false, false, false, false, false, false, false, false, false, false] (by kernel_rfl) rfl rfl ⟨(blk_cell BK686.out 0).trans rfl, (blk_cell BK686.out 1).trans rfl, (blk_cell BK686.out 2).trans rfl, (blk_cell BK686.out 3).trans rfl⟩ (fun hHeld => ?_); refine with_tabW spec_l6List.tab4 spec_l6List.bits4 (fun HT_ HW_ => ?_)
    generalize w27.drew = w28 at BK686 HB hHeld ⊢
    refine takeS_ 0 (some 12) ?_
    refine oneS_ 1 (some 13) (fun K hK => ?_)
    refine goes_ Tryz.func82 (by kernel_rfl) rfl #[.agg #[.string ((rd_T72 l0 x7_1).f0), .int .i64 ((rd_T72 l0 x7_1).f1), .int .i64 ((rd_T72 l0 x7_1).f2), .string ((rd_T72 l0 x7_1).f3)]] (by rfl) rfl rfl argsS_ ?_
    with_reducible refine (spec_GoodRecord.calls k1 ((rd_T72 l0 x7_1).f0) ((rd_T72 l0 x7_1).f1) ((rd_T72 l0 x7_1).f2) ((rd_T72 l0 x7_1).f3) true _ A5.out).mono ?_
    rintro e w29 ⟨rfl, hb⟩
    refine ⟨_, rfl, ?_⟩
    replace BK686 := a0_ (bkB_ BK686 hb)
    replace HB := a0_ (below_step bq1_ hb)
    (try clear hb)
    (try clear hb2)
    (try clear hk)
    (try clear hi)
    refine hK.out _ _ ⟨(blk_cell BK686.out 0).trans rfl, (blk_cell BK686.out 1).trans rfl, (blk_cell BK686.out 2).trans rfl, (blk_cell BK686.out 3).trans rfl⟩ (fun hHeld => ?_)
    clear hK K
    refine normS_ ?_
    refine pureS_ 2 (some 14) ?_
    refine pureS_ 3 (some 15) ?_
    refine pureS_ 4 (some 16) ?_
    refine pureS_ 5 (some 17) ?_
    refine pureS_ 6 (some 18) ?_
    refine skipS_ 7 (some 19) ?_
    refine skipS_ 8 (some 20) ?_
    refine skipS_ 9 (some 21) ?_
    refine skipS_ 10 (some 22) ?_
    refine skipS_ 11 (some 23) ?_
    refine skipS_ 12 (some 24) ?_
    refine skipS_ 13 (some 25) ?_
    refine skipS_ 14 (some 26) ?_
    refine pureS_ 15 (some 27) ?_
    refine pureS_ 16 (some 28) ?_
    refine done_ (done_of HT_.out (by kernel_rfl)) ?_
    try go_wp2
    go_roundg k1
    case measure => have := HK1.out; omega
    case rel => exact ⟨(wrap64 (x7_1 + 1)), rs_, H', ⟨by have := HK1.out; omega⟩, ⟨bq1_⟩⟩
   rw [if_pos c7] at H
   have c7b0 := decide_eq_true c7
   clear c7
   obtain ⟨ji8, hji8⟩ : ∃ j_ : Int, (wrap64 (x7_1 - 1)) = j_ := ⟨_, rfl⟩
   replace H : (if 0 ≤ (ji8) then (if (ji8) < (l0.length : Int) then ((spec_l3Compare.f k1 ((rd_T72 l0 (ji8)).f0) ((rd_T72 l0 (ji8)).f1) ((rd_T72 l0 (ji8)).f2) ((rd_T72 l0 (ji8)).f3) ((rd_T72 l0 x7_1).f0) ((rd_T72 l0 x7_1).f1) ((rd_T72 l0 x7_1).f2) ((rd_T72 l0 x7_1).f3)).bind fun t689 => (if t689 ≥ 0 then (some false) else (spec_l6List.l0 k1 l0 l0 (l0.length : Int) (wrap64 (x7_1 + 1))))) else (none)) else (none)) = some r := by first | (rw [hji8] at H; exact H) | (simp only [hji8] at H ⊢; exact H)
   (try rw [hji8] at A5)
   have hji8w : (IntKind.i64.wrap (x7_1 - 1)) = ji8 := (i64_w _).trans hji8
   by_cases c9 : 0 ≤ (ji8)
   case neg =>
    rw [if_neg c9] at H
    exact absurd H (by simp)
   rw [if_pos c9] at H
   have c9b0 := decide_eq_true c9
   clear c9
   by_cases c10 : (ji8) < (l0.length : Int)
   case neg =>
    rw [if_neg c10] at H
    exact absurd H (by simp)
   rw [if_pos c10] at H
   have c10b0 := decide_eq_true c10
   clear c10
   obtain ⟨t689, A110, H⟩ := Option.bind_eq_some_iff.mp H
   have A11 := a0_ A110
   clear A110
   by_cases c12 : t689 ≥ 0
   case pos =>
    rw [if_pos c12] at H
    have c12b0 := decide_eq_true c12
    clear c12
    obtain rfl := Option.some.inj H
    have p685 : 0 ≤ (x7_1 : Int) := dec_
    have q685 : x7_1 < (l0.length : Int) := dec_
    obtain ⟨ad685, e685, hx685_0, hx685_1, hx685_2, hx685_3⟩ := at_T72 HR0.out x7_1 p685 q685
    cases e685
    obtain ⟨hx685_0, hx685_1, hx685_2, hx685_3⟩ := up4_ HB.out hx685_0 hx685_1 hx685_2 hx685_3
    replace p685 := eq_true p685
    replace q685 := eq_true q685
    try go_wp2_with (first | ((with_reducible refine gate_dst (N := 4) rfl ?_); refine boxS_ 4 #[.string (⟨#[]⟩ : ByteArray), .int .i64 0, .int .i64 0, .string (⟨#[]⟩ : ByteArray)] 72 (fun gb686 hg w13 hbox hb => ?_); have n0_ := a0_ (below_step bq0_ hb); have n1_ := a0_ (hbox); have n2_ := a0_ (gw_ hg : w.heap.size ≤ gb686); have n3_ := n2_; clear HB; have HB := n0_; have BK686 := n1_; have GW686 := n2_; have GE686 := n3_; clear n0_ n1_ n2_ n3_; clear hb hbox hg; obtain ⟨z14_0, z14_1, z14_2, z14_3, q14_0, q14_1, q14_2, q14_3⟩ := bk4_ BK686.out))
    have n0_ : Aside0 (((((w13.setCell ⟨gb686, 0, none⟩ (.string ((rd_T72 l0 x7_1).f0))).setCell ⟨gb686, 1, none⟩ (.int .i64 ((rd_T72 l0 x7_1).f1))).setCell ⟨gb686, 2, none⟩ (.int .i64 ((rd_T72 l0 x7_1).f2))).setCell ⟨gb686, 3, none⟩ (.string ((rd_T72 l0 x7_1).f3))).heap[gb686]? = some (.cells #[.string ((rd_T72 l0 x7_1).f0), .int .i64 ((rd_T72 l0 x7_1).f1), .int .i64 ((rd_T72 l0 x7_1).f2), .string ((rd_T72 l0 x7_1).f3)] 72 (0, 0))) := ⟨put4_ BK686.out⟩
    have n1_ : Aside0 (Below w.heap.size w ((((w13.setCell ⟨gb686, 0, none⟩ (.string ((rd_T72 l0 x7_1).f0))).setCell ⟨gb686, 1, none⟩ (.int .i64 ((rd_T72 l0 x7_1).f1))).setCell ⟨gb686, 2, none⟩ (.int .i64 ((rd_T72 l0 x7_1).f2))).setCell ⟨gb686, 3, none⟩ (.string ((rd_T72 l0 x7_1).f3)))) := ⟨bq1_⟩
    (try clear BK686)
    (try clear HB)
    generalize ((((w13.setCell ⟨gb686, 0, none⟩ (.string ((rd_T72 l0 x7_1).f0))).setCell ⟨gb686, 1, none⟩ (.int .i64 ((rd_T72 l0 x7_1).f1))).setCell ⟨gb686, 2, none⟩ (.int .i64 ((rd_T72 l0 x7_1).f2))).setCell ⟨gb686, 3, none⟩ (.string ((rd_T72 l0 x7_1).f3))) = w15 at n0_ n1_ ⊢
    have BK686 := n0_
    have HB := n1_
    clear n0_ n1_
    replace BK686 := a0_ (blk_drew BK686.out)
    replace HB := a0_ (below_drew1 HB.out)
    have p688 : 0 ≤ ((ji8) : Int) := dec_
    have q688 : (ji8) < (l0.length : Int) := dec_
    obtain ⟨ad688, e688, hx688_0, hx688_1, hx688_2, hx688_3⟩ := at_T72 HR0.out (ji8) p688 q688
    have hw688_3 := hx688_3
    have hw688_2 := hx688_2
    have hw688_1 := hx688_1
    have hw688_0 := hx688_0
    obtain rfl : ad685 = ad688 := (by injection e688)
    obtain ⟨hx688_0, hx688_1, hx688_2, hx688_3⟩ := up4_ HB.out hx688_0 hx688_1 hx688_2 hx688_3
    replace p688 := eq_true p688
    replace q688 := eq_true q688
    refine start_ (n := 17) (S := fun w' => w'.cell? ⟨gb686, 0, none⟩ = some (.string ((rd_T72 l0 x7_1).f0)) ∧ w'.cell? ⟨gb686, 1, none⟩ = some (.int .i64 ((rd_T72 l0 x7_1).f1)) ∧ w'.cell? ⟨gb686, 2, none⟩ = some (.int .i64 ((rd_T72 l0 x7_1).f2)) ∧ w'.cell? ⟨gb686, 3, none⟩ = some (.string ((rd_T72 l0 x7_1).f3)) ∧ w'.cell? (ad685.add (((ji8)).toNat * 4)) = some (.string ((rd_T72 l0 (ji8)).f0)) ∧ w'.cell? ⟨(ad685.add (((ji8)).toNat * 4)).block, (ad685.add (((ji8)).toNat * 4)).off + 1, none⟩ = some (.int .i64 ((rd_T72 l0 (ji8)).f1)) ∧ w'.cell? ⟨(ad685.add (((ji8)).toNat * 4)).block, (ad685.add (((ji8)).toNat * 4)).off + 2, none⟩ = some (.int .i64 ((rd_T72 l0 (ji8)).f2)) ∧ w'.cell? ⟨(ad685.add (((ji8)).toNat * 4)).block, (ad685.add (((ji8)).toNat * 4)).off + 3, none⟩ = some (.string ((rd_T72 l0 (ji8)).f3))) (ds := []) #[false, false, false, false, false, false, false, false, false, false, false, false, false, false, false, false, false] (by kernel_rfl) rfl rfl ⟨(blk_cell BK686.out 0).trans rfl, (blk_cell BK686.out 1).trans rfl, (blk_cell BK686.out 2).trans rfl, (blk_cell BK686.out 3).trans rfl, ((HB.out.cell (World.block_lt_of_cell? w _ hw688_0)).trans hw688_0), ((HB.out.cell (World.block_lt_of_cell? w _ hw688_1)).trans hw688_1), ((HB.out.cell (World.block_lt_of_cell? w _ hw688_2)).trans hw688_2), ((HB.out.cell (World.block_lt_of_cell? w _ hw688_3)).trans hw688_3)⟩ (fun hHeld => ?_); refine with_tabW spec_l6List.tab4 spec_l6List.bits4 (fun HT_ HW_ => ?_)
    generalize w15.drew = w16 at BK686 HB hx688_0 hx688_1 hx688_2 hx688_3 hHeld ⊢
    refine takeS_ 0 (some 12) ?_
    refine oneS_ 1 (some 13) (fun K hK => ?_)
    refine goes_ Tryz.func82 (by kernel_rfl) rfl #[.agg #[.string ((rd_T72 l0 x7_1).f0), .int .i64 ((rd_T72 l0 x7_1).f1), .int .i64 ((rd_T72 l0 x7_1).f2), .string ((rd_T72 l0 x7_1).f3)]] (by rfl) rfl rfl argsS_ ?_
    with_reducible refine (spec_GoodRecord.calls k1 ((rd_T72 l0 x7_1).f0) ((rd_T72 l0 x7_1).f1) ((rd_T72 l0 x7_1).f2) ((rd_T72 l0 x7_1).f3) true _ A5.out).mono ?_
    rintro e w17 ⟨rfl, hb⟩
    refine ⟨_, rfl, ?_⟩
    replace BK686 := a0_ (bkB_ BK686 hb)
    replace HB := a0_ (below_step bq1_ hb)
    (try clear hb)
    (try clear hb2)
    (try clear hk)
    (try clear hi)
    refine hK.out _ _ ⟨(blk_cell BK686.out 0).trans rfl, (blk_cell BK686.out 1).trans rfl, (blk_cell BK686.out 2).trans rfl, (blk_cell BK686.out 3).trans rfl, ((HB.out.cell (World.block_lt_of_cell? w _ hw688_0)).trans hw688_0), ((HB.out.cell (World.block_lt_of_cell? w _ hw688_1)).trans hw688_1), ((HB.out.cell (World.block_lt_of_cell? w _ hw688_2)).trans hw688_2), ((HB.out.cell (World.block_lt_of_cell? w _ hw688_3)).trans hw688_3)⟩ (fun hHeld => ?_)
    clear hK K
    refine normS_ ?_
    refine pureS_ 2 (some 14) ?_
    refine pureS_ 3 (some 15) ?_
    refine pureS_ 4 (some 16) ?_
    refine pureS_ 5 (some 17) ?_
    refine pureS_ 6 (some 18) ?_
    refine pureS_ 7 (some 19) ?_
    refine pureS_ 8 (some 20) ?_
    refine pureS_ 9 (some 21) ?_
    refine pureS_ 10 (some 22) ?_
    refine takeS_ 11 (some 23) ?_
    refine takeS_ 12 (some 24) ?_
    refine oneS_ 13 (some 25) (fun K hK => ?_)
    refine goes_ Tryz.func83 (by kernel_rfl) rfl #[.agg #[.string ((rd_T72 l0 (ji8)).f0), .int .i64 ((rd_T72 l0 (ji8)).f1), .int .i64 ((rd_T72 l0 (ji8)).f2), .string ((rd_T72 l0 (ji8)).f3)], .agg #[.string ((rd_T72 l0 x7_1).f0), .int .i64 ((rd_T72 l0 x7_1).f1), .int .i64 ((rd_T72 l0 x7_1).f2), .string ((rd_T72 l0 x7_1).f3)]] (by rfl) rfl rfl (by (try simp only [List.map_toArray, List.map_cons, List.map_nil]); first | done | (simp only [hji8]; rfl) | rfl | (simp only [List.length_drop, List.length_take]; rfl)) ?_
    with_reducible refine (spec_l3Compare.calls k1 ((rd_T72 l0 (ji8)).f0) ((rd_T72 l0 (ji8)).f1) ((rd_T72 l0 (ji8)).f2) ((rd_T72 l0 (ji8)).f3) ((rd_T72 l0 x7_1).f0) ((rd_T72 l0 x7_1).f1) ((rd_T72 l0 x7_1).f2) ((rd_T72 l0 x7_1).f3) t689 _ A11.out).mono ?_
    rintro e w18 ⟨rfl, hb⟩
    refine ⟨_, rfl, ?_⟩
    replace BK686 := a0_ (bkB_ BK686 hb)
    replace HB := a0_ (below_step bq1_ hb)
    (try clear hb)
    (try clear hb2)
    (try clear hk)
    (try clear hi)
    refine hK.out _ _ ⟨(blk_cell BK686.out 0).trans rfl, (blk_cell BK686.out 1).trans rfl, (blk_cell BK686.out 2).trans rfl, (blk_cell BK686.out 3).trans rfl, ((HB.out.cell (World.block_lt_of_cell? w _ hw688_0)).trans hw688_0), ((HB.out.cell (World.block_lt_of_cell? w _ hw688_1)).trans hw688_1), ((HB.out.cell (World.block_lt_of_cell? w _ hw688_2)).trans hw688_2), ((HB.out.cell (World.block_lt_of_cell? w _ hw688_3)).trans hw688_3)⟩ (fun hHeld => ?_)
    clear hK K
    refine normS_ ?_
    refine pureS_ 14 (some 26) ?_
    refine pureS_ 15 (some 27) ?_
    refine pureS_ 16 (some 28) ?_
    refine done_ (done_of HT_.out (by kernel_rfl)) ?_
    try go_wp2
    go_ret
    exact ⟨by first | rfl | (simp [errW_none, errW_some] <;> rfl) | (simp only [← hji8]; first | rfl | (simp [errW_none, errW_some] <;> rfl)) | (simp [*, errW_none, errW_some] <;> rfl), bq1_⟩
   rw [if_neg c12] at H
   have c12b0 := decide_eq_false c12
   clear c12
   have H' := a0_ H
   clear H
   have p685 : 0 ≤ (x7_1 : Int) := dec_
   have q685 : x7_1 < (l0.length : Int) := dec_
   obtain ⟨ad685, e685, hx685_0, hx685_1, hx685_2, hx685_3⟩ := at_T72 HR0.out x7_1 p685 q685
   cases e685
   obtain ⟨hx685_0, hx685_1, hx685_2, hx685_3⟩ := up4_ HB.out hx685_0 hx685_1 hx685_2 hx685_3
   replace p685 := eq_true p685
   replace q685 := eq_true q685
   try go_wp2_with (first | ((with_reducible refine gate_dst (N := 4) rfl ?_); refine boxS_ 4 #[.string (⟨#[]⟩ : ByteArray), .int .i64 0, .int .i64 0, .string (⟨#[]⟩ : ByteArray)] 72 (fun gb686 hg w19 hbox hb => ?_); have n0_ := a0_ (below_step bq0_ hb); have n1_ := a0_ (hbox); have n2_ := a0_ (gw_ hg : w.heap.size ≤ gb686); have n3_ := n2_; clear HB; have HB := n0_; have BK686 := n1_; have GW686 := n2_; have GE686 := n3_; clear n0_ n1_ n2_ n3_; clear hb hbox hg; obtain ⟨z20_0, z20_1, z20_2, z20_3, q20_0, q20_1, q20_2, q20_3⟩ := bk4_ BK686.out))
   have n0_ : Aside0 (((((w19.setCell ⟨gb686, 0, none⟩ (.string ((rd_T72 l0 x7_1).f0))).setCell ⟨gb686, 1, none⟩ (.int .i64 ((rd_T72 l0 x7_1).f1))).setCell ⟨gb686, 2, none⟩ (.int .i64 ((rd_T72 l0 x7_1).f2))).setCell ⟨gb686, 3, none⟩ (.string ((rd_T72 l0 x7_1).f3))).heap[gb686]? = some (.cells #[.string ((rd_T72 l0 x7_1).f0), .int .i64 ((rd_T72 l0 x7_1).f1), .int .i64 ((rd_T72 l0 x7_1).f2), .string ((rd_T72 l0 x7_1).f3)] 72 (0, 0))) := ⟨put4_ BK686.out⟩
   have n1_ : Aside0 (Below w.heap.size w ((((w19.setCell ⟨gb686, 0, none⟩ (.string ((rd_T72 l0 x7_1).f0))).setCell ⟨gb686, 1, none⟩ (.int .i64 ((rd_T72 l0 x7_1).f1))).setCell ⟨gb686, 2, none⟩ (.int .i64 ((rd_T72 l0 x7_1).f2))).setCell ⟨gb686, 3, none⟩ (.string ((rd_T72 l0 x7_1).f3)))) := ⟨bq1_⟩
   (try clear BK686)
   (try clear HB)
   generalize ((((w19.setCell ⟨gb686, 0, none⟩ (.string ((rd_T72 l0 x7_1).f0))).setCell ⟨gb686, 1, none⟩ (.int .i64 ((rd_T72 l0 x7_1).f1))).setCell ⟨gb686, 2, none⟩ (.int .i64 ((rd_T72 l0 x7_1).f2))).setCell ⟨gb686, 3, none⟩ (.string ((rd_T72 l0 x7_1).f3))) = w21 at n0_ n1_ ⊢
   have BK686 := n0_
   have HB := n1_
   clear n0_ n1_
   replace BK686 := a0_ (blk_drew BK686.out)
   replace HB := a0_ (below_drew1 HB.out)
   have p688 : 0 ≤ ((ji8) : Int) := dec_
   have q688 : (ji8) < (l0.length : Int) := dec_
   obtain ⟨ad688, e688, hx688_0, hx688_1, hx688_2, hx688_3⟩ := at_T72 HR0.out (ji8) p688 q688
   have hw688_3 := hx688_3
   have hw688_2 := hx688_2
   have hw688_1 := hx688_1
   have hw688_0 := hx688_0
   obtain rfl : ad685 = ad688 := (by injection e688)
   obtain ⟨hx688_0, hx688_1, hx688_2, hx688_3⟩ := up4_ HB.out hx688_0 hx688_1 hx688_2 hx688_3
   replace p688 := eq_true p688
   replace q688 := eq_true q688
   refine start_ (n := 17) (S := fun w' => w'.cell? ⟨gb686, 0, none⟩ = some (.string ((rd_T72 l0 x7_1).f0)) ∧ w'.cell? ⟨gb686, 1, none⟩ = some (.int .i64 ((rd_T72 l0 x7_1).f1)) ∧ w'.cell? ⟨gb686, 2, none⟩ = some (.int .i64 ((rd_T72 l0 x7_1).f2)) ∧ w'.cell? ⟨gb686, 3, none⟩ = some (.string ((rd_T72 l0 x7_1).f3)) ∧ w'.cell? (ad685.add (((ji8)).toNat * 4)) = some (.string ((rd_T72 l0 (ji8)).f0)) ∧ w'.cell? ⟨(ad685.add (((ji8)).toNat * 4)).block, (ad685.add (((ji8)).toNat * 4)).off + 1, none⟩ = some (.int .i64 ((rd_T72 l0 (ji8)).f1)) ∧ w'.cell? ⟨(ad685.add (((ji8)).toNat * 4)).block, (ad685.add (((ji8)).toNat * 4)).off + 2, none⟩ = some (.int .i64 ((rd_T72 l0 (ji8)).f2)) ∧ w'.cell? ⟨(ad685.add (((ji8)).toNat * 4)).block, (ad685.add (((ji8)).toNat * 4)).off + 3, none⟩ = some (.string ((rd_T72 l0 (ji8)).f3))) (ds := []) #[false, false, false, false, false, false, false, false, false, false, false, false, false, false, false, false, false] (by kernel_rfl) rfl rfl ⟨(blk_cell BK686.out 0).trans rfl, (blk_cell BK686.out 1).trans rfl, (blk_cell BK686.out 2).trans rfl, (blk_cell BK686.out 3).trans rfl, ((HB.out.cell (World.block_lt_of_cell? w _ hw688_0)).trans hw688_0), ((HB.out.cell (World.block_lt_of_cell? w _ hw688_1)).trans hw688_1), ((HB.out.cell (World.block_lt_of_cell? w _ hw688_2)).trans hw688_2), ((HB.out.cell (World.block_lt_of_cell? w _ hw688_3)).trans hw688_3)⟩ (fun hHeld => ?_); refine with_tabW spec_l6List.tab4 spec_l6List.bits4 (fun HT_ HW_ => ?_)
   generalize w21.drew = w22 at BK686 HB hx688_0 hx688_1 hx688_2 hx688_3 hHeld ⊢
   refine takeS_ 0 (some 12) ?_
   refine oneS_ 1 (some 13) (fun K hK => ?_)
   refine goes_ Tryz.func82 (by kernel_rfl) rfl #[.agg #[.string ((rd_T72 l0 x7_1).f0), .int .i64 ((rd_T72 l0 x7_1).f1), .int .i64 ((rd_T72 l0 x7_1).f2), .string ((rd_T72 l0 x7_1).f3)]] (by rfl) rfl rfl argsS_ ?_
   with_reducible refine (spec_GoodRecord.calls k1 ((rd_T72 l0 x7_1).f0) ((rd_T72 l0 x7_1).f1) ((rd_T72 l0 x7_1).f2) ((rd_T72 l0 x7_1).f3) true _ A5.out).mono ?_
   rintro e w23 ⟨rfl, hb⟩
   refine ⟨_, rfl, ?_⟩
   replace BK686 := a0_ (bkB_ BK686 hb)
   replace HB := a0_ (below_step bq1_ hb)
   (try clear hb)
   (try clear hb2)
   (try clear hk)
   (try clear hi)
   refine hK.out _ _ ⟨(blk_cell BK686.out 0).trans rfl, (blk_cell BK686.out 1).trans rfl, (blk_cell BK686.out 2).trans rfl, (blk_cell BK686.out 3).trans rfl, ((HB.out.cell (World.block_lt_of_cell? w _ hw688_0)).trans hw688_0), ((HB.out.cell (World.block_lt_of_cell? w _ hw688_1)).trans hw688_1), ((HB.out.cell (World.block_lt_of_cell? w _ hw688_2)).trans hw688_2), ((HB.out.cell (World.block_lt_of_cell? w _ hw688_3)).trans hw688_3)⟩ (fun hHeld => ?_)
   clear hK K
   refine normS_ ?_
   refine pureS_ 2 (some 14) ?_
   refine pureS_ 3 (some 15) ?_
   refine pureS_ 4 (some 16) ?_
   refine pureS_ 5 (some 17) ?_
   refine pureS_ 6 (some 18) ?_
   refine pureS_ 7 (some 19) ?_
   refine pureS_ 8 (some 20) ?_
   refine pureS_ 9 (some 21) ?_
   refine pureS_ 10 (some 22) ?_
   refine takeS_ 11 (some 23) ?_
   refine takeS_ 12 (some 24) ?_
   refine oneS_ 13 (some 25) (fun K hK => ?_)
   refine goes_ Tryz.func83 (by kernel_rfl) rfl #[.agg #[.string ((rd_T72 l0 (ji8)).f0), .int .i64 ((rd_T72 l0 (ji8)).f1), .int .i64 ((rd_T72 l0 (ji8)).f2), .string ((rd_T72 l0 (ji8)).f3)], .agg #[.string ((rd_T72 l0 x7_1).f0), .int .i64 ((rd_T72 l0 x7_1).f1), .int .i64 ((rd_T72 l0 x7_1).f2), .string ((rd_T72 l0 x7_1).f3)]] (by rfl) rfl rfl (by (try simp only [List.map_toArray, List.map_cons, List.map_nil]); first | done | (simp only [hji8]; rfl) | rfl | (simp only [List.length_drop, List.length_take]; rfl)) ?_
   with_reducible refine (spec_l3Compare.calls k1 ((rd_T72 l0 (ji8)).f0) ((rd_T72 l0 (ji8)).f1) ((rd_T72 l0 (ji8)).f2) ((rd_T72 l0 (ji8)).f3) ((rd_T72 l0 x7_1).f0) ((rd_T72 l0 x7_1).f1) ((rd_T72 l0 x7_1).f2) ((rd_T72 l0 x7_1).f3) t689 _ A11.out).mono ?_
   rintro e w24 ⟨rfl, hb⟩
   refine ⟨_, rfl, ?_⟩
   replace BK686 := a0_ (bkB_ BK686 hb)
   replace HB := a0_ (below_step bq1_ hb)
   (try clear hb)
   (try clear hb2)
   (try clear hk)
   (try clear hi)
   refine hK.out _ _ ⟨(blk_cell BK686.out 0).trans rfl, (blk_cell BK686.out 1).trans rfl, (blk_cell BK686.out 2).trans rfl, (blk_cell BK686.out 3).trans rfl, ((HB.out.cell (World.block_lt_of_cell? w _ hw688_0)).trans hw688_0), ((HB.out.cell (World.block_lt_of_cell? w _ hw688_1)).trans hw688_1), ((HB.out.cell (World.block_lt_of_cell? w _ hw688_2)).trans hw688_2), ((HB.out.cell (World.block_lt_of_cell? w _ hw688_3)).trans hw688_3)⟩ (fun hHeld => ?_)
   clear hK K
   refine normS_ ?_
   refine pureS_ 14 (some 26) ?_
   refine pureS_ 15 (some 27) ?_
   refine pureS_ 16 (some 28) ?_
   refine done_ (done_of HT_.out (by kernel_rfl)) ?_
   try go_wp2
   go_roundg k1
   case measure => have := HK1.out; omega
   case rel => exact ⟨(wrap64 (x7_1 + 1)), rs_, H', ⟨by have := HK1.out; omega⟩, ⟨bq1_⟩⟩
end Go.Proofs.YtkpkfallgjdkmaaGreatDoor.P
namespace Go.Proofs.YtkpkfallgjdkmaaGreatDoor.Pure
open Go.RowKit Go.Proofs.YtkpkfallgjdkmaaGreatDoor.P Go.Proofs.YtkpkfallgjdkmaaGreatDoorW.PrintWords Go.Proofs.YtkpkfallgjdkmaaGreatDoorW.PrintLast
set_option linter.unusedVariables false
set_option linter.unusedSimpArgs false
def belowL (a b : List UInt8) : Bool := b == [] || (a == b || (decide (b.length < a.length) && a.drop (a.length - b.length - 1) == 46 :: b))
theorem specBelow_eq (a b : ByteArray) (ha : a.size < 4611686018427387904) (hb : b.size < 4611686018427387904) : spec_l1Below.f a b = some (belowL a.data.toList b.data.toList) := by
 unfold spec_l1Below.f belowL
 rw [Lib.toList_data, Lib.toList_data]
 by_cases h1 : b.data.toList = []
 · rw [if_pos h1, h1]; rfl
 · rw [if_neg h1, show (b.data.toList == []) = false from beq_eq_false_iff_ne.mpr h1, Bool.false_or]
   by_cases h2 : a.data.toList = b.data.toList
   · rw [if_pos h2, h2]; simp
   · rw [if_neg h2, show (a.data.toList == b.data.toList) = false from beq_eq_false_iff_ne.mpr h2, Bool.false_or, ← size_len, ← size_len]
     have hw : wrap64 ((a.size : Int) - (b.size : Int)) = (a.size : Int) - (b.size : Int) := by unfold wrap64; omega
     rw [hw]
     by_cases h3 : (a.size : Int) - (b.size : Int) > 0
     · have h3' : b.size < a.size := by omega
       have hw2 : wrap64 ((a.size : Int) - (b.size : Int) - 1) = ((a.size - b.size - 1 : Nat) : Int) := by unfold wrap64; omega
       have hi : a.size - b.size - 1 < a.data.toList.length := by rw [← size_len]; omega
       rw [if_pos h3, if_pos (by omega), if_pos (by omega), hw2, decide_eq_true h3', Bool.true_and]
       rw [show ((a.size : Int) - (b.size : Int)).toNat = a.size - b.size by omega, Lib.toList_data, ext_end, mkB_data]
       rw [List.drop_eq_getElem_cons hi, show a.size - b.size - 1 + 1 = a.size - b.size by omega]
       by_cases h4 : List.drop (a.size - b.size) a.data.toList = b.data.toList
       · rw [if_pos h4, if_pos (by omega), if_pos (by omega), bt_list a _ hi, h4]
         generalize a.data.toList[a.size - b.size - 1] = x
         have hx : ((x.toNat : Int) == 46) = (x == 46) := by
          rw [Bool.eq_iff_iff, beq_iff_eq, beq_iff_eq, ← UInt8.toNat_inj]
          exact ⟨fun e => Int.ofNat.inj e, fun e => by rw [e]; rfl⟩
         rw [hx]
         simp
       · rw [if_neg h4, eq_comm]
         congr 1
         rw [beq_eq_false_iff_ne]
         intro e
         exact h4 (List.cons.inj e).2
     · rw [if_neg h3, decide_eq_false (by omega)]
       rfl
theorem implBelow_eq (a b : ByteArray) (ha : a.size < 4611686018427387904) (hb : b.size < 4611686018427387904) : impl_isBelow.f a b = some (belowL a.data.toList b.data.toList) := by
 unfold impl_isBelow.f belowL
 rw [Lib.toList_data, Lib.toList_data]
 by_cases h1 : b.data.toList = []
 · rw [h1]
   by_cases h2 : a.data.toList = []
   · rw [if_pos h2]; rfl
   · rw [if_neg h2, if_pos rfl]; rfl
 · rw [show (b.data.toList == []) = false from beq_eq_false_iff_ne.mpr h1, Bool.false_or]
   by_cases h2 : a.data.toList = b.data.toList
   · rw [if_pos h2, h2]; simp
   · rw [if_neg h2, if_neg h1, if_pos (by omega), show (a.data.toList == b.data.toList) = false from beq_eq_false_iff_ne.mpr h2, Bool.false_or, ← size_len, ← size_len]
     unfold strings_HasSuffix.f stringslite_HasSuffix.f
     have hsz : ((⟨#[46]⟩ : ByteArray) ++ b).size = b.size + 1 := by rw [ByteArray.size_append]; show 1 + b.size = _; omega
     have hdt : ((⟨#[46]⟩ : ByteArray) ++ b).data.toList = 46 :: b.data.toList := by rw [ByteArray.data_append, Array.toList_append]; rfl
     rw [hsz]
     by_cases h3 : b.size < a.size
     · have hw : wrap64 ((a.size : Int) - ((b.size + 1 : Nat) : Int)) = ((a.size - b.size - 1 : Nat) : Int) := by unfold wrap64; omega
       rw [if_pos (by omega), hw, if_pos (by omega), if_pos (by omega), decide_eq_true h3, Bool.true_and, Int.toNat_natCast, ext_end, Lib.toList_data, Lib.toList_data, mkB_data, hdt]
       rfl
     · rw [if_neg (by omega), decide_eq_false h3]
       rfl
def parL : List UInt8 → List UInt8
 | [] => []
 | x :: xs => if x = 46 then xs else parL xs
theorem parL_len (l : List UInt8) : (parL l).length ≤ l.length - 1 := by
 induction l with
 | nil => simp [parL]
 | cons x xs ih =>
  unfold parL
  split
  · simp
  · simp at ih ⊢; omega
theorem parL_hit (p r : List UInt8) (h : ∀ x ∈ p, x ≠ 46) : parL (p ++ 46 :: r) = r := by
 induction p with
 | nil => simp [parL]
 | cons x xs ih => rw [List.cons_append, parL, if_neg (h x List.mem_cons_self), ih fun y hy => h y (List.mem_cons_of_mem _ hy)]
theorem parL_none (l : List UInt8) (h : ∀ x ∈ l, x ≠ 46) : parL l = [] := by
 induction l with
 | nil => rfl
 | cons x xs ih => rw [parL, if_neg (h x List.mem_cons_self), ih fun y hy => h y (List.mem_cons_of_mem _ hy)]
theorem parent_loop (s : ByteArray) (hs : s.size < 1099511627776) : ∀ (m i : Nat), i + m = s.size →
 spec_l1Parent.l0 (m + 1) s (i : Int) = some (mkB (parL (s.data.toList.drop i)))
 | 0, i, him => by
  unfold spec_l1Parent.l0
  rw [if_neg (by omega), List.drop_of_length_le (by rw [← size_len]; omega)]
  rfl
 | m + 1, i, him => by
  have hi : i < s.data.toList.length := by rw [← size_len]; omega
  unfold spec_l1Parent.l0
  rw [if_pos (by omega), if_pos (by omega), w64n (by omega), bt_list s i hi, List.drop_eq_getElem_cons hi]
  unfold parL
  by_cases h : s.data.toList[i] = 46
  · rw [if_pos (by rw [h]; rfl), if_pos h, if_pos (by omega), if_pos (by omega), Int.toNat_natCast, ext_end]
  · rw [if_neg (by intro e; apply h; apply UInt8.toNat_inj.1; simpa using Int.ofNat.inj e), if_neg h, parent_loop s hs m (i + 1) (by omega)]
theorem specParent_ev (s : ByteArray) (hs : s.size < 1099511627776) : Ev (fun k => spec_l1Parent.f k s) (mkB (parL s.data.toList)) := by
 refine Ev.of (fun k => spec_l1Parent.mono _ _) (k := s.size + 1) ?_
 unfold spec_l1Parent.f
 have := parent_loop s hs s.size 0 (by omega)
 simpa using this
theorem swap_ends (p m q : List ByteArray) (a b : ByteArray) : ((p ++ (a :: (m ++ [b])) ++ q).set p.length b).set (p.length + m.length + 1) a = (p ++ [b]) ++ m ++ (a :: q) := by
 have h1 : (p ++ (a :: (m ++ [b])) ++ q).set p.length b = p ++ b :: (m ++ b :: q) := by simp [List.set_append]
 have h2 : (p ++ b :: (m ++ b :: q)) = (p ++ b :: m) ++ b :: q := by simp
 have h3 : p.length + m.length + 1 = (p ++ b :: m).length := by simp; omega
 rw [h1, h2, h3, List.set_append_right _ _ (Nat.le_refl _), Nat.sub_self]
 simp
theorem get_first (p m q : List ByteArray) (a b : ByteArray) : rdOf ByteArray.empty (p ++ (a :: (m ++ [b])) ++ q) (p.length : Int) = a := by
 unfold rdOf
 simp [List.getD_eq_getElem?_getD]
theorem get_last (p m q : List ByteArray) (a b : ByteArray) : rdOf ByteArray.empty (p ++ (a :: (m ++ [b])) ++ q) ((p.length + m.length + 1 : Nat) : Int) = b := by
 have h2 : p ++ (a :: (m ++ [b])) ++ q = (p ++ a :: m) ++ b :: q := by simp
 have h3 : p.length + m.length + 1 = (p ++ a :: m).length := by simp; omega
 unfold rdOf
 rw [Int.toNat_natCast, h2, h3]
 simp [List.getD_eq_getElem?_getD]
theorem reverse_loop : ∀ (n : Nat) (p m q : List ByteArray), m.length ≤ n → p.length + m.length + q.length < 1099511627776 →
 Ev (fun k => slices_Reverse_string_string.l0 k (p ++ m ++ q) (p.length : Int) ((p.length : Int) + (m.length : Int) - 1)) (p ++ m.reverse ++ q)
 | n, p, [], q, hn, hb => by
  refine Ev.step (f := fun _ => some _) (fun k => ?_) (Ev.now _)
  show slices_Reverse_string_string.l0 (k + 1) (p ++ [] ++ q) (p.length : Int) ((p.length : Int) + (0 : Int) - 1) = _
  unfold slices_Reverse_string_string.l0
  rw [if_neg (by omega)]
  rfl
 | n, p, a :: t, q, hn, hb => by
  rcases List.eq_nil_or_concat t with rfl | ⟨m, b, rfl⟩
  · refine Ev.step (f := fun _ => some _) (fun k => ?_) (Ev.now _)
    show slices_Reverse_string_string.l0 (k + 1) (p ++ [a] ++ q) (p.length : Int) ((p.length : Int) + (1 : Int) - 1) = _
    unfold slices_Reverse_string_string.l0
    rw [if_neg (by omega)]
    rfl
  · rw [List.concat_eq_append] at hn hb ⊢
    have hl : (a :: (m ++ [b])).length = m.length + 2 := by simp
    rw [hl] at hn hb ⊢
    match n, hn with
    | n + 1, hn =>
     have ih := reverse_loop n (p ++ [b]) m (a :: q) (by omega) (by simp; omega)
     have e : p ++ (a :: (m ++ [b])).reverse ++ q = (p ++ [b]) ++ m.reverse ++ (a :: q) := by simp
     rw [e]
     refine Ev.step (fun k => ?_) ih
     show slices_Reverse_string_string.l0 (k + 1) (p ++ (a :: (m ++ [b])) ++ q) (p.length : Int) ((p.length : Int) + ((m.length + 2 : Nat) : Int) - 1) = _
     have hj : (p.length : Int) + ((m.length + 2 : Nat) : Int) - 1 = ((p.length + m.length + 1 : Nat) : Int) := by omega
     have hlen : (p ++ (a :: (m ++ [b])) ++ q).length = p.length + m.length + 2 + q.length := by simp; omega
     rw [hj]
     conv => lhs; unfold slices_Reverse_string_string.l0
     rw [hlen, if_pos (by omega), if_pos (by omega), if_pos (by omega), if_pos (by omega), if_pos (by omega), get_first, get_last, Int.toNat_natCast, Int.toNat_natCast, swap_ends]
     rw [w64n (by omega), show wrap64 (((p.length + m.length + 1 : Nat) : Int) - 1) = ((p.length + m.length : Nat) : Int) by unfold wrap64; omega]
     have e1 : (p ++ [b]).length = p.length + 1 := by simp
     rw [e1]
     congr 1
     omega
theorem reverse_ev (l : List ByteArray) (h : l.length < 1099511627776) : Ev (fun k => slices_Reverse_string_string.f k l) l.reverse := by
 have := reverse_loop l.length [] l [] (Nat.le_refl _) (by simpa using h)
 simp only [List.nil_append, List.append_nil, List.length_nil] at this
 refine Ev.congr (fun k => ?_) this
 unfold slices_Reverse_string_string.f
 congr 1
 unfold wrap64
 show _ = (0 : Int) + (l.length : Int) - 1
 omega
def cmpP (a b : ByteArray) : Int := if Op.bytesLess a.toList b.toList = true then -1 else (if Op.bytesLess b.toList a.toList = true then 1 else 0)
def cmpL : List ByteArray → List ByteArray → Int
 | [], [] => 0
 | [], _ :: _ => -1
 | _ :: _, [] => 1
 | a :: x, b :: y => if cmpP a b = 0 then cmpL x y else cmpP a b
theorem cmp_eq (a b : ByteArray) : cmp_Compare_string.f a b = some (cmpP a b) := by
 unfold cmp_Compare_string.f cmp_isNaN_string.f cmpP
 simp only [bne_self_eq_false, Option.bind_some]
 rw [if_neg (by simp), if_neg (by simp)]
 split
 · rfl
 · split <;> rfl
theorem rd_at (l : List ByteArray) (i : Nat) (h : i < l.length) : rdOf ByteArray.empty l (i : Int) = l[i] := by
 unfold rdOf
 rw [Int.toNat_natCast, List.getD_eq_getElem?_getD, List.getElem?_eq_getElem h]
 rfl
theorem compare_loop (x y : List ByteArray) (hx : x.length < 1099511627776) (hy : y.length < 1099511627776) : ∀ (m i : Nat), i + m = x.length → i ≤ y.length →
 Ev (fun k => slices_Compare_string_string.l0 k x y x (x.length : Int) (i : Int)) (cmpL (x.drop i) (y.drop i))
 | 0, i, h, hiy => by
  refine Ev.step (f := fun _ => some _) (fun k => ?_) (Ev.now _)
  show slices_Compare_string_string.l0 (k + 1) x y x (x.length : Int) (i : Int) = _
  unfold slices_Compare_string_string.l0
  rw [if_neg (by omega), List.drop_of_length_le (by omega)]
  by_cases hl : (x.length : Int) < (y.length : Int)
  · rw [if_pos hl, List.drop_eq_getElem_cons (show i < y.length by omega)]
    rfl
  · rw [if_neg hl, List.drop_of_length_le (by omega)]
    rfl
 | m + 1, i, h, hiy => by
  by_cases hl : (i : Int) ≥ (y.length : Int)
  · refine Ev.step (f := fun _ => some _) (fun k => ?_) (Ev.now _)
    show slices_Compare_string_string.l0 (k + 1) x y x (x.length : Int) (i : Int) = _
    unfold slices_Compare_string_string.l0
    rw [if_pos (by omega), if_pos (by omega), if_pos (by omega), if_pos hl, List.drop_of_length_le (show y.length ≤ i by omega), List.drop_eq_getElem_cons (show i < x.length by omega)]
    rfl
  · have ih := compare_loop x y hx hy m (i + 1) (by omega) (by omega)
    have hc : cmpL (x.drop i) (y.drop i) = if cmpP x[i] y[i] = 0 then cmpL (x.drop (i + 1)) (y.drop (i + 1)) else cmpP x[i] y[i] := by
     rw [List.drop_eq_getElem_cons (show i < x.length by omega), List.drop_eq_getElem_cons (show i < y.length by omega)]
     rfl
    refine Ev.step (f := fun k => if cmpP x[i] y[i] = 0 then slices_Compare_string_string.l0 k x y x (x.length : Int) ((i + 1 : Nat) : Int) else some (cmpP x[i] y[i])) (fun k => ?_) ?_
    · show slices_Compare_string_string.l0 (k + 1) x y x (x.length : Int) (i : Int) = _
      conv => lhs; unfold slices_Compare_string_string.l0
      rw [if_pos (by omega), if_pos (by omega), if_pos (by omega), if_neg hl, if_pos (by omega), rd_at x i (by omega), rd_at y i (by omega), cmp_eq, w64n (by omega)]
      rfl
    · rw [hc]
      by_cases h0 : cmpP x[i] y[i] = 0
      · simp only [if_pos h0]; exact ih
      · simp only [if_neg h0]; exact Ev.now _
theorem compare_ev (x y : List ByteArray) (hx : x.length < 1099511627776) (hy : y.length < 1099511627776) : Ev (fun k => slices_Compare_string_string.f k x y) (cmpL x y) := by
 have := compare_loop x y hx hy x.length 0 (by omega) (by omega)
 exact this
theorem speccomp_loop (x y : List ByteArray) (hx : x.length < 1099511627776) (hy : y.length < 1099511627776) : ∀ (m i : Nat), i + m = x.length → i ≤ y.length →
 Ev (fun k => spec_l1Compare.l0 k x y ((i + 1 : Nat) : Int)) (cmpL (x.reverse.drop i) (y.reverse.drop i))
 | m, i, h, hiy => by
  have hj : ∀ k, spec_l1Compare.l0 (k + 1) x y ((i + 1 : Nat) : Int) = spec_l1Compare.j1 k x y ((i + 1 : Nat) : Int) (decide (i + 1 ≤ x.length ∧ i + 1 ≤ y.length)) := by
   intro k
   conv => lhs; unfold spec_l1Compare.l0
   by_cases hl : ((i + 1 : Nat) : Int) ≤ (x.length : Int)
   · rw [if_pos hl]
     congr 1
     rw [decide_eq_decide]; omega
   · rw [if_neg hl]
     congr 1
     rw [eq_comm, decide_eq_false_iff_not]; omega
  refine Ev.step hj ?_
  by_cases hd : i + 1 ≤ x.length ∧ i + 1 ≤ y.length
  · obtain ⟨m, rfl⟩ : ∃ m', m = m' + 1 := ⟨m - 1, by omega⟩
    have hrx : i < x.reverse.length := by rw [List.length_reverse]; omega
    have hry : i < y.reverse.length := by rw [List.length_reverse]; omega
    have ih := speccomp_loop x y hx hy m (i + 1) (by omega) (by omega)
    have hwx : wrap64 ((x.length : Int) - ((i + 1 : Nat) : Int)) = ((x.length - 1 - i : Nat) : Int) := by unfold wrap64; omega
    have hwy : wrap64 ((y.length : Int) - ((i + 1 : Nat) : Int)) = ((y.length - 1 - i : Nat) : Int) := by unfold wrap64; omega
    have gx : rdOf ByteArray.empty x ((x.length - 1 - i : Nat) : Int) = x.reverse[i] := by rw [rd_at _ _ (by omega), List.getElem_reverse]
    have gy : rdOf ByteArray.empty y ((y.length - 1 - i : Nat) : Int) = y.reverse[i] := by rw [rd_at _ _ (by omega), List.getElem_reverse]
    have hc : cmpL (x.reverse.drop i) (y.reverse.drop i) = if cmpP x.reverse[i] y.reverse[i] = 0 then cmpL (x.reverse.drop (i + 1)) (y.reverse.drop (i + 1)) else cmpP x.reverse[i] y.reverse[i] := by
     rw [List.drop_eq_getElem_cons hrx, List.drop_eq_getElem_cons hry]
     rfl
    refine Ev.step (f := fun k => if cmpP x.reverse[i] y.reverse[i] = 0 then spec_l1Compare.l0 k x y ((i + 1 + 1 : Nat) : Int) else some (cmpP x.reverse[i] y.reverse[i])) (fun k => ?_) ?_
    · rw [decide_eq_true hd]
      conv => lhs; unfold spec_l1Compare.j1
      rw [if_pos rfl, hwx, hwy, if_pos (by omega), if_pos (by omega), if_pos (by omega), if_pos (by omega), gx, gy, w64n (by omega)]
      unfold cmpP
      by_cases h1 : Op.bytesLess x.reverse[i].toList y.reverse[i].toList = true
      · rw [if_pos h1, if_pos h1]; rfl
      · rw [if_neg h1, if_neg h1]
        by_cases h2 : Op.bytesLess y.reverse[i].toList x.reverse[i].toList = true
        · rw [if_pos h2, if_pos h2]; rfl
        · rw [if_neg h2, if_neg h2]; rfl
    · rw [hc]
      by_cases h0 : cmpP x.reverse[i] y.reverse[i] = 0
      · simp only [if_pos h0]; exact ih
      · simp only [if_neg h0]; exact Ev.now _
  · refine Ev.step (f := fun _ => some _) (fun k => ?_) (Ev.now _)
    rw [decide_eq_false hd]
    conv => lhs; unfold spec_l1Compare.j1
    rw [if_neg (by simp)]
    have hcase : ∀ (p q : List ByteArray), (p = [] ∨ q = []) → cmpL p q = if p.length < q.length then -1 else if p.length > q.length then 1 else 0 := by
     intro p q hpq
     cases p <;> cases q <;> first | rfl | (simp at hpq)| (simp [cmpL])
    rw [hcase _ _ (by
     by_cases h1 : i + 1 ≤ x.length
     · right; apply List.drop_of_length_le; rw [List.length_reverse]; omega
     · left; apply List.drop_of_length_le; rw [List.length_reverse]; omega)]
    simp only [List.length_drop, List.length_reverse]
    by_cases h1 : (x.length : Int) < (y.length : Int)
    · rw [if_pos h1, if_pos (by omega)]
    · by_cases h2 : (x.length : Int) > (y.length : Int)
      · rw [if_neg h1, if_pos h2, if_neg (by omega), if_pos (by omega)]
      · rw [if_neg h1, if_neg h2, if_neg (by omega), if_neg (by omega)]
 termination_by m => m
def ordL (a b : List UInt8) : Int := cmpL ((labelsL a).map mkB).reverse ((labelsL b).map mkB).reverse
theorem labs_len (s : ByteArray) (hs : s.size ≤ 1048576) : ((labelsL s.data.toList).map mkB).length ≤ 1048577 := by
 rw [List.length_map]
 unfold labelsL
 split
 · simp
 · have := splitL_len 46 s.data.toList; rw [← size_len] at this; omega
theorem implComp_ev (a b : ByteArray) (ha : a.size ≤ 1048576) (hb : b.size ≤ 1048576) : Ev (fun k => impl_compareNames.f k a b) (ordL a.data.toList b.data.toList) := by
 have h1 := labs_len a ha
 have h2 := labs_len b hb
 refine Ev.congr (f := fun k => (slices_Reverse_string_string.f k ((labelsL a.data.toList).map mkB)).bind fun t151 => (slices_Reverse_string_string.f k ((labelsL b.data.toList).map mkB)).bind fun t152 => (slices_Compare_string_string.f k t151 t152).bind fun t153 => some t153) (fun k => ?_) ?_
 · unfold impl_compareNames.f
   rw [labelsOf_eq a (by omega), labelsOf_eq b (by omega)]
   rfl
 · refine Ev.bind (reverse_ev _ (by omega)) (Ev.bind (reverse_ev _ (by omega)) (Ev.bind (compare_ev _ _ ?_ ?_) (Ev.now _)))
   · rw [List.length_reverse]; omega
   · rw [List.length_reverse]; omega
theorem specComp_ev (a b : ByteArray) (ha : a.size ≤ 1048576) (hb : b.size ≤ 1048576) (ga : goodL a.data.toList = true) (gb : goodL b.data.toList = true) : Ev (fun k => spec_l1Compare.f k a b) (ordL a.data.toList b.data.toList) := by
 obtain ⟨r1, e1, e2, e3⟩ := labels_ev a (by omega)
 obtain ⟨r2, f1, f2, f3⟩ := labels_ev b (by omega)
 have h1 := labs_len a ha
 have h2 := labs_len b hb
 refine Ev.congr (fun k => rfl) (Ev.bind e1 (Ev.bind f1 ?_))
 rw [e3 (e2.trans ga), f3 (f2.trans gb)]
 exact speccomp_loop _ _ (by omega) (by omega) _ 0 (Nat.zero_add _) (by omega)
theorem nb_rd (l : List ByteArray) (i : Nat) (h : i < l.length) : rdOf ByteArray.empty l (i : Int) = l[i] := by
 unfold rdOf
 rw [Int.toNat_natCast, List.getD_eq_getElem?_getD, List.getElem?_eq_getElem h]
 rfl
theorem nb_loops (parts : List ByteArray) (hp : ∀ p ∈ parts, p.size ≤ 1000) (hl : parts.length ≤ 1000) : ∀ (m i : Nat) (acc : ByteArray), i + m = parts.length → acc.size + m * 1024 < 1099511627776 →
 ∃ r, Ev (fun k => impl_labelBytes.l0 k acc parts (parts.length : Int) (i : Int)) r ∧ Ev (fun k => spec_l2Bytes.l0 k acc parts (parts.length : Int) (i : Int)) (r ++ (⟨#[0]⟩ : ByteArray)) ∧ r.size = acc.size + ((parts.drop i).map fun p => 1 + p.size).sum ∧ r.size < 1099511627776
 | 0, i, acc, him, ha => by
  refine ⟨acc, Ev.step (f := fun _ => some acc) (fun k => ?_) (Ev.now _), Ev.step (f := fun _ => some (acc ++ (⟨#[0]⟩ : ByteArray))) (fun k => ?_) (Ev.now _), by rw [List.drop_of_length_le (by omega)]; rfl, by omega⟩
  · show impl_labelBytes.l0 (k + 1) acc parts (parts.length : Int) (i : Int) = _
    unfold impl_labelBytes.l0
    rw [if_neg (by omega)]
  · show spec_l2Bytes.l0 (k + 1) acc parts (parts.length : Int) (i : Int) = _
    unfold spec_l2Bytes.l0
    rw [if_neg (by omega), if_pos (by omega)]
 | m + 1, i, acc, him, ha => by
  have hi : i < parts.length := by omega
  have hs : ∀ v : Int, (strOfNums [v]).size = 1 := fun v => by rw [strOfNums_size]; rfl
  have hpi := hp _ (List.getElem_mem hi)
  obtain ⟨r, h1, h2, h3, h4⟩ := nb_loops parts hp hl m (i + 1) (acc ++ (strOfNums [((parts[i].size : Int)) % 256] ++ parts[i])) (by omega) (by
   rw [ByteArray.size_append, ByteArray.size_append, hs]; omega)
  refine ⟨r, Ev.step (fun k => ?_) h1, Ev.step (fun k => ?_) h2, ?_, h4⟩
  · show impl_labelBytes.l0 (k + 1) acc parts (parts.length : Int) (i : Int) = _
    conv => lhs; unfold impl_labelBytes.l0
    rw [if_pos (by omega), if_pos (by omega), if_pos (by omega), nb_rd _ _ hi, Option.bind_some, if_pos (by rw [hs]; omega), if_pos (by rw [ByteArray.size_append, hs]; omega), w64n (by omega)]
  · show spec_l2Bytes.l0 (k + 1) acc parts (parts.length : Int) (i : Int) = _
    conv => lhs; unfold spec_l2Bytes.l0
    rw [if_pos (by omega), if_pos (by omega), if_pos (by omega), nb_rd _ _ hi, Option.bind_some, if_pos (by rw [hs]; omega), if_pos (by rw [ByteArray.size_append, hs]; omega), w64n (by omega)]
  · rw [h3, ByteArray.size_append, ByteArray.size_append, hs, List.drop_eq_getElem_cons hi, List.map_cons, List.sum_cons]
    omega
theorem split_sum : ∀ l : List UInt8, ((splitL 46 l).map fun p => 1 + p.length).sum = l.length + 1
 | [] => rfl
 | x :: xs => by
  have ih := split_sum xs
  unfold splitL
  split
  · rw [List.map_cons, List.sum_cons, ih, List.length_cons, List.length_nil]
    omega
  · cases hs : splitL 46 xs with
    | nil => exact absurd hs (splitL_ne 46 xs)
    | cons p ps =>
     rw [hs, List.map_cons, List.sum_cons] at ih
     rw [List.map_cons, List.sum_cons, List.length_cons, List.length_cons]
     omega
theorem nb_both (s : ByteArray) (h : goodL s.data.toList = true) : ∃ r, Ev (fun k => impl_labelBytes.f k s) r ∧ Ev (fun k => spec_l2Bytes.f k s) (r ++ (⟨#[0]⟩ : ByteArray)) ∧ r.size = (if s.size = 0 then 0 else s.size + 1) := by
 have hg := good_size h
 have hss := size_len s
 obtain ⟨q, e1, e2, e3⟩ := labels_ev s (by omega)
 have e3 := e3 (e2.trans h)
 have hlen : (labelsL s.data.toList).length ≤ 61 := by
  unfold labelsL
  split
  · simp
  · have := splitL_len 46 s.data.toList; omega
 obtain ⟨r, h1, h2, h3, h4⟩ := nb_loops ((labelsL s.data.toList).map mkB) (by
  intro p hp
  obtain ⟨x, hx, rfl⟩ := List.mem_map.1 hp
  rw [mkB_size]
  unfold labelsL at hx
  split at hx
  · cases hx
  · have := splitL_part 46 _ x hx; omega) (by rw [List.length_map]; omega) _ 0 (⟨#[]⟩ : ByteArray) (Nat.zero_add _) (by rw [List.length_map]; show 0 + _ < _; omega)
 refine ⟨r, ?_, ?_, ?_⟩
 · refine Ev.congr (f := fun k => impl_labelBytes.l0 k (⟨#[]⟩ : ByteArray) ((labelsL s.data.toList).map mkB) (((labelsL s.data.toList).map mkB).length : Int) 0) (fun k => ?_) h1
   unfold impl_labelBytes.f
   rw [labelsOf_eq s (by omega)]
   rfl
 · refine Ev.congr (f := fun k => (spec_l1Labels.f k s).bind fun bt137 => (spec_l2Bytes.l0 k (⟨#[]⟩ : ByteArray) bt137.1 (bt137.1.length : Int) 0)) (fun k => rfl) (Ev.bind e1 ?_)
   rw [e3]
   exact h2
 · rw [h3, List.drop_zero, List.map_map]
   have e : ((fun p : ByteArray => 1 + p.size) ∘ mkB) = fun p => 1 + p.length := by funext p; show 1 + (mkB p).size = _; rw [mkB_size]
   rw [e]
   unfold labelsL
   by_cases h0 : s.data.toList = []
   · rw [if_pos h0, if_pos (by rw [hss, h0]; rfl)]; rfl
   · rw [if_neg h0, if_neg (by rw [hss]; have := List.length_pos_iff.2 h0; omega), split_sum, ← hss]
     show 0 + (s.size + 1) = _
     omega
end Go.Proofs.YtkpkfallgjdkmaaGreatDoor.Pure
