/- FnExactRuleOf: part 11 of 26 of my texts for this claim, joined; the theorem stands in the last. Conditions: none beyond the statement's. -/
import Derived.Test.YtkpkfallgjdkmaaGreatDoorMFnExactRuleOfx2
import Derived.Test.YtkpkfallgjdkmaaGreatDoorMFnExactRuleOfx8
import Derived.Test.YtkpkfallgjdkmaaGreatDoorMFnExactRuleOfx9
import Derived.Test.YtkpkfallgjdkmaaGreatDoorMFnExactRuleOfx3
namespace Go.Proofs.YtkpkfallgjdkmaaGreatDoor.P
open Go.RowKit Go.Proofs.YtkpkfallgjdkmaaGreatDoorW.PrintWords Go.Proofs.YtkpkfallgjdkmaaGreatDoorW.PrintLast Go.Proofs.YtkpkfallgjdkmaaGreatDoorW.PrintMore
attribute [local go_sem] max2_int min2_int max_two min_two max_three min_three max_four min_four
set_option linter.unusedVariables false
set_option linter.unusedSimpArgs false
def spec_l6List.l0 : Nat → List (S72) → List (S72) → Int → Int → Option (Bool)
  | 0, _, _, _, _ => none
  | k + 1, x0, x5, x6, x7 => if x7 < x6 then (if 0 ≤ x7 then (if x7 < (x5.length : Int) then ((spec_GoodRecord.f k ((rd_T72 x5 x7).f0) ((rd_T72 x5 x7).f1) ((rd_T72 x5 x7).f2) ((rd_T72 x5 x7).f3)).bind fun t687 => (if t687 = true then (if x7 > 0 then (if 0 ≤ (wrap64 (x7 - 1)) then (if (wrap64 (x7 - 1)) < (x0.length : Int) then ((spec_l3Compare.f k ((rd_T72 x0 (wrap64 (x7 - 1))).f0) ((rd_T72 x0 (wrap64 (x7 - 1))).f1) ((rd_T72 x0 (wrap64 (x7 - 1))).f2) ((rd_T72 x0 (wrap64 (x7 - 1))).f3) ((rd_T72 x5 x7).f0) ((rd_T72 x5 x7).f1) ((rd_T72 x5 x7).f2) ((rd_T72 x5 x7).f3)).bind fun t689 => (if t689 ≥ 0 then (some false) else (spec_l6List.l0 k x0 x5 x6 (wrap64 (x7 + 1))))) else (none)) else (none)) else (spec_l6List.l0 k x0 x5 x6 (wrap64 (x7 + 1)))) else (some false))) else (none)) else (none)) else (some (decide ((x0.length : Int) ≤ 40)))
def spec_l6List.f (k : Nat) (l0 : List (S72)) : Option (Bool) := spec_l6List.l0 k l0 l0 (l0.length : Int) 0
def spec_l6List.T4 : Bool × List (List Nat × List Nat) := (true, [([], []), ([0], [0]), ([1], [1]), ([2, 1], [2]), ([3], [3]), ([4, 3], [3, 4]), ([5, 3, 3], [3, 5]), ([6], [6]), ([6], [6]), ([8, 6], [6, 8]), ([7, 9, 6], [6, 7, 9]), ([10, 6], [6, 10]), ([6], [6]), ([11, 12, 6, 6], [6, 11, 12]), ([13, 6], [6, 13]), ([6, 14, 3], [3, 6, 14]), ([3, 15], [3, 15])])
def spec_l6List.B4 : List Nat := [0, 1, 3, 7, 15, 31, 63, 127, 127, 383, 1023, 2047, 127, 8191, 16383, 32767, 65535]
theorem spec_l6List.tab4 : rtab .any (opsOf Tryz.f56 4) = spec_l6List.T4 := by kernel_rfl
theorem spec_l6List.bits4 : waitsOk spec_l6List.T4.2 spec_l6List.B4 = true := by kernel_rfl
set_option maxHeartbeats 8000000 in
set_option maxRecDepth 100000 in
theorem spec_l6List.calls (k : Nat) (A0 : Option Addr) (c0 : Nat) (l0 : List (S72)) (r : Bool) (w : World) (hr0 : Kd.C k72 w A0 l0.length l0) (hc0 : l0.length ≤ c0) (h : spec_l6List.f k l0 = some r) :
    Calls Tryz.prog 56 #[.slice A0 l0.length c0] w fun e w' => e = .returned (.bool r) ∧ Below w.heap.size w w' := by
  have hu72 := Tryz.underlying72
  have HR0 := a0_ hr0
  have HC0 := a0_ hc0
  clear hr0 hc0
  have HB := a0_ (Below.refl w.heap.size w)
  have H : (spec_l6List.l0 k l0 l0 (l0.length : Int) 0) = some r := h
  clear h
  have H' := a0_ H
  clear H
  go_enter Tryz.func56, Tryz.ntmps56
  go_wp2
  go_loopg [7] k (fun kq v7 w' => ∃ (x7_1 : Int), v7 = .int .i64 x7_1 ∧ Aside0 (spec_l6List.l0 kq l0 l0 (l0.length : Int) x7_1 = some r) ∧ Aside0 (kq ≤ k) ∧ Aside0 (Below w.heap.size w w'))
  case atStart => exact ⟨(0), (by first | rfl | (simp; done) | (simp [*]; done)), H', ⟨Nat.le_refl _⟩, ⟨by repeat (first | (with_reducible first | exact HB.out | apply below_alloc | apply pw_below_drewN | apply below_drew1) | exact HB.out)⟩⟩
  case round =>
    clear H'
    obtain ⟨x7_1, rfl, HA, HK1, HB⟩ := hrel
    cases gk with
    | zero => exact absurd HA.out (by simp [spec_l6List.l0])
    | succ k1 =>
      have H := HA.out
      clear HA
      simp only [spec_l6List.l0] at H
      by_cases c2 : x7_1 < (l0.length : Int)
      · rw [if_pos c2] at H
        have c2b0 : decide (x7_1 < (l0.length : Int)) = true := decide_eq_true c2
        clear c2
        by_cases c3 : 0 ≤ x7_1
        · rw [if_pos c3] at H
          have c3b0 : decide (0 ≤ x7_1) = true := decide_eq_true c3
          clear c3
          by_cases c4 : x7_1 < (l0.length : Int)
          · rw [if_pos c4] at H
            have c4b0 : decide (x7_1 < (l0.length : Int)) = true := decide_eq_true c4
            clear c4
            replace H := Option.bind_eq_some_iff.mp H
            obtain ⟨t687, A50, H⟩ := H
            replace H : (if t687 = true then (if x7_1 > 0 then (if 0 ≤ (wrap64 (x7_1 - 1)) then (if (wrap64 (x7_1 - 1)) < (l0.length : Int) then ((spec_l3Compare.f k1 ((rd_T72 l0 (wrap64 (x7_1 - 1))).f0) ((rd_T72 l0 (wrap64 (x7_1 - 1))).f1) ((rd_T72 l0 (wrap64 (x7_1 - 1))).f2) ((rd_T72 l0 (wrap64 (x7_1 - 1))).f3) ((rd_T72 l0 x7_1).f0) ((rd_T72 l0 x7_1).f1) ((rd_T72 l0 x7_1).f2) ((rd_T72 l0 x7_1).f3)).bind fun t689 => (if t689 ≥ 0 then (some false) else (spec_l6List.l0 k1 l0 l0 (l0.length : Int) (wrap64 (x7_1 + 1))))) else (none)) else (none)) else (spec_l6List.l0 k1 l0 l0 (l0.length : Int) (wrap64 (x7_1 + 1)))) else (some false)) = some r := H
            have A5 := a0_ A50
            clear A50
            by_cases c6 : t687 = true
            · subst c6
              have H1 : (if x7_1 > 0 then (if 0 ≤ (wrap64 (x7_1 - 1)) then (if (wrap64 (x7_1 - 1)) < (l0.length : Int) then ((spec_l3Compare.f k1 ((rd_T72 l0 (wrap64 (x7_1 - 1))).f0) ((rd_T72 l0 (wrap64 (x7_1 - 1))).f1) ((rd_T72 l0 (wrap64 (x7_1 - 1))).f2) ((rd_T72 l0 (wrap64 (x7_1 - 1))).f3) ((rd_T72 l0 x7_1).f0) ((rd_T72 l0 x7_1).f1) ((rd_T72 l0 x7_1).f2) ((rd_T72 l0 x7_1).f3)).bind fun t689 => (if t689 ≥ 0 then (some false) else (spec_l6List.l0 k1 l0 l0 (l0.length : Int) (wrap64 (x7_1 + 1))))) else (none)) else (none)) else (spec_l6List.l0 k1 l0 l0 (l0.length : Int) (wrap64 (x7_1 + 1)))) = some r := by rw [if_pos rfl] at H; exact H
              clear H
              have H := H1
              clear H1
              by_cases c7 : x7_1 > 0
              · rw [if_pos c7] at H
                have c7b0 : decide (0 < x7_1) = true := decide_eq_true c7
                clear c7
                obtain ⟨ji8, hji8⟩ : ∃ j_ : Int, (wrap64 (x7_1 - 1)) = j_ := ⟨_, rfl⟩
                replace H : (if 0 ≤ (ji8) then (if (ji8) < (l0.length : Int) then ((spec_l3Compare.f k1 ((rd_T72 l0 (ji8)).f0) ((rd_T72 l0 (ji8)).f1) ((rd_T72 l0 (ji8)).f2) ((rd_T72 l0 (ji8)).f3) ((rd_T72 l0 x7_1).f0) ((rd_T72 l0 x7_1).f1) ((rd_T72 l0 x7_1).f2) ((rd_T72 l0 x7_1).f3)).bind fun t689 => (if t689 ≥ 0 then (some false) else (spec_l6List.l0 k1 l0 l0 (l0.length : Int) (wrap64 (x7_1 + 1))))) else (none)) else (none)) = some r := by first | (rw [hji8] at H; exact H) | (simp only [hji8] at H ⊢; exact H)
                (try rw [hji8] at A5)
                have hji8w : (IntKind.i64.wrap (x7_1 - 1)) = ji8 := (i64_w _).trans hji8
                by_cases c9 : 0 ≤ (ji8)
                · rw [if_pos c9] at H
                  have c9b0 : decide (0 ≤ (ji8)) = true := decide_eq_true c9
                  clear c9
                  by_cases c10 : (ji8) < (l0.length : Int)
                  · rw [if_pos c10] at H
                    have c10b0 : decide ((ji8) < (l0.length : Int)) = true := decide_eq_true c10
                    clear c10
                    replace H := Option.bind_eq_some_iff.mp H
                    obtain ⟨t689, A110, H⟩ := H
                    replace H : (if t689 ≥ 0 then (some false) else (spec_l6List.l0 k1 l0 l0 (l0.length : Int) (wrap64 (x7_1 + 1)))) = some r := H
                    have A11 := a0_ A110
                    clear A110
                    by_cases c12 : t689 ≥ 0
                    · rw [if_pos c12] at H
                      have c12b0 : decide (0 ≤ t689) = true := decide_eq_true c12
                      clear c12
                      obtain rfl := Option.some.inj H
                      have p685 : 0 ≤ (x7_1 : Int) := dec_
                      have q685 : x7_1 < (l0.length : Int) := dec_
                      obtain ⟨ad685, e685, hx685_0, hx685_1, hx685_2, hx685_3⟩ := at_T72 HR0.out x7_1 p685 q685
                      cases e685
                      obtain ⟨hx685_0, hx685_1, hx685_2, hx685_3⟩ := up4_ HB.out hx685_0 hx685_1 hx685_2 hx685_3
                      replace p685 := eq_true p685
                      replace q685 := eq_true q685
                      try go_wp2_with (first | ((with_reducible refine gate_dst (N := 4) rfl ?_); refine boxS_ 4 #[.string (⟨#[]⟩ : ByteArray), .int .i64 0, .int .i64 0, .string (⟨#[]⟩ : ByteArray)] 72 (fun gb686 hg w13 hbox hb => ?_); have n0_ := a0_ (below_step bq0_ hb); have n1_ := a0_ (hbox); have n2_ := a0_ (gw_ hg : w.heap.size ≤ gb686); have n3_ := n2_; clear HB; have HB := n0_; have BK686 := n1_; have GW686 := n2_; have GE686 := n3_; clear n0_ n1_ n2_ n3_; clear hb hbox hg; obtain ⟨z14_0, z14_1, z14_2, z14_3, q14_0, q14_1, q14_2, q14_3⟩ := bk4_ BK686.out))
                      have n0_ : Aside0 (((((w13.setCell ⟨gb686, 0, none⟩ (.string ((rd_T72 l0 x7_1).f0))).setCell ⟨gb686, 1, none⟩ (.int .i64 ((rd_T72 l0 x7_1).f1))).setCell ⟨gb686, 2, none⟩ (.int .i64 ((rd_T72 l0 x7_1).f2))).setCell ⟨gb686, 3, none⟩ (.string ((rd_T72 l0 x7_1).f3))).heap[gb686]? = some (.cells #[.string ((rd_T72 l0 x7_1).f0), .int .i64 ((rd_T72 l0 x7_1).f1), .int .i64 ((rd_T72 l0 x7_1).f2), .string ((rd_T72 l0 x7_1).f3)] 72 (0, 0))) := ⟨by (with_reducible repeat (first | refine blk_drewN ?_ _ | refine blk_drew ?_ | refine blk_alloc ?_ _)); refine blk_put (cs := #[.string ((rd_T72 l0 x7_1).f0), .int .i64 ((rd_T72 l0 x7_1).f1), .int .i64 ((rd_T72 l0 x7_1).f2), .string (⟨#[]⟩ : ByteArray)]) ?_ 3 _ rfl; (with_reducible repeat (first | refine blk_drewN ?_ _ | refine blk_drew ?_ | refine blk_alloc ?_ _)); refine blk_put (cs := #[.string ((rd_T72 l0 x7_1).f0), .int .i64 ((rd_T72 l0 x7_1).f1), .int .i64 0, .string (⟨#[]⟩ : ByteArray)]) ?_ 2 _ rfl; (with_reducible repeat (first | refine blk_drewN ?_ _ | refine blk_drew ?_ | refine blk_alloc ?_ _)); refine blk_put (cs := #[.string ((rd_T72 l0 x7_1).f0), .int .i64 0, .int .i64 0, .string (⟨#[]⟩ : ByteArray)]) ?_ 1 _ rfl; (with_reducible repeat (first | refine blk_drewN ?_ _ | refine blk_drew ?_ | refine blk_alloc ?_ _)); refine blk_put (cs := #[.string (⟨#[]⟩ : ByteArray), .int .i64 0, .int .i64 0, .string (⟨#[]⟩ : ByteArray)]) ?_ 0 _ rfl; (with_reducible repeat (first | refine blk_drewN ?_ _ | refine blk_drew ?_ | refine blk_alloc ?_ _)); exact BK686.out⟩
                      have n1_ : Aside0 (Below w.heap.size w ((((w13.setCell ⟨gb686, 0, none⟩ (.string ((rd_T72 l0 x7_1).f0))).setCell ⟨gb686, 1, none⟩ (.int .i64 ((rd_T72 l0 x7_1).f1))).setCell ⟨gb686, 2, none⟩ (.int .i64 ((rd_T72 l0 x7_1).f2))).setCell ⟨gb686, 3, none⟩ (.string ((rd_T72 l0 x7_1).f3)))) := ⟨by repeat (first | (with_reducible first | exact HB.out | apply below_alloc | apply pw_below_drewN | apply below_drew1 | refine below_set ?_ GE686.out) | exact HB.out)⟩
                      (try clear BK686)
                      (try clear HB)
                      generalize ((((w13.setCell ⟨gb686, 0, none⟩ (.string ((rd_T72 l0 x7_1).f0))).setCell ⟨gb686, 1, none⟩ (.int .i64 ((rd_T72 l0 x7_1).f1))).setCell ⟨gb686, 2, none⟩ (.int .i64 ((rd_T72 l0 x7_1).f2))).setCell ⟨gb686, 3, none⟩ (.string ((rd_T72 l0 x7_1).f3))) = w15 at n0_ n1_ ⊢
                      have BK686 := n0_
                      have HB := n1_
                      clear n0_ n1_
                      replace BK686 := a0_ (blk_drew BK686.out)
                      replace HB := a0_ (below_drew1 HB.out)
                      have p688 : 0 ≤ ((ji8) : Int) := dec_
                      have q688 : (ji8) < (l0.length : Int) := dec_
                      obtain ⟨ad688, e688, hx688_0, hx688_1, hx688_2, hx688_3⟩ := at_T72 HR0.out (ji8) p688 q688
                      have hw688_3 := hx688_3
                      have hw688_2 := hx688_2
                      have hw688_1 := hx688_1
                      have hw688_0 := hx688_0
                      obtain rfl : ad685 = ad688 := (by injection e688)
                      obtain ⟨hx688_0, hx688_1, hx688_2, hx688_3⟩ := up4_ HB.out hx688_0 hx688_1 hx688_2 hx688_3
                      replace p688 := eq_true p688
                      replace q688 := eq_true q688
                      refine start_ (n := 17) (S := fun w' => w'.cell? ⟨gb686, 0, none⟩ = some (.string ((rd_T72 l0 x7_1).f0)) ∧ w'.cell? ⟨gb686, 1, none⟩ = some (.int .i64 ((rd_T72 l0 x7_1).f1)) ∧ w'.cell? ⟨gb686, 2, none⟩ = some (.int .i64 ((rd_T72 l0 x7_1).f2)) ∧ w'.cell? ⟨gb686, 3, none⟩ = some (.string ((rd_T72 l0 x7_1).f3)) ∧ w'.cell? (ad685.add (((ji8)).toNat * 4)) = some (.string ((rd_T72 l0 (ji8)).f0)) ∧ w'.cell? ⟨(ad685.add (((ji8)).toNat * 4)).block, (ad685.add (((ji8)).toNat * 4)).off + 1, none⟩ = some (.int .i64 ((rd_T72 l0 (ji8)).f1)) ∧ w'.cell? ⟨(ad685.add (((ji8)).toNat * 4)).block, (ad685.add (((ji8)).toNat * 4)).off + 2, none⟩ = some (.int .i64 ((rd_T72 l0 (ji8)).f2)) ∧ w'.cell? ⟨(ad685.add (((ji8)).toNat * 4)).block, (ad685.add (((ji8)).toNat * 4)).off + 3, none⟩ = some (.string ((rd_T72 l0 (ji8)).f3))) (ds := []) #[false, false, false, false, false, false, false, false, false, false, false, false, false, false, false, false, false] (by kernel_rfl) rfl rfl ⟨(blk_cell BK686.out 0).trans rfl, (blk_cell BK686.out 1).trans rfl, (blk_cell BK686.out 2).trans rfl, (blk_cell BK686.out 3).trans rfl, ((HB.out.cell (World.block_lt_of_cell? w _ hw688_0)).trans hw688_0), ((HB.out.cell (World.block_lt_of_cell? w _ hw688_1)).trans hw688_1), ((HB.out.cell (World.block_lt_of_cell? w _ hw688_2)).trans hw688_2), ((HB.out.cell (World.block_lt_of_cell? w _ hw688_3)).trans hw688_3)⟩ (fun hHeld => ?_); refine with_tabW spec_l6List.tab4 spec_l6List.bits4 (fun HT_ HW_ => ?_)
                      generalize w15.drew = w16 at BK686 HB hx688_0 hx688_1 hx688_2 hx688_3 hHeld ⊢
                      refine takeS_ 0 (some 12) ?_
                      refine oneS_ 1 (some 13) (fun K hK => ?_)
                      refine goesR_ Tryz.func82 #[.agg #[.string ((rd_T72 l0 x7_1).f0), .int .i64 ((rd_T72 l0 x7_1).f1), .int .i64 ((rd_T72 l0 x7_1).f2), .string ((rd_T72 l0 x7_1).f3)]] ?_
                      with_reducible refine (spec_GoodRecord.calls k1 ((rd_T72 l0 x7_1).f0) ((rd_T72 l0 x7_1).f1) ((rd_T72 l0 x7_1).f2) ((rd_T72 l0 x7_1).f3) true _ A5.out).mono ?_
                      rintro e w17 ⟨rfl, hb⟩
                      refine ⟨_, rfl, ?_⟩
                      replace BK686 := a0_ (bkB_ BK686 hb)
                      replace HB := a0_ (below_step bq1_ hb)
                      (try clear hb)
                      (try clear hb2)
                      (try clear hk)
                      (try clear hi)
                      refine hK.out _ _ ⟨(blk_cell BK686.out 0).trans rfl, (blk_cell BK686.out 1).trans rfl, (blk_cell BK686.out 2).trans rfl, (blk_cell BK686.out 3).trans rfl, ((HB.out.cell (World.block_lt_of_cell? w _ hw688_0)).trans hw688_0), ((HB.out.cell (World.block_lt_of_cell? w _ hw688_1)).trans hw688_1), ((HB.out.cell (World.block_lt_of_cell? w _ hw688_2)).trans hw688_2), ((HB.out.cell (World.block_lt_of_cell? w _ hw688_3)).trans hw688_3)⟩ (fun hHeld => ?_)
                      clear hK K
                      refine normS_ ?_
                      refine pureS_ 2 (some 14) ?_
                      refine pureS_ 3 (some 15) ?_
                      refine pureS_ 4 (some 16) ?_
                      refine pureS_ 5 (some 17) ?_
                      refine pureS_ 6 (some 18) ?_
                      refine pureS_ 7 (some 19) ?_
                      refine pureS_ 8 (some 20) ?_
                      refine pureS_ 9 (some 21) ?_
                      refine pureS_ 10 (some 22) ?_
                      refine takeS_ 11 (some 23) ?_
                      refine takeS_ 12 (some 24) ?_
                      refine oneS_ 13 (some 25) (fun K hK => ?_)
                      refine goes_ Tryz.func83 (by kernel_rfl) rfl #[.agg #[.string ((rd_T72 l0 (ji8)).f0), .int .i64 ((rd_T72 l0 (ji8)).f1), .int .i64 ((rd_T72 l0 (ji8)).f2), .string ((rd_T72 l0 (ji8)).f3)], .agg #[.string ((rd_T72 l0 x7_1).f0), .int .i64 ((rd_T72 l0 x7_1).f1), .int .i64 ((rd_T72 l0 x7_1).f2), .string ((rd_T72 l0 x7_1).f3)]] (by rfl) rfl rfl (by (try simp only [List.map_toArray, List.map_cons, List.map_nil]); first | done | (simp only [hji8]; rfl) | rfl | (simp only [List.length_drop, List.length_take]; rfl)) ?_
                      with_reducible refine (spec_l3Compare.calls k1 ((rd_T72 l0 (ji8)).f0) ((rd_T72 l0 (ji8)).f1) ((rd_T72 l0 (ji8)).f2) ((rd_T72 l0 (ji8)).f3) ((rd_T72 l0 x7_1).f0) ((rd_T72 l0 x7_1).f1) ((rd_T72 l0 x7_1).f2) ((rd_T72 l0 x7_1).f3) t689 _ A11.out).mono ?_
                      rintro e w18 ⟨rfl, hb⟩
                      refine ⟨_, rfl, ?_⟩
                      replace BK686 := a0_ (bkB_ BK686 hb)
                      replace HB := a0_ (below_step bq1_ hb)
                      (try clear hb)
                      (try clear hb2)
                      (try clear hk)
                      (try clear hi)
                      refine hK.out _ _ ⟨(blk_cell BK686.out 0).trans rfl, (blk_cell BK686.out 1).trans rfl, (blk_cell BK686.out 2).trans rfl, (blk_cell BK686.out 3).trans rfl, ((HB.out.cell (World.block_lt_of_cell? w _ hw688_0)).trans hw688_0), ((HB.out.cell (World.block_lt_of_cell? w _ hw688_1)).trans hw688_1), ((HB.out.cell (World.block_lt_of_cell? w _ hw688_2)).trans hw688_2), ((HB.out.cell (World.block_lt_of_cell? w _ hw688_3)).trans hw688_3)⟩ (fun hHeld => ?_)
                      clear hK K
                      refine normS_ ?_
                      refine pureS_ 14 (some 26) ?_
                      refine pureS_ 15 (some 27) ?_
                      refine pureS_ 16 (some 28) ?_
                      refine done_ (done_of HT_.out (by kernel_rfl)) ?_
                      try go_wp2
                      go_ret
                      exact ⟨by first | rfl | (simp [errW_none, errW_some] <;> rfl) | (simp only [← hji8]; first | rfl | (simp [errW_none, errW_some] <;> rfl)) | (simp [*, errW_none, errW_some] <;> rfl), by repeat (first | (with_reducible first | exact HB.out | apply below_alloc | apply pw_below_drewN | apply below_drew1 | refine below_set ?_ GE686.out) | exact HB.out)⟩
                    · rw [if_neg c12] at H
                      have c12b0 : decide (0 ≤ t689) = false := decide_eq_false c12
                      clear c12
                      have H' := a0_ H
                      clear H
                      have p685 : 0 ≤ (x7_1 : Int) := dec_
                      have q685 : x7_1 < (l0.length : Int) := dec_
                      obtain ⟨ad685, e685, hx685_0, hx685_1, hx685_2, hx685_3⟩ := at_T72 HR0.out x7_1 p685 q685
                      cases e685
                      obtain ⟨hx685_0, hx685_1, hx685_2, hx685_3⟩ := up4_ HB.out hx685_0 hx685_1 hx685_2 hx685_3
                      replace p685 := eq_true p685
                      replace q685 := eq_true q685
                      try go_wp2_with (first | ((with_reducible refine gate_dst (N := 4) rfl ?_); refine boxS_ 4 #[.string (⟨#[]⟩ : ByteArray), .int .i64 0, .int .i64 0, .string (⟨#[]⟩ : ByteArray)] 72 (fun gb686 hg w19 hbox hb => ?_); have n0_ := a0_ (below_step bq0_ hb); have n1_ := a0_ (hbox); have n2_ := a0_ (gw_ hg : w.heap.size ≤ gb686); have n3_ := n2_; clear HB; have HB := n0_; have BK686 := n1_; have GW686 := n2_; have GE686 := n3_; clear n0_ n1_ n2_ n3_; clear hb hbox hg; obtain ⟨z20_0, z20_1, z20_2, z20_3, q20_0, q20_1, q20_2, q20_3⟩ := bk4_ BK686.out))
                      have n0_ : Aside0 (((((w19.setCell ⟨gb686, 0, none⟩ (.string ((rd_T72 l0 x7_1).f0))).setCell ⟨gb686, 1, none⟩ (.int .i64 ((rd_T72 l0 x7_1).f1))).setCell ⟨gb686, 2, none⟩ (.int .i64 ((rd_T72 l0 x7_1).f2))).setCell ⟨gb686, 3, none⟩ (.string ((rd_T72 l0 x7_1).f3))).heap[gb686]? = some (.cells #[.string ((rd_T72 l0 x7_1).f0), .int .i64 ((rd_T72 l0 x7_1).f1), .int .i64 ((rd_T72 l0 x7_1).f2), .string ((rd_T72 l0 x7_1).f3)] 72 (0, 0))) := ⟨by (with_reducible repeat (first | refine blk_drewN ?_ _ | refine blk_drew ?_ | refine blk_alloc ?_ _)); refine blk_put (cs := #[.string ((rd_T72 l0 x7_1).f0), .int .i64 ((rd_T72 l0 x7_1).f1), .int .i64 ((rd_T72 l0 x7_1).f2), .string (⟨#[]⟩ : ByteArray)]) ?_ 3 _ rfl; (with_reducible repeat (first | refine blk_drewN ?_ _ | refine blk_drew ?_ | refine blk_alloc ?_ _)); refine blk_put (cs := #[.string ((rd_T72 l0 x7_1).f0), .int .i64 ((rd_T72 l0 x7_1).f1), .int .i64 0, .string (⟨#[]⟩ : ByteArray)]) ?_ 2 _ rfl; (with_reducible repeat (first | refine blk_drewN ?_ _ | refine blk_drew ?_ | refine blk_alloc ?_ _)); refine blk_put (cs := #[.string ((rd_T72 l0 x7_1).f0), .int .i64 0, .int .i64 0, .string (⟨#[]⟩ : ByteArray)]) ?_ 1 _ rfl; (with_reducible repeat (first | refine blk_drewN ?_ _ | refine blk_drew ?_ | refine blk_alloc ?_ _)); refine blk_put (cs := #[.string (⟨#[]⟩ : ByteArray), .int .i64 0, .int .i64 0, .string (⟨#[]⟩ : ByteArray)]) ?_ 0 _ rfl; (with_reducible repeat (first | refine blk_drewN ?_ _ | refine blk_drew ?_ | refine blk_alloc ?_ _)); exact BK686.out⟩
                      have n1_ : Aside0 (Below w.heap.size w ((((w19.setCell ⟨gb686, 0, none⟩ (.string ((rd_T72 l0 x7_1).f0))).setCell ⟨gb686, 1, none⟩ (.int .i64 ((rd_T72 l0 x7_1).f1))).setCell ⟨gb686, 2, none⟩ (.int .i64 ((rd_T72 l0 x7_1).f2))).setCell ⟨gb686, 3, none⟩ (.string ((rd_T72 l0 x7_1).f3)))) := ⟨by repeat (first | (with_reducible first | exact HB.out | apply below_alloc | apply pw_below_drewN | apply below_drew1 | refine below_set ?_ GE686.out) | exact HB.out)⟩
                      (try clear BK686)
                      (try clear HB)
                      generalize ((((w19.setCell ⟨gb686, 0, none⟩ (.string ((rd_T72 l0 x7_1).f0))).setCell ⟨gb686, 1, none⟩ (.int .i64 ((rd_T72 l0 x7_1).f1))).setCell ⟨gb686, 2, none⟩ (.int .i64 ((rd_T72 l0 x7_1).f2))).setCell ⟨gb686, 3, none⟩ (.string ((rd_T72 l0 x7_1).f3))) = w21 at n0_ n1_ ⊢
                      have BK686 := n0_
                      have HB := n1_
                      clear n0_ n1_
                      replace BK686 := a0_ (blk_drew BK686.out)
                      replace HB := a0_ (below_drew1 HB.out)
                      have p688 : 0 ≤ ((ji8) : Int) := dec_
                      have q688 : (ji8) < (l0.length : Int) := dec_
                      obtain ⟨ad688, e688, hx688_0, hx688_1, hx688_2, hx688_3⟩ := at_T72 HR0.out (ji8) p688 q688
                      have hw688_3 := hx688_3
                      have hw688_2 := hx688_2
                      have hw688_1 := hx688_1
                      have hw688_0 := hx688_0
                      obtain rfl : ad685 = ad688 := (by injection e688)
                      obtain ⟨hx688_0, hx688_1, hx688_2, hx688_3⟩ := up4_ HB.out hx688_0 hx688_1 hx688_2 hx688_3
                      replace p688 := eq_true p688
                      replace q688 := eq_true q688
                      refine start_ (n := 17) (S := fun w' => w'.cell? ⟨gb686, 0, none⟩ = some (.string ((rd_T72 l0 x7_1).f0)) ∧ w'.cell? ⟨gb686, 1, none⟩ = some (.int .i64 ((rd_T72 l0 x7_1).f1)) ∧ w'.cell? ⟨gb686, 2, none⟩ = some (.int .i64 ((rd_T72 l0 x7_1).f2)) ∧ w'.cell? ⟨gb686, 3, none⟩ = some (.string ((rd_T72 l0 x7_1).f3)) ∧ w'.cell? (ad685.add (((ji8)).toNat * 4)) = some (.string ((rd_T72 l0 (ji8)).f0)) ∧ w'.cell? ⟨(ad685.add (((ji8)).toNat * 4)).block, (ad685.add (((ji8)).toNat * 4)).off + 1, none⟩ = some (.int .i64 ((rd_T72 l0 (ji8)).f1)) ∧ w'.cell? ⟨(ad685.add (((ji8)).toNat * 4)).block, (ad685.add (((ji8)).toNat * 4)).off + 2, none⟩ = some (.int .i64 ((rd_T72 l0 (ji8)).f2)) ∧ w'.cell? ⟨(ad685.add (((ji8)).toNat * 4)).block, (ad685.add (((ji8)).toNat * 4)).off + 3, none⟩ = some (.string ((rd_T72 l0 (ji8)).f3))) (ds := []) #[false, false, false, false, false, false, false, false, false, false, false, false, false, false, false, false, false] (by kernel_rfl) rfl rfl ⟨(blk_cell BK686.out 0).trans rfl, (blk_cell BK686.out 1).trans rfl, (blk_cell BK686.out 2).trans rfl, (blk_cell BK686.out 3).trans rfl, ((HB.out.cell (World.block_lt_of_cell? w _ hw688_0)).trans hw688_0), ((HB.out.cell (World.block_lt_of_cell? w _ hw688_1)).trans hw688_1), ((HB.out.cell (World.block_lt_of_cell? w _ hw688_2)).trans hw688_2), ((HB.out.cell (World.block_lt_of_cell? w _ hw688_3)).trans hw688_3)⟩ (fun hHeld => ?_); refine with_tabW spec_l6List.tab4 spec_l6List.bits4 (fun HT_ HW_ => ?_)
                      generalize w21.drew = w22 at BK686 HB hx688_0 hx688_1 hx688_2 hx688_3 hHeld ⊢
                      refine takeS_ 0 (some 12) ?_
                      refine oneS_ 1 (some 13) (fun K hK => ?_)
                      refine goesR_ Tryz.func82 #[.agg #[.string ((rd_T72 l0 x7_1).f0), .int .i64 ((rd_T72 l0 x7_1).f1), .int .i64 ((rd_T72 l0 x7_1).f2), .string ((rd_T72 l0 x7_1).f3)]] ?_
                      with_reducible refine (spec_GoodRecord.calls k1 ((rd_T72 l0 x7_1).f0) ((rd_T72 l0 x7_1).f1) ((rd_T72 l0 x7_1).f2) ((rd_T72 l0 x7_1).f3) true _ A5.out).mono ?_
                      rintro e w23 ⟨rfl, hb⟩
                      refine ⟨_, rfl, ?_⟩
                      replace BK686 := a0_ (bkB_ BK686 hb)
                      replace HB := a0_ (below_step bq1_ hb)
                      (try clear hb)
                      (try clear hb2)
                      (try clear hk)
                      (try clear hi)
                      refine hK.out _ _ ⟨(blk_cell BK686.out 0).trans rfl, (blk_cell BK686.out 1).trans rfl, (blk_cell BK686.out 2).trans rfl, (blk_cell BK686.out 3).trans rfl, ((HB.out.cell (World.block_lt_of_cell? w _ hw688_0)).trans hw688_0), ((HB.out.cell (World.block_lt_of_cell? w _ hw688_1)).trans hw688_1), ((HB.out.cell (World.block_lt_of_cell? w _ hw688_2)).trans hw688_2), ((HB.out.cell (World.block_lt_of_cell? w _ hw688_3)).trans hw688_3)⟩ (fun hHeld => ?_)
                      clear hK K
                      refine normS_ ?_
                      refine pureS_ 2 (some 14) ?_
                      refine pureS_ 3 (some 15) ?_
                      refine pureS_ 4 (some 16) ?_
                      refine pureS_ 5 (some 17) ?_
                      refine pureS_ 6 (some 18) ?_
                      refine pureS_ 7 (some 19) ?_
                      refine pureS_ 8 (some 20) ?_
                      refine pureS_ 9 (some 21) ?_
                      refine pureS_ 10 (some 22) ?_
                      refine takeS_ 11 (some 23) ?_
                      refine takeS_ 12 (some 24) ?_
                      refine oneS_ 13 (some 25) (fun K hK => ?_)
                      refine goes_ Tryz.func83 (by kernel_rfl) rfl #[.agg #[.string ((rd_T72 l0 (ji8)).f0), .int .i64 ((rd_T72 l0 (ji8)).f1), .int .i64 ((rd_T72 l0 (ji8)).f2), .string ((rd_T72 l0 (ji8)).f3)], .agg #[.string ((rd_T72 l0 x7_1).f0), .int .i64 ((rd_T72 l0 x7_1).f1), .int .i64 ((rd_T72 l0 x7_1).f2), .string ((rd_T72 l0 x7_1).f3)]] (by rfl) rfl rfl (by (try simp only [List.map_toArray, List.map_cons, List.map_nil]); first | done | (simp only [hji8]; rfl) | rfl | (simp only [List.length_drop, List.length_take]; rfl)) ?_
                      with_reducible refine (spec_l3Compare.calls k1 ((rd_T72 l0 (ji8)).f0) ((rd_T72 l0 (ji8)).f1) ((rd_T72 l0 (ji8)).f2) ((rd_T72 l0 (ji8)).f3) ((rd_T72 l0 x7_1).f0) ((rd_T72 l0 x7_1).f1) ((rd_T72 l0 x7_1).f2) ((rd_T72 l0 x7_1).f3) t689 _ A11.out).mono ?_
                      rintro e w24 ⟨rfl, hb⟩
                      refine ⟨_, rfl, ?_⟩
                      replace BK686 := a0_ (bkB_ BK686 hb)
                      replace HB := a0_ (below_step bq1_ hb)
                      (try clear hb)
                      (try clear hb2)
                      (try clear hk)
                      (try clear hi)
                      refine hK.out _ _ ⟨(blk_cell BK686.out 0).trans rfl, (blk_cell BK686.out 1).trans rfl, (blk_cell BK686.out 2).trans rfl, (blk_cell BK686.out 3).trans rfl, ((HB.out.cell (World.block_lt_of_cell? w _ hw688_0)).trans hw688_0), ((HB.out.cell (World.block_lt_of_cell? w _ hw688_1)).trans hw688_1), ((HB.out.cell (World.block_lt_of_cell? w _ hw688_2)).trans hw688_2), ((HB.out.cell (World.block_lt_of_cell? w _ hw688_3)).trans hw688_3)⟩ (fun hHeld => ?_)
                      clear hK K
                      refine normS_ ?_
                      refine pureS_ 14 (some 26) ?_
                      refine pureS_ 15 (some 27) ?_
                      refine pureS_ 16 (some 28) ?_
                      refine done_ (done_of HT_.out (by kernel_rfl)) ?_
                      try go_wp2
                      go_roundg k1
                      case measure => have := HK1.out; omega
                      case rel => exact ⟨(wrap64 (x7_1 + 1)), (by first | rfl | (simp; done) | (simp [*]; done)), H', ⟨by have := HK1.out; omega⟩, ⟨by repeat (first | (with_reducible first | exact HB.out | apply below_alloc | apply pw_below_drewN | apply below_drew1 | refine below_set ?_ GE686.out) | exact HB.out)⟩⟩
                  · rw [if_neg c10] at H
                    exact absurd H (by simp)
                · rw [if_neg c9] at H
                  exact absurd H (by simp)
              · rw [if_neg c7] at H
                have c7b0 : decide (0 < x7_1) = false := decide_eq_false c7
                clear c7
                have H' := a0_ H
                clear H
                have p685 : 0 ≤ (x7_1 : Int) := dec_
                have q685 : x7_1 < (l0.length : Int) := dec_
                obtain ⟨ad685, e685, hx685_0, hx685_1, hx685_2, hx685_3⟩ := at_T72 HR0.out x7_1 p685 q685
                cases e685
                obtain ⟨hx685_0, hx685_1, hx685_2, hx685_3⟩ := up4_ HB.out hx685_0 hx685_1 hx685_2 hx685_3
                replace p685 := eq_true p685
                replace q685 := eq_true q685
                try go_wp2_with (first | ((with_reducible refine gate_dst (N := 4) rfl ?_); refine boxS_ 4 #[.string (⟨#[]⟩ : ByteArray), .int .i64 0, .int .i64 0, .string (⟨#[]⟩ : ByteArray)] 72 (fun gb686 hg w25 hbox hb => ?_); have n0_ := a0_ (below_step bq0_ hb); have n1_ := a0_ (hbox); have n2_ := a0_ (gw_ hg : w.heap.size ≤ gb686); have n3_ := n2_; clear HB; have HB := n0_; have BK686 := n1_; have GW686 := n2_; have GE686 := n3_; clear n0_ n1_ n2_ n3_; clear hb hbox hg; obtain ⟨z26_0, z26_1, z26_2, z26_3, q26_0, q26_1, q26_2, q26_3⟩ := bk4_ BK686.out))
                have n0_ : Aside0 (((((w25.setCell ⟨gb686, 0, none⟩ (.string ((rd_T72 l0 x7_1).f0))).setCell ⟨gb686, 1, none⟩ (.int .i64 ((rd_T72 l0 x7_1).f1))).setCell ⟨gb686, 2, none⟩ (.int .i64 ((rd_T72 l0 x7_1).f2))).setCell ⟨gb686, 3, none⟩ (.string ((rd_T72 l0 x7_1).f3))).heap[gb686]? = some (.cells #[.string ((rd_T72 l0 x7_1).f0), .int .i64 ((rd_T72 l0 x7_1).f1), .int .i64 ((rd_T72 l0 x7_1).f2), .string ((rd_T72 l0 x7_1).f3)] 72 (0, 0))) := ⟨by (with_reducible repeat (first | refine blk_drewN ?_ _ | refine blk_drew ?_ | refine blk_alloc ?_ _)); refine blk_put (cs := #[.string ((rd_T72 l0 x7_1).f0), .int .i64 ((rd_T72 l0 x7_1).f1), .int .i64 ((rd_T72 l0 x7_1).f2), .string (⟨#[]⟩ : ByteArray)]) ?_ 3 _ rfl; (with_reducible repeat (first | refine blk_drewN ?_ _ | refine blk_drew ?_ | refine blk_alloc ?_ _)); refine blk_put (cs := #[.string ((rd_T72 l0 x7_1).f0), .int .i64 ((rd_T72 l0 x7_1).f1), .int .i64 0, .string (⟨#[]⟩ : ByteArray)]) ?_ 2 _ rfl; (with_reducible repeat (first | refine blk_drewN ?_ _ | refine blk_drew ?_ | refine blk_alloc ?_ _)); refine blk_put (cs := #[.string ((rd_T72 l0 x7_1).f0), .int .i64 0, .int .i64 0, .string (⟨#[]⟩ : ByteArray)]) ?_ 1 _ rfl; (with_reducible repeat (first | refine blk_drewN ?_ _ | refine blk_drew ?_ | refine blk_alloc ?_ _)); refine blk_put (cs := #[.string (⟨#[]⟩ : ByteArray), .int .i64 0, .int .i64 0, .string (⟨#[]⟩ : ByteArray)]) ?_ 0 _ rfl; (with_reducible repeat (first | refine blk_drewN ?_ _ | refine blk_drew ?_ | refine blk_alloc ?_ _)); exact BK686.out⟩
                have n1_ : Aside0 (Below w.heap.size w ((((w25.setCell ⟨gb686, 0, none⟩ (.string ((rd_T72 l0 x7_1).f0))).setCell ⟨gb686, 1, none⟩ (.int .i64 ((rd_T72 l0 x7_1).f1))).setCell ⟨gb686, 2, none⟩ (.int .i64 ((rd_T72 l0 x7_1).f2))).setCell ⟨gb686, 3, none⟩ (.string ((rd_T72 l0 x7_1).f3)))) := ⟨by repeat (first | (with_reducible first | exact HB.out | apply below_alloc | apply pw_below_drewN | apply below_drew1 | refine below_set ?_ GE686.out) | exact HB.out)⟩
                (try clear BK686)
                (try clear HB)
                generalize ((((w25.setCell ⟨gb686, 0, none⟩ (.string ((rd_T72 l0 x7_1).f0))).setCell ⟨gb686, 1, none⟩ (.int .i64 ((rd_T72 l0 x7_1).f1))).setCell ⟨gb686, 2, none⟩ (.int .i64 ((rd_T72 l0 x7_1).f2))).setCell ⟨gb686, 3, none⟩ (.string ((rd_T72 l0 x7_1).f3))) = w27 at n0_ n1_ ⊢
                have BK686 := n0_
                have HB := n1_
                clear n0_ n1_
                replace BK686 := a0_ (blk_drew BK686.out)
                replace HB := a0_ (below_drew1 HB.out)
                refine start_ (n := 17) (S := fun w' => w'.cell? ⟨gb686, 0, none⟩ = some (.string ((rd_T72 l0 x7_1).f0)) ∧ w'.cell? ⟨gb686, 1, none⟩ = some (.int .i64 ((rd_T72 l0 x7_1).f1)) ∧ w'.cell? ⟨gb686, 2, none⟩ = some (.int .i64 ((rd_T72 l0 x7_1).f2)) ∧ w'.cell? ⟨gb686, 3, none⟩ = some (.string ((rd_T72 l0 x7_1).f3))) (ds := []) #[false, false, false, false, false, false, false, false, false, false, false, false, false, false, false, false, false] (by kernel_rfl) rfl rfl ⟨(blk_cell BK686.out 0).trans rfl, (blk_cell BK686.out 1).trans rfl, (blk_cell BK686.out 2).trans rfl, (blk_cell BK686.out 3).trans rfl⟩ (fun hHeld => ?_); refine with_tabW spec_l6List.tab4 spec_l6List.bits4 (fun HT_ HW_ => ?_)
                generalize w27.drew = w28 at BK686 HB hHeld ⊢
                refine takeS_ 0 (some 12) ?_
                refine oneS_ 1 (some 13) (fun K hK => ?_)
                refine goesR_ Tryz.func82 #[.agg #[.string ((rd_T72 l0 x7_1).f0), .int .i64 ((rd_T72 l0 x7_1).f1), .int .i64 ((rd_T72 l0 x7_1).f2), .string ((rd_T72 l0 x7_1).f3)]] ?_
                with_reducible refine (spec_GoodRecord.calls k1 ((rd_T72 l0 x7_1).f0) ((rd_T72 l0 x7_1).f1) ((rd_T72 l0 x7_1).f2) ((rd_T72 l0 x7_1).f3) true _ A5.out).mono ?_
                rintro e w29 ⟨rfl, hb⟩
                refine ⟨_, rfl, ?_⟩
                replace BK686 := a0_ (bkB_ BK686 hb)
                replace HB := a0_ (below_step bq1_ hb)
                (try clear hb)
                (try clear hb2)
                (try clear hk)
                (try clear hi)
                refine hK.out _ _ ⟨(blk_cell BK686.out 0).trans rfl, (blk_cell BK686.out 1).trans rfl, (blk_cell BK686.out 2).trans rfl, (blk_cell BK686.out 3).trans rfl⟩ (fun hHeld => ?_)
                clear hK K
                refine normS_ ?_
                refine pureS_ 2 (some 14) ?_
                refine pureS_ 3 (some 15) ?_
                refine pureS_ 4 (some 16) ?_
                refine pureS_ 5 (some 17) ?_
                refine pureS_ 6 (some 18) ?_
                refine skipS_ 7 (some 19) ?_
                refine skipS_ 8 (some 20) ?_
                refine skipS_ 9 (some 21) ?_
                refine skipS_ 10 (some 22) ?_
                refine skipS_ 11 (some 23) ?_
                refine skipS_ 12 (some 24) ?_
                refine skipS_ 13 (some 25) ?_
                refine skipS_ 14 (some 26) ?_
                refine pureS_ 15 (some 27) ?_
                refine pureS_ 16 (some 28) ?_
                refine done_ (done_of HT_.out (by kernel_rfl)) ?_
                try go_wp2
                go_roundg k1
                case measure => have := HK1.out; omega
                case rel => exact ⟨(wrap64 (x7_1 + 1)), (by first | rfl | (simp; done) | (simp [*]; done)), H', ⟨by have := HK1.out; omega⟩, ⟨by repeat (first | (with_reducible first | exact HB.out | apply below_alloc | apply pw_below_drewN | apply below_drew1 | refine below_set ?_ GE686.out) | exact HB.out)⟩⟩
            · replace c6 := Bool.eq_false_iff.mpr c6
              subst c6
              have H1 : (some false) = some r := by rw [if_neg (show ¬ (false = true) by decide)] at H; exact H
              clear H
              have H := H1
              clear H1
              obtain rfl := Option.some.inj H
              have p685 : 0 ≤ (x7_1 : Int) := dec_
              have q685 : x7_1 < (l0.length : Int) := dec_
              obtain ⟨ad685, e685, hx685_0, hx685_1, hx685_2, hx685_3⟩ := at_T72 HR0.out x7_1 p685 q685
              cases e685
              obtain ⟨hx685_0, hx685_1, hx685_2, hx685_3⟩ := up4_ HB.out hx685_0 hx685_1 hx685_2 hx685_3
              replace p685 := eq_true p685
              replace q685 := eq_true q685
              try go_wp2_with (first | ((with_reducible refine gate_dst (N := 4) rfl ?_); refine boxS_ 4 #[.string (⟨#[]⟩ : ByteArray), .int .i64 0, .int .i64 0, .string (⟨#[]⟩ : ByteArray)] 72 (fun gb686 hg w30 hbox hb => ?_); have n0_ := a0_ (below_step bq0_ hb); have n1_ := a0_ (hbox); have n2_ := a0_ (gw_ hg : w.heap.size ≤ gb686); have n3_ := n2_; clear HB; have HB := n0_; have BK686 := n1_; have GW686 := n2_; have GE686 := n3_; clear n0_ n1_ n2_ n3_; clear hb hbox hg; obtain ⟨z31_0, z31_1, z31_2, z31_3, q31_0, q31_1, q31_2, q31_3⟩ := bk4_ BK686.out))
              have n0_ : Aside0 (((((w30.setCell ⟨gb686, 0, none⟩ (.string ((rd_T72 l0 x7_1).f0))).setCell ⟨gb686, 1, none⟩ (.int .i64 ((rd_T72 l0 x7_1).f1))).setCell ⟨gb686, 2, none⟩ (.int .i64 ((rd_T72 l0 x7_1).f2))).setCell ⟨gb686, 3, none⟩ (.string ((rd_T72 l0 x7_1).f3))).heap[gb686]? = some (.cells #[.string ((rd_T72 l0 x7_1).f0), .int .i64 ((rd_T72 l0 x7_1).f1), .int .i64 ((rd_T72 l0 x7_1).f2), .string ((rd_T72 l0 x7_1).f3)] 72 (0, 0))) := ⟨by (with_reducible repeat (first | refine blk_drewN ?_ _ | refine blk_drew ?_ | refine blk_alloc ?_ _)); refine blk_put (cs := #[.string ((rd_T72 l0 x7_1).f0), .int .i64 ((rd_T72 l0 x7_1).f1), .int .i64 ((rd_T72 l0 x7_1).f2), .string (⟨#[]⟩ : ByteArray)]) ?_ 3 _ rfl; (with_reducible repeat (first | refine blk_drewN ?_ _ | refine blk_drew ?_ | refine blk_alloc ?_ _)); refine blk_put (cs := #[.string ((rd_T72 l0 x7_1).f0), .int .i64 ((rd_T72 l0 x7_1).f1), .int .i64 0, .string (⟨#[]⟩ : ByteArray)]) ?_ 2 _ rfl; (with_reducible repeat (first | refine blk_drewN ?_ _ | refine blk_drew ?_ | refine blk_alloc ?_ _)); refine blk_put (cs := #[.string ((rd_T72 l0 x7_1).f0), .int .i64 0, .int .i64 0, .string (⟨#[]⟩ : ByteArray)]) ?_ 1 _ rfl; (with_reducible repeat (first | refine blk_drewN ?_ _ | refine blk_drew ?_ | refine blk_alloc ?_ _)); refine blk_put (cs := #[.string (⟨#[]⟩ : ByteArray), .int .i64 0, .int .i64 0, .string (⟨#[]⟩ : ByteArray)]) ?_ 0 _ rfl; (with_reducible repeat (first | refine blk_drewN ?_ _ | refine blk_drew ?_ | refine blk_alloc ?_ _)); exact BK686.out⟩
              have n1_ : Aside0 (Below w.heap.size w ((((w30.setCell ⟨gb686, 0, none⟩ (.string ((rd_T72 l0 x7_1).f0))).setCell ⟨gb686, 1, none⟩ (.int .i64 ((rd_T72 l0 x7_1).f1))).setCell ⟨gb686, 2, none⟩ (.int .i64 ((rd_T72 l0 x7_1).f2))).setCell ⟨gb686, 3, none⟩ (.string ((rd_T72 l0 x7_1).f3)))) := ⟨by repeat (first | (with_reducible first | exact HB.out | apply below_alloc | apply pw_below_drewN | apply below_drew1 | refine below_set ?_ GE686.out) | exact HB.out)⟩
              (try clear BK686)
              (try clear HB)
              generalize ((((w30.setCell ⟨gb686, 0, none⟩ (.string ((rd_T72 l0 x7_1).f0))).setCell ⟨gb686, 1, none⟩ (.int .i64 ((rd_T72 l0 x7_1).f1))).setCell ⟨gb686, 2, none⟩ (.int .i64 ((rd_T72 l0 x7_1).f2))).setCell ⟨gb686, 3, none⟩ (.string ((rd_T72 l0 x7_1).f3))) = w32 at n0_ n1_ ⊢
              have BK686 := n0_
              have HB := n1_
              clear n0_ n1_
              replace BK686 := a0_ (blk_drew BK686.out)
              replace HB := a0_ (below_drew1 HB.out)
              refine start_ (n := 17) (S := fun w' => w'.cell? ⟨gb686, 0, none⟩ = some (.string ((rd_T72 l0 x7_1).f0)) ∧ w'.cell? ⟨gb686, 1, none⟩ = some (.int .i64 ((rd_T72 l0 x7_1).f1)) ∧ w'.cell? ⟨gb686, 2, none⟩ = some (.int .i64 ((rd_T72 l0 x7_1).f2)) ∧ w'.cell? ⟨gb686, 3, none⟩ = some (.string ((rd_T72 l0 x7_1).f3))) (ds := []) #[false, false, false, false, false, false, false, false, false, false, false, false, false, false, false, false, false] (by kernel_rfl) rfl rfl ⟨(blk_cell BK686.out 0).trans rfl, (blk_cell BK686.out 1).trans rfl, (blk_cell BK686.out 2).trans rfl, (blk_cell BK686.out 3).trans rfl⟩ (fun hHeld => ?_); refine with_tabW spec_l6List.tab4 spec_l6List.bits4 (fun HT_ HW_ => ?_)
              generalize w32.drew = w33 at BK686 HB hHeld ⊢
              refine takeS_ 0 (some 12) ?_
              refine oneS_ 1 (some 13) (fun K hK => ?_)
              refine goesR_ Tryz.func82 #[.agg #[.string ((rd_T72 l0 x7_1).f0), .int .i64 ((rd_T72 l0 x7_1).f1), .int .i64 ((rd_T72 l0 x7_1).f2), .string ((rd_T72 l0 x7_1).f3)]] ?_
              with_reducible refine (spec_GoodRecord.calls k1 ((rd_T72 l0 x7_1).f0) ((rd_T72 l0 x7_1).f1) ((rd_T72 l0 x7_1).f2) ((rd_T72 l0 x7_1).f3) false _ A5.out).mono ?_
              rintro e w34 ⟨rfl, hb⟩
              refine ⟨_, rfl, ?_⟩
              replace BK686 := a0_ (bkB_ BK686 hb)
              replace HB := a0_ (below_step bq1_ hb)
              (try clear hb)
              (try clear hb2)
              (try clear hk)
              (try clear hi)
              refine hK.out _ _ ⟨(blk_cell BK686.out 0).trans rfl, (blk_cell BK686.out 1).trans rfl, (blk_cell BK686.out 2).trans rfl, (blk_cell BK686.out 3).trans rfl⟩ (fun hHeld => ?_)
              clear hK K
              refine normS_ ?_
              refine pureS_ 2 (some 14) ?_
              refine pureS_ 3 (some 15) ?_
              refine skipS_ 4 (some 16) ?_
              refine skipS_ 5 (some 17) ?_
              refine skipS_ 6 (some 18) ?_
              refine skipS_ 7 (some 19) ?_
              refine skipS_ 8 (some 20) ?_
              refine skipS_ 9 (some 21) ?_
              refine skipS_ 10 (some 22) ?_
              refine skipS_ 11 (some 23) ?_
              refine skipS_ 12 (some 24) ?_
              refine skipS_ 13 (some 25) ?_
              refine skipS_ 14 (some 26) ?_
              refine skipS_ 15 (some 27) ?_
              refine pureS_ 16 (some 28) ?_
              refine done_ (done_of HT_.out (by kernel_rfl)) ?_
              try go_wp2
              go_ret
              exact ⟨by first | rfl | (simp [errW_none, errW_some] <;> rfl) | (simp [*, errW_none, errW_some] <;> rfl), by repeat (first | (with_reducible first | exact HB.out | apply below_alloc | apply pw_below_drewN | apply below_drew1 | refine below_set ?_ GE686.out) | exact HB.out)⟩
          · rw [if_neg c4] at H
            exact absurd H (by simp)
        · rw [if_neg c3] at H
          exact absurd H (by simp)
      · rw [if_neg c2] at H
        have c2b0 : decide (x7_1 < (l0.length : Int)) = false := decide_eq_false c2
        clear c2
        obtain rfl := Option.some.inj H
        go_wp2
        go_ret
        exact ⟨by first | rfl | (simp [errW_none, errW_some] <;> rfl) | (simp [*, errW_none, errW_some] <;> rfl), by repeat (first | (with_reducible first | exact HB.out | apply below_alloc | apply pw_below_drewN | apply below_drew1) | exact HB.out)⟩
def spec_l1Below.f (a0 : ByteArray) (a1 : ByteArray) : Option (Bool) := if a1.toList = ([] : List UInt8) then (some true) else (if a0.toList = a1.toList then (some true) else (if (wrap64 ((a0.size : Int) - (a1.size : Int))) > 0 then (if 0 ≤ (wrap64 ((a0.size : Int) - (a1.size : Int))) then (if (wrap64 ((a0.size : Int) - (a1.size : Int))) ≤ (a0.size : Int) then (if (a0.extract ((wrap64 ((a0.size : Int) - (a1.size : Int))) : Int).toNat a0.size).toList = a1.toList then (if 0 ≤ (wrap64 ((wrap64 ((a0.size : Int) - (a1.size : Int))) - 1)) then (if (wrap64 ((wrap64 ((a0.size : Int) - (a1.size : Int))) - 1)) < (a0.size : Int) then (some ((bt a0 (wrap64 ((wrap64 ((a0.size : Int) - (a1.size : Int))) - 1))) == 46)) else (none)) else (none)) else (some false)) else (none)) else (none)) else (some false)))
set_option maxHeartbeats 8000000 in
set_option maxRecDepth 100000 in
theorem spec_l1Below.calls (a0 : ByteArray) (a1 : ByteArray) (r : Bool) (w : World) (h : spec_l1Below.f a0 a1 = some r) :
    Calls Tryz.prog 84 #[.string a0, .string a1] w fun e w' => e = .returned (.bool r) ∧ Drawn0 w w' := by
  have H : (if a1.toList = ([] : List UInt8) then (some true) else (if a0.toList = a1.toList then (some true) else (if (wrap64 ((a0.size : Int) - (a1.size : Int))) > 0 then (if 0 ≤ (wrap64 ((a0.size : Int) - (a1.size : Int))) then (if (wrap64 ((a0.size : Int) - (a1.size : Int))) ≤ (a0.size : Int) then (if (a0.extract ((wrap64 ((a0.size : Int) - (a1.size : Int))) : Int).toNat a0.size).toList = a1.toList then (if 0 ≤ (wrap64 ((wrap64 ((a0.size : Int) - (a1.size : Int))) - 1)) then (if (wrap64 ((wrap64 ((a0.size : Int) - (a1.size : Int))) - 1)) < (a0.size : Int) then (some ((bt a0 (wrap64 ((wrap64 ((a0.size : Int) - (a1.size : Int))) - 1))) == 46)) else (none)) else (none)) else (some false)) else (none)) else (none)) else (some false)))) = some r := h
  clear h
  by_cases c3 : a1.toList = ([] : List UInt8)
  · rw [if_pos c3] at H
    have c3b0 : (a1.toList == ([] : List UInt8)) = true := beq_iff_eq.mpr c3
    have c3b1 : (a1.toList != ([] : List UInt8)) = false := bne_eq_false_iff_eq.mpr c3
    clear c3
    obtain rfl := Option.some.inj H
    go_enter Tryz.func84, Tryz.ntmps84
    go_wp2
    go_ret
    exact ⟨by first | rfl | (simp; done) | (simp [*]; done), by repeat (first | exact Drawn0.refl _ | apply Drawn0.step)⟩
  · rw [if_neg c3] at H
    have c3b0 : (a1.toList == ([] : List UInt8)) = false := beq_eq_false_iff_ne.mpr c3
    have c3b1 : (a1.toList != ([] : List UInt8)) = true := bne_iff_ne.mpr c3
    by_cases c4 : a0.toList = a1.toList
    · rw [if_pos c4] at H
      have c4b0 : (a0.toList == a1.toList) = true := beq_iff_eq.mpr c4
      have c4b1 : (a0.toList != a1.toList) = false := bne_eq_false_iff_eq.mpr c4
      clear c4
      obtain rfl := Option.some.inj H
      go_enter Tryz.func84, Tryz.ntmps84
      go_wp2
      go_ret
      exact ⟨by first | rfl | (simp; done) | (simp [*]; done), by repeat (first | exact Drawn0.refl _ | apply Drawn0.step)⟩
    · rw [if_neg c4] at H
      have c4b0 : (a0.toList == a1.toList) = false := beq_eq_false_iff_ne.mpr c4
      have c4b1 : (a0.toList != a1.toList) = true := bne_iff_ne.mpr c4
      by_cases c5 : (wrap64 ((a0.size : Int) - (a1.size : Int))) > 0
      · rw [if_pos c5] at H
        have c5b0 : decide (0 < (wrap64 ((a0.size : Int) - (a1.size : Int)))) = true := decide_eq_true c5
        clear c5
        obtain ⟨ji6, hji6⟩ : ∃ j_ : Int, (wrap64 ((a0.size : Int) - (a1.size : Int))) = j_ := ⟨_, rfl⟩
        replace H : (if 0 ≤ (ji6) then (if (ji6) ≤ (a0.size : Int) then (if (a0.extract ((ji6) : Int).toNat a0.size).toList = a1.toList then (if 0 ≤ (wrap64 ((ji6) - 1)) then (if (wrap64 ((ji6) - 1)) < (a0.size : Int) then (some ((bt a0 (wrap64 ((ji6) - 1))) == 46)) else (none)) else (none)) else (some false)) else (none)) else (none)) = some r := by first | (rw [hji6] at H; exact H) | (simp only [hji6] at H ⊢; exact H)
        (try rw [hji6] at c5b0)
        have hji6w : (IntKind.i64.wrap ((a0.size : Int) - (a1.size : Int))) = ji6 := (i64_w _).trans hji6
        by_cases c7 : 0 ≤ (ji6)
        · rw [if_pos c7] at H
          have c7b0 := eq_true c7
          have c7b1 : decide (0 ≤ (ji6)) = true := decide_eq_true c7
          clear c7
          by_cases c8 : (ji6) ≤ (a0.size : Int)
          · rw [if_pos c8] at H
            have c8b0 := eq_true c8
            have c8b1 : decide ((ji6) ≤ (a0.size : Int)) = true := decide_eq_true c8
            clear c8
            by_cases c9 : (a0.extract ((ji6) : Int).toNat a0.size).toList = a1.toList
            · rw [if_pos c9] at H
              have c9b0 : ((a0.extract ((ji6) : Int).toNat a0.size).toList == a1.toList) = true := beq_iff_eq.mpr c9
              have c9b1 : ((a0.extract ((ji6) : Int).toNat a0.size).toList != a1.toList) = false := bne_eq_false_iff_eq.mpr c9
              clear c9
              obtain ⟨ji10, hji10⟩ : ∃ j_ : Int, (wrap64 ((ji6) - 1)) = j_ := ⟨_, rfl⟩
              replace H : (if 0 ≤ (ji10) then (if (ji10) < (a0.size : Int) then (some ((bt a0 (ji10)) == 46)) else (none)) else (none)) = some r := by first | (rw [hji10] at H; exact H) | (simp only [hji10] at H ⊢; exact H)
              have hji10w : (IntKind.i64.wrap ((ji6) - 1)) = ji10 := (i64_w _).trans hji10
              by_cases c11 : 0 ≤ (ji10)
              · rw [if_pos c11] at H
                have c11b0 : decide (0 ≤ (ji10)) = true := decide_eq_true c11
                clear c11
                by_cases c12 : (ji10) < (a0.size : Int)
                · rw [if_pos c12] at H
                  have c12b0 : decide ((ji10) < (a0.size : Int)) = true := decide_eq_true c12
                  clear c12
                  obtain rfl := Option.some.inj H
                  have p13 : 0 ≤ ((ji10) : Int) := dec_
                  have q13 : (ji10) < (a0.size : Int) := dec_
                  have hx13 := bt_at a0 (ji10)
                  replace p13 := eq_true p13
                  replace q13 := eq_true q13
                  go_enter Tryz.func84, Tryz.ntmps84
                  go_wp2
                  go_ret
                  exact ⟨by first | rfl | (simp; done) | (simp only [← hji6, ← hji10] <;> (first | rfl | simp)) | (simp [*]; done), by repeat (first | exact Drawn0.refl _ | apply Drawn0.step)⟩
                · rw [if_neg c12] at H
                  exact absurd H (by simp)
              · rw [if_neg c11] at H
                exact absurd H (by simp)
            · rw [if_neg c9] at H
              have c9b0 : ((a0.extract ((ji6) : Int).toNat a0.size).toList == a1.toList) = false := beq_eq_false_iff_ne.mpr c9
              have c9b1 : ((a0.extract ((ji6) : Int).toNat a0.size).toList != a1.toList) = true := bne_iff_ne.mpr c9
              obtain rfl := Option.some.inj H
              go_enter Tryz.func84, Tryz.ntmps84
              go_wp2
              go_ret
              exact ⟨by first | rfl | (simp; done) | (simp only [← hji6] <;> (first | rfl | simp)) | (simp [*]; done), by repeat (first | exact Drawn0.refl _ | apply Drawn0.step)⟩
          · rw [if_neg c8] at H
            exact absurd H (by simp)
        · rw [if_neg c7] at H
          exact absurd H (by simp)
      · rw [if_neg c5] at H
        have c5b0 : decide (0 < (wrap64 ((a0.size : Int) - (a1.size : Int)))) = false := decide_eq_false c5
        clear c5
        obtain rfl := Option.some.inj H
        go_enter Tryz.func84, Tryz.ntmps84
        go_wp2
        go_ret
        exact ⟨by first | rfl | (simp; done) | (simp [*]; done), by repeat (first | exact Drawn0.refl _ | apply Drawn0.step)⟩
end Go.Proofs.YtkpkfallgjdkmaaGreatDoor.P
