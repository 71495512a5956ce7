/- FnSets: part 10 of 15 of my texts for this claim, joined; the theorem stands in the last. Conditions: none beyond the statement's. -/
import Derived.Test.YtiegkjimpclmaaaGreatDoorMFnSetsx8
open Go.RowKit Go.Proofs.YtiegkjimpclmaaaGreatDoorW.PrintWords Go.Proofs.YtiegkjimpclmaaaGreatDoorW.PrintLast Go.Proofs.YtiegkjimpclmaaaGreatDoorW.PrintMore
set_option linter.unusedVariables false
set_option linter.unusedSimpArgs false
set_option maxHeartbeats 8000000
set_option maxRecDepth 100000
namespace Go.Proofs.YtiegkjimpclmaaaGreatDoor.P
attribute [local go_sem] max2_int min2_int max_two min_two max_three min_three max_four min_four
mutual
def impl_areRising.l0 : Nat → List (S45) → List (S45) → Int → Int → Option (Bool)
 | 0, _, _, _, _ => none
 | k + 1, x0, x5, x6, x7 => if x7 < x6 then (if 0 ≤ x7 then (if x7 < (x5.length : Int) then ((impl_GoodRecord.f k ((rd_T45 x5 x7).f0) ((rd_T45 x5 x7).f1) ((rd_T45 x5 x7).f2) ((rd_T45 x5 x7).f3)).bind fun t417 => (if t417 = true then (if x7 > 0 then (if 0 ≤ (wrap64 (x7 - 1)) then (if (wrap64 (x7 - 1)) < (x0.length : Int) then ((impl_compareRecords.f k ((rd_T45 x0 (wrap64 (x7 - 1))).f0) ((rd_T45 x0 (wrap64 (x7 - 1))).f1) ((rd_T45 x0 (wrap64 (x7 - 1))).f2) ((rd_T45 x0 (wrap64 (x7 - 1))).f3) ((rd_T45 x5 x7).f0) ((rd_T45 x5 x7).f1) ((rd_T45 x5 x7).f2) ((rd_T45 x5 x7).f3)).bind fun t419 => (impl_areRising.j1 k x0 x5 x6 x7 (decide (t419 ≥ 0)))) else (none)) else (none)) else (impl_areRising.j1 k x0 x5 x6 x7 false)) else (impl_areRising.j1 k x0 x5 x6 x7 true))) else (none)) else (none)) else (some true)
def impl_areRising.j1 : Nat → List (S45) → List (S45) → Int → Int → Bool → Option (Bool)
 | 0, _, _, _, _, _ => none
 | k + 1, x0, x5, x6, x7, x28 => if x28 = true then (some false) else (impl_areRising.l0 k x0 x5 x6 (wrap64 (x7 + 1)))
end
def impl_areRising.f (k : Nat) (l0 : List (S45)) : Option (Bool) := impl_areRising.l0 k l0 l0 (l0.length : Int) 0
def impl_areRising.T4 : Bool × List (List Nat × List Nat) := (true, [([], []), ([0], [0]), ([1], [1]), ([2, 1], [2]), ([3], [3]), ([4, 3], [3, 4]), ([5, 3, 3], [3, 5]), ([6], [6]), ([6], [6]), ([8, 6], [6, 8]), ([7, 9, 6], [6, 7, 9]), ([10, 6], [6, 10]), ([6], [6]), ([11, 12, 6, 6], [6, 11, 12]), ([13, 6], [6, 13]), ([6, 14, 3], [3, 6, 14]), ([3, 15], [3, 15])])
def impl_areRising.B4 : List Nat := [0, 1, 3, 7, 15, 31, 63, 127, 127, 383, 1023, 2047, 127, 8191, 16383, 32767, 65535]
theorem impl_areRising.tab4 : rtab .any (opsOf Tryz.f66 4) = impl_areRising.T4 := by kernel_rfl
theorem impl_areRising.bits4 : waitsOk impl_areRising.T4.2 impl_areRising.B4 = true := by kernel_rfl
theorem impl_areRising.calls (k : Nat) (A0 : Option Addr) (c0 : Nat) (l0 : List (S45)) (r : Bool) (w : World) (hr0 : Kd.C k45 w A0 l0.length l0) (hc0 : l0.length ≤ c0) (h : impl_areRising.f k l0 = some r) (hv_ : Vars w := by exact vv_) :
 Calls Tryz.prog 66 #[.slice A0 l0.length c0] w fun e w' => e = .returned (.bool r) ∧ Below w.heap.size w w' := by
 have HV_ := a0_ hv_
 clear hv_
 have hu45 := Tryz.underlying45
 have HR0 := a0_ hr0
 have HC0 := a0_ hc0
 clear hr0 hc0
 have HB := a0_ (Below.refl w.heap.size w)
 have H := h
 clear h
 unfold impl_areRising.f at H
 have H' := a0_ H
 clear H
 go_enter Tryz.func66, Tryz.ntmps66
 go_wp2
 go_loopg [7] k (fun kq v7 w' => ∃ (x7_1 : Int), v7 = .int .i64 x7_1 ∧ Aside0 (impl_areRising.l0 kq l0 l0 (l0.length : Int) x7_1 = some r) ∧ Aside0 (kq ≤ k) ∧ Aside0 (Below w.heap.size w w'))
 case atStart => exact ⟨(0), rs_, H', ⟨Nat.le_refl _⟩, ⟨bq0_⟩⟩
 case round =>
  clear H'
  obtain ⟨x7_1, rfl, HA, HK1, HB⟩ := hrel
  cases gk with
  | zero => exact absurd HA.out (by simp [impl_areRising.l0])
  | succ k1 =>
   have H := HA.out
   clear HA
   simp only [impl_areRising.l0] at H
   by_cases c2 : x7_1 < (l0.length : Int)
   case neg =>
    rw [if_neg c2] at H
    have c2b0 := decide_eq_false c2
    clear c2
    obtain rfl := Option.some.inj H
    go_wp2
    go_ret
    exact ⟨rr_, bq0_⟩
   rw [if_pos c2] at H
   have c2b0 := decide_eq_true c2
   clear c2
   by_cases c3 : 0 ≤ x7_1
   case neg =>
    rw [if_neg c3] at H
    exact absurd H (by simp)
   rw [if_pos c3] at H
   have c3b0 := decide_eq_true c3
   clear c3
   by_cases c4 : x7_1 < (l0.length : Int)
   case neg =>
    rw [if_neg c4] at H
    exact absurd H (by simp)
   rw [if_pos c4] at H
   have c4b0 := decide_eq_true c4
   clear c4
   have HC5 := a0_ H
   clear H
   have p415 := t0_ (x7_1)
   have q415 := tl_ (x7_1) (l0.length)
   obtain ⟨ad415, e415, -, -, -, -, hx415_0, hx415_1, hx415_2, hx415_3⟩ := rp_ HB (at_T45 HR0.out x7_1 (of_eq_true p415) (of_eq_true q415))
   cases e415
   go_upto_region 4 with (first | ((with_reducible refine gate_dst (N := 4) rfl ?_); refine boxS_ 4 #[.string (⟨#[]⟩ : ByteArray), .int .i64 0, .int .i64 0, .string (⟨#[]⟩ : ByteArray)] 45 (fun gb416 hg w6 hbox hb => ?_); have BK416 := a0_ (hbox); have GW416 := a0_ (gw_ hg : w.heap.size ≤ gb416); replace HB := a0_ (below_step bq0_ hb); have GE416 := GW416; clear hb hbox hg; obtain ⟨z7_0, z7_1, z7_2, z7_3, q7_0, q7_1, q7_2, q7_3⟩ := bk4_ BK416.out))
   (try simp only [Act.put, List.setIfInBounds_toArray, List.set_cons_zero, List.set_cons_succ])
   go_cut [28] (fun v28 wc => ∃ (kq : Nat) (x28_4 : Bool), v28 = .bool x28_4 ∧ Aside0 (impl_areRising.j1 kq l0 l0 (l0.length : Int) x7_1 x28_4 = some r) ∧ Aside0 (kq ≤ k1) ∧ Aside0 (wc.heap[gb416]? = some (.cells #[.string ((rd_T45 l0 x7_1).f0), .int .i64 ((rd_T45 l0 x7_1).f1), .int .i64 ((rd_T45 l0 x7_1).f2), .string ((rd_T45 l0 x7_1).f3)] 45 (0, 0))) ∧ Aside0 (Below w.heap.size w wc))
   case first =>
    have H := HC5.out
    clear HC5
    obtain ⟨t417, A8, H⟩ := ob_ H
    by_cases c9 : t417 = true
    case neg =>
     replace c9 := Bool.eq_false_iff.mpr c9
     subst c9
     rw [if_neg ff_] at H
     have H' := a0_ H
     clear H
     try go_wp2
     generalize hE_ : ((((w6.setCell ⟨gb416, 0, none⟩ (.string ((rd_T45 l0 x7_1).f0))).setCell ⟨gb416, 1, none⟩ (.int .i64 ((rd_T45 l0 x7_1).f1))).setCell ⟨gb416, 2, none⟩ (.int .i64 ((rd_T45 l0 x7_1).f2))).setCell ⟨gb416, 3, none⟩ (.string ((rd_T45 l0 x7_1).f3))) = w22
     have n0_ : Aside0 (w22.heap[gb416]? = some (.cells #[.string ((rd_T45 l0 x7_1).f0), .int .i64 ((rd_T45 l0 x7_1).f1), .int .i64 ((rd_T45 l0 x7_1).f2), .string ((rd_T45 l0 x7_1).f3)] 45 (0, 0))) := ⟨by rw [← hE_]; exact put4_ BK416.out⟩
     have n1_ : Aside0 (Below w.heap.size w w22) := ⟨by rw [← hE_]; exact bq1_⟩
     (try clear BK416)
     (try clear HB)
     clear hE_
     have BK416 := n0_
     have HB := n1_
     clear n0_ n1_
     replace BK416 := a0_ (blk_drew BK416.out)
     replace HB := a0_ (below_drew1 HB.out)
     refine stH_ 17 [] (eb_ BK416.out) (fun hHeld => ?_); refine with_tabW impl_areRising.tab4 impl_areRising.bits4 (fun HT_ HW_ => ?_)
     generalize w22.drew = w23 at BK416 HB hHeld ⊢
     refine t_ 0 12 ?_
     refine oneS_ 1 (some 13) (fun K hK => ?_)
     refine goes_ Tryz.func29 (by kernel_rfl) rfl #[.agg #[.string ((rd_T45 l0 x7_1).f0), .int .i64 ((rd_T45 l0 x7_1).f1), .int .i64 ((rd_T45 l0 x7_1).f2), .string ((rd_T45 l0 x7_1).f3)]] (by rfl) rfl rfl argsS_ ?_
     with_reducible refine (impl_GoodRecord.calls k1 ((rd_T45 l0 x7_1).f0) ((rd_T45 l0 x7_1).f1) ((rd_T45 l0 x7_1).f2) ((rd_T45 l0 x7_1).f3) false _ A8.out).mono ?_
     rintro e w24 ⟨rfl, hb⟩
     refine ⟨_, rfl, ?_⟩
     replace BK416 := a0_ (bkB_ BK416 hb)
     replace HB := a0_ (below_step bq1_ hb)
     (try clear hb)
     (try clear hb2)
     (try clear hk)
     (try clear hi)
     refine hK.out _ _ (eb_ BK416.out).out (fun hHeld => ?_)
     clear hK K
     refine normS_ ?_
     refine p_ 2 14 ?_
     refine p_ 3 15 ?_
     refine s_ 4 16 ?_
     refine s_ 5 17 ?_
     refine s_ 6 18 ?_
     refine s_ 7 19 ?_
     refine s_ 8 20 ?_
     refine s_ 9 21 ?_
     refine s_ 10 22 ?_
     refine s_ 11 23 ?_
     refine s_ 12 24 ?_
     refine s_ 13 25 ?_
     refine s_ 14 26 ?_
     refine s_ 15 27 ?_
     refine p_ 16 28 ?_
     refine done_ (done_of HT_.out (by kernel_rfl)) ?_
     try go_wp2
     go_meet
     case rel => exact ⟨_, (true), rs_, H', jl_ HK1, ⟨bz_⟩, ⟨bq1_⟩⟩
    subst c9
    rw [if_pos rfl] at H
    by_cases c10 : x7_1 > 0
    case neg =>
     rw [if_neg c10] at H
     have c10b0 := decide_eq_false c10
     clear c10
     (first | rw [c10b0] | (simp only [i64_w, i32_w]; rw [c10b0]) | skip)
     have H' := a0_ H
     clear H
     try go_wp2
     generalize hE_ : ((((w6.setCell ⟨gb416, 0, none⟩ (.string ((rd_T45 l0 x7_1).f0))).setCell ⟨gb416, 1, none⟩ (.int .i64 ((rd_T45 l0 x7_1).f1))).setCell ⟨gb416, 2, none⟩ (.int .i64 ((rd_T45 l0 x7_1).f2))).setCell ⟨gb416, 3, none⟩ (.string ((rd_T45 l0 x7_1).f3))) = w19
     have n0_ : Aside0 (w19.heap[gb416]? = some (.cells #[.string ((rd_T45 l0 x7_1).f0), .int .i64 ((rd_T45 l0 x7_1).f1), .int .i64 ((rd_T45 l0 x7_1).f2), .string ((rd_T45 l0 x7_1).f3)] 45 (0, 0))) := ⟨by rw [← hE_]; exact put4_ BK416.out⟩
     have n1_ : Aside0 (Below w.heap.size w w19) := ⟨by rw [← hE_]; exact bq1_⟩
     (try clear BK416)
     (try clear HB)
     clear hE_
     have BK416 := n0_
     have HB := n1_
     clear n0_ n1_
     replace BK416 := a0_ (blk_drew BK416.out)
     replace HB := a0_ (below_drew1 HB.out)
     refine stH_ 17 [] (eb_ BK416.out) (fun hHeld => ?_); refine with_tabW impl_areRising.tab4 impl_areRising.bits4 (fun HT_ HW_ => ?_)
     generalize w19.drew = w20 at BK416 HB hHeld ⊢
     refine t_ 0 12 ?_
     refine oneS_ 1 (some 13) (fun K hK => ?_)
     refine goes_ Tryz.func29 (by kernel_rfl) rfl #[.agg #[.string ((rd_T45 l0 x7_1).f0), .int .i64 ((rd_T45 l0 x7_1).f1), .int .i64 ((rd_T45 l0 x7_1).f2), .string ((rd_T45 l0 x7_1).f3)]] (by rfl) rfl rfl argsS_ ?_
     with_reducible refine (impl_GoodRecord.calls k1 ((rd_T45 l0 x7_1).f0) ((rd_T45 l0 x7_1).f1) ((rd_T45 l0 x7_1).f2) ((rd_T45 l0 x7_1).f3) true _ A8.out).mono ?_
     rintro e w21 ⟨rfl, hb⟩
     refine ⟨_, rfl, ?_⟩
     replace BK416 := a0_ (bkB_ BK416 hb)
     replace HB := a0_ (below_step bq1_ hb)
     (try clear hb)
     (try clear hb2)
     (try clear hk)
     (try clear hi)
     refine hK.out _ _ (eb_ BK416.out).out (fun hHeld => ?_)
     clear hK K
     refine normS_ ?_
     refine p_ 2 14 ?_
     refine p_ 3 15 ?_
     refine p_ 4 16 ?_
     refine p_ 5 17 ?_
     refine p_ 6 18 ?_
     refine s_ 7 19 ?_
     refine s_ 8 20 ?_
     refine s_ 9 21 ?_
     refine s_ 10 22 ?_
     refine s_ 11 23 ?_
     refine s_ 12 24 ?_
     refine s_ 13 25 ?_
     refine s_ 14 26 ?_
     refine p_ 15 27 ?_
     refine p_ 16 28 ?_
     refine done_ (done_of HT_.out (by kernel_rfl)) ?_
     try go_wp2
     go_meet
     case rel => exact ⟨_, (false), rs_, H', jl_ HK1, ⟨bz_⟩, ⟨bq1_⟩⟩
    rw [if_pos c10] at H
    have c10b0 := decide_eq_true c10
    clear c10
    (first | rw [c10b0] | (simp only [i64_w, i32_w]; rw [c10b0]) | skip)
    obtain ⟨ji11, hji11⟩ : ∃ j_ : Int, (wrap64 (x7_1 - 1)) = j_ := ⟨_, rfl⟩
    (first | rw [hji11] at H | simp only [hji11] at H)
    (try rw [hji11] at A8)
    have hji11w : (IntKind.i64.wrap (x7_1 - 1)) = ji11 := (i64_w _).trans hji11
    by_cases c12 : 0 ≤ (ji11)
    case neg =>
     rw [if_neg c12] at H
     exact absurd H (by simp)
    rw [if_pos c12] at H
    have c12b0 := decide_eq_true c12
    clear c12
    by_cases c13 : (ji11) < (l0.length : Int)
    case neg =>
     rw [if_neg c13] at H
     exact absurd H (by simp)
    rw [if_pos c13] at H
    have c13b0 := decide_eq_true c13
    clear c13
    obtain ⟨t419, A14, H⟩ := ob_ H
    have H' := a0_ H
    clear H
    try go_wp2
    generalize hE_ : ((((w6.setCell ⟨gb416, 0, none⟩ (.string ((rd_T45 l0 x7_1).f0))).setCell ⟨gb416, 1, none⟩ (.int .i64 ((rd_T45 l0 x7_1).f1))).setCell ⟨gb416, 2, none⟩ (.int .i64 ((rd_T45 l0 x7_1).f2))).setCell ⟨gb416, 3, none⟩ (.string ((rd_T45 l0 x7_1).f3))) = w15
    have n0_ : Aside0 (w15.heap[gb416]? = some (.cells #[.string ((rd_T45 l0 x7_1).f0), .int .i64 ((rd_T45 l0 x7_1).f1), .int .i64 ((rd_T45 l0 x7_1).f2), .string ((rd_T45 l0 x7_1).f3)] 45 (0, 0))) := ⟨by rw [← hE_]; exact put4_ BK416.out⟩
    have n1_ : Aside0 (Below w.heap.size w w15) := ⟨by rw [← hE_]; exact bq1_⟩
    (try clear BK416)
    (try clear HB)
    clear hE_
    have BK416 := n0_
    have HB := n1_
    clear n0_ n1_
    replace BK416 := a0_ (blk_drew BK416.out)
    replace HB := a0_ (below_drew1 HB.out)
    have p418 := t0_ ((ji11))
    have q418 := tl_ ((ji11)) (l0.length)
    obtain ⟨ad418, e418, hw418_0, hw418_1, hw418_2, hw418_3, hx418_0, hx418_1, hx418_2, hx418_3⟩ := rp_ HB (at_T45 HR0.out (ji11) (of_eq_true p418) (of_eq_true q418))
    obtain rfl : ad415 = ad418 := (by injection e418)
    refine stH_ 17 [] (cb_ BK416.out (eu_ HB.out hw418_0 hw418_1 hw418_2 hw418_3)) (fun hHeld => ?_); refine with_tabW impl_areRising.tab4 impl_areRising.bits4 (fun HT_ HW_ => ?_)
    generalize w15.drew = w16 at BK416 HB hx418_0 hx418_1 hx418_2 hx418_3 hHeld ⊢
    refine t_ 0 12 ?_
    refine oneS_ 1 (some 13) (fun K hK => ?_)
    refine goes_ Tryz.func29 (by kernel_rfl) rfl #[.agg #[.string ((rd_T45 l0 x7_1).f0), .int .i64 ((rd_T45 l0 x7_1).f1), .int .i64 ((rd_T45 l0 x7_1).f2), .string ((rd_T45 l0 x7_1).f3)]] (by rfl) rfl rfl argsS_ ?_
    with_reducible refine (impl_GoodRecord.calls k1 ((rd_T45 l0 x7_1).f0) ((rd_T45 l0 x7_1).f1) ((rd_T45 l0 x7_1).f2) ((rd_T45 l0 x7_1).f3) true _ A8.out).mono ?_
    rintro e w17 ⟨rfl, hb⟩
    refine ⟨_, rfl, ?_⟩
    replace BK416 := a0_ (bkB_ BK416 hb)
    replace HB := a0_ (below_step bq1_ hb)
    (try clear hb)
    (try clear hb2)
    (try clear hk)
    (try clear hi)
    refine hK.out _ _ (cb_ BK416.out (eu_ HB.out hw418_0 hw418_1 hw418_2 hw418_3)).out (fun hHeld => ?_)
    clear hK K
    refine normS_ ?_
    refine p_ 2 14 ?_
    refine p_ 3 15 ?_
    refine p_ 4 16 ?_
    refine p_ 5 17 ?_
    refine p_ 6 18 ?_
    refine p_ 7 19 ?_
    refine p_ 8 20 ?_
    refine p_ 9 21 ?_
    refine p_ 10 22 ?_
    refine t_ 11 23 ?_
    refine t_ 12 24 ?_
    refine oneS_ 13 (some 25) (fun K hK => ?_)
    refine goes_ Tryz.func77 (by kernel_rfl) rfl #[.agg #[.string ((rd_T45 l0 (ji11)).f0), .int .i64 ((rd_T45 l0 (ji11)).f1), .int .i64 ((rd_T45 l0 (ji11)).f2), .string ((rd_T45 l0 (ji11)).f3)], .agg #[.string ((rd_T45 l0 x7_1).f0), .int .i64 ((rd_T45 l0 x7_1).f1), .int .i64 ((rd_T45 l0 x7_1).f2), .string ((rd_T45 l0 x7_1).f3)]] (by rfl) rfl rfl (by (try simp only [List.map_toArray, List.map_cons, List.map_nil]); first | done | (simp only [hji11]; rfl) | rfl | (simp only [List.length_drop, List.length_take]; rfl)) ?_
    with_reducible refine (impl_compareRecords.calls k1 ((rd_T45 l0 (ji11)).f0) ((rd_T45 l0 (ji11)).f1) ((rd_T45 l0 (ji11)).f2) ((rd_T45 l0 (ji11)).f3) ((rd_T45 l0 x7_1).f0) ((rd_T45 l0 x7_1).f1) ((rd_T45 l0 x7_1).f2) ((rd_T45 l0 x7_1).f3) t419 _ A14.out).mono ?_
    rintro e w18 ⟨rfl, hb⟩
    refine ⟨_, rfl, ?_⟩
    replace BK416 := a0_ (bkB_ BK416 hb)
    replace HB := a0_ (below_step bq1_ hb)
    (try clear hb)
    (try clear hb2)
    (try clear hk)
    (try clear hi)
    refine hK.out _ _ (cb_ BK416.out (eu_ HB.out hw418_0 hw418_1 hw418_2 hw418_3)).out (fun hHeld => ?_)
    clear hK K
    refine normS_ ?_
    refine p_ 14 26 ?_
    refine p_ 15 27 ?_
    refine p_ 16 28 ?_
    refine done_ (done_of HT_.out (by kernel_rfl)) ?_
    try go_wp2
    go_meet
    case rel => exact ⟨_, (decide (t419 ≥ 0)), rs_, H', jl_ HK1, ⟨bz_⟩, ⟨bq1_⟩⟩
   case rest =>
    clear HC5
    try clear c2
    try clear c2b0
    try clear c3
    try clear c3b0
    try clear c4
    try clear c4b0
    try clear z7_0 z7_1 z7_2 z7_3 q7_0 q7_1 q7_2 q7_3
    try clear hx415_0
    try clear hx415_1
    try clear hx415_2
    try clear hx415_3
    try clear p415
    try clear q415
    obtain ⟨kq, x28_4, rfl, HA, HJ4, BK416, HB⟩ := hcut
    cases kq with
    | zero => exact absurd HA.out (by simp [impl_areRising.j1])
    | succ kj4 =>
     have H := HA.out
     clear HA
     simp only [impl_areRising.j1] at H
     by_cases c25 : x28_4 = true
     case pos =>
      subst c25
      rw [if_pos rfl] at H
      obtain rfl := Option.some.inj H
      go_wp2
      go_ret
      exact ⟨rr_, bq1_⟩
     replace c25 := Bool.eq_false_iff.mpr c25
     subst c25
     rw [if_neg ff_] at H
     have H' := a0_ H
     clear H
     go_wp2
     go_roundg kj4
     case measure => have := HK1.out; have := HJ4.out; omega
     case rel => exact ⟨(wrap64 (x7_1 + 1)), rs_, H', jm_ HK1 HJ4, ⟨bq1_⟩⟩
def impl_nameIn.f (k : Nat) (a0 : ByteArray) : Option (ByteArray) := (impl_takeName.f k a0 0).bind fun bt276 => (some bt276.1)
theorem impl_nameIn.mono : ∀ a0 k, LeO (impl_nameIn.f k a0) (impl_nameIn.f (k + 1) a0) := by
 intro a0 k
 unfold impl_nameIn.f
 repeat' first | (with_reducible first | exact impl_takeName.mono _ _ _ | exact LeO.refl _ | exact LeO.none _ | refine LeO.ite ?_ ?_ | refine LeO.bind ?_ (fun _ => ?_)) | exact LeO.none _ | refine LeO.ite ?_ ?_ | refine LeO.bind ?_ (fun _ => ?_)
def impl_CompareRecords.f (k : Nat) (a0_0 : ByteArray) (a0_1 : Int) (a0_2 : Int) (a0_3 : ByteArray) (a1_0 : ByteArray) (a1_1 : Int) (a1_2 : Int) (a1_3 : ByteArray) : Option (Int × Bool) := (impl_GoodRecord.f k a0_0 a0_1 a0_2 a0_3).bind fun t828 => (if t828 = true then ((impl_GoodRecord.f k a1_0 a1_1 a1_2 a1_3).bind fun t829 => (if t829 = true then ((impl_compareRecords.f k a0_0 a0_1 a0_2 a0_3 a1_0 a1_1 a1_2 a1_3).bind fun t830 => (some (t830, true))) else (some (0, false)))) else (some (0, false)))
theorem impl_CompareRecords.calls (k : Nat) (a0_0 : ByteArray) (a0_1 : Int) (a0_2 : Int) (a0_3 : ByteArray) (a1_0 : ByteArray) (a1_1 : Int) (a1_2 : Int) (a1_3 : ByteArray) (r1 : Int) (r2 : Bool) (w : World) (h : impl_CompareRecords.f k a0_0 a0_1 a0_2 a0_3 a1_0 a1_1 a1_2 a1_3 = some (r1, r2)) (hv_ : Vars w := by exact vv_) :
 Calls Tryz.prog 36 #[.agg #[.string a0_0, .int .i64 a0_1, .int .i64 a0_2, .string a0_3], .agg #[.string a1_0, .int .i64 a1_1, .int .i64 a1_2, .string a1_3]] w fun e w' => e = .returned (.tuple #[.int .i64 r1, .bool r2]) ∧ Below w.heap.size w w' := by
 have HV_ := a0_ hv_
 clear hv_
 have hu45 := Tryz.underlying45
 have HB := a0_ (Below.refl w.heap.size w)
 have H := h
 clear h
 unfold impl_CompareRecords.f at H
 obtain ⟨t828, A3, H⟩ := ob_ H
 by_cases c4 : t828 = true
 case neg =>
  replace c4 := Bool.eq_false_iff.mpr c4
  subst c4
  rw [if_neg ff_] at H
  simp only [Option.some.injEq, Prod.mk.injEq] at H
  obtain ⟨rfl, rfl⟩ := H
  go_enter Tryz.func36, Tryz.ntmps36
  go_wp2_with (first | ((with_reducible refine gate_dst (N := 2) rfl ?_); refine boxS_ 2 #[.string a0_0, .int .i64 a0_1, .int .i64 a0_2, .string a0_3] 45 (fun gb826 hg w25 hbox hb => ?_); have BK826 := a0_ (hbox); have GW826 := a0_ (gw_ hg : w.heap.size ≤ gb826); replace HB := a0_ (below_step bq0_ hb); have GE826 := GW826; clear hb hbox hg) | ((with_reducible refine gate_dst (N := 3) rfl ?_); refine boxS_ 3 #[.string a1_0, .int .i64 a1_1, .int .i64 a1_2, .string a1_3] 45 (fun gb827 hg w26 hbox hb => ?_); have BK827 := a0_ (hbox); have GW827 := a0_ (gw_ hg (below_size bq1_) : w.heap.size ≤ gb827); replace HB := a0_ (below_step bq1_ hb); have NB826_827 := a0_ ((by rw [hg]; exact Nat.ne_of_lt (blk_lt (g := gb826) (o := .cells #[.string a0_0, .int .i64 a0_1, .int .i64 a0_2, .string a0_3] 45 (0, 0)) (kB_ BK826.out)) : gb826 ≠ gb827)); have NB827_826 := a0_ ((by rw [hg]; exact Nat.ne_of_gt (blk_lt (g := gb826) (o := .cells #[.string a0_0, .int .i64 a0_1, .int .i64 a0_2, .string a0_3] 45 (0, 0)) (kB_ BK826.out)) : gb827 ≠ gb826)); replace BK826 := a0_ (bkB_ BK826 hb); have GE827 := GW827; clear hb hbox hg; have hnb27 := NB826_827.out; have hnc27 := NB827_826.out; obtain ⟨_, _, _, _, _, _, _, _⟩ := bk4_ BK826.out) | ((with_reducible refine gt_ 29 rfl ?_); refine gs_ 7 Tryz.func29 #[.agg #[.string a0_0, .int .i64 a0_1, .int .i64 a0_2, .string a0_3]] ?_; (with_reducible refine (impl_GoodRecord.calls k a0_0 a0_1 a0_2 a0_3 false _ A3.out).mono ?_); rintro e w29 ⟨rfl, hb⟩; refine ⟨_, rfl, ?_⟩; replace BK826 := a0_ (bkB_ BK826 hb); replace BK827 := a0_ (bkB_ BK827 hb); replace HB := a0_ (below_step bq1_ hb); clear hb))
  go_ret2
  exact ⟨rr_, bq1_⟩
 subst c4
 rw [if_pos rfl] at H
 obtain ⟨t829, A5, H⟩ := ob_ H
 by_cases c6 : t829 = true
 case neg =>
  replace c6 := Bool.eq_false_iff.mpr c6
  subst c6
  rw [if_neg ff_] at H
  simp only [Option.some.injEq, Prod.mk.injEq] at H
  obtain ⟨rfl, rfl⟩ := H
  go_enter Tryz.func36, Tryz.ntmps36
  go_wp2_with (first | ((with_reducible refine gate_dst (N := 2) rfl ?_); refine boxS_ 2 #[.string a0_0, .int .i64 a0_1, .int .i64 a0_2, .string a0_3] 45 (fun gb826 hg w18 hbox hb => ?_); have BK826 := a0_ (hbox); have GW826 := a0_ (gw_ hg : w.heap.size ≤ gb826); replace HB := a0_ (below_step bq0_ hb); have GE826 := GW826; clear hb hbox hg) | ((with_reducible refine gate_dst (N := 3) rfl ?_); refine boxS_ 3 #[.string a1_0, .int .i64 a1_1, .int .i64 a1_2, .string a1_3] 45 (fun gb827 hg w19 hbox hb => ?_); have BK827 := a0_ (hbox); have GW827 := a0_ (gw_ hg (below_size bq1_) : w.heap.size ≤ gb827); replace HB := a0_ (below_step bq1_ hb); have NB826_827 := a0_ ((by rw [hg]; exact Nat.ne_of_lt (blk_lt (g := gb826) (o := .cells #[.string a0_0, .int .i64 a0_1, .int .i64 a0_2, .string a0_3] 45 (0, 0)) (kB_ BK826.out)) : gb826 ≠ gb827)); have NB827_826 := a0_ ((by rw [hg]; exact Nat.ne_of_gt (blk_lt (g := gb826) (o := .cells #[.string a0_0, .int .i64 a0_1, .int .i64 a0_2, .string a0_3] 45 (0, 0)) (kB_ BK826.out)) : gb827 ≠ gb826)); replace BK826 := a0_ (bkB_ BK826 hb); have GE827 := GW827; clear hb hbox hg; have hnb20 := NB826_827.out; have hnc20 := NB827_826.out; obtain ⟨_, _, _, _, _, _, _, _⟩ := bk4_ BK826.out) | ((with_reducible refine gt_ 29 rfl ?_); refine gs_ 7 Tryz.func29 #[.agg #[.string a0_0, .int .i64 a0_1, .int .i64 a0_2, .string a0_3]] ?_; (with_reducible refine (impl_GoodRecord.calls k a0_0 a0_1 a0_2 a0_3 true _ A3.out).mono ?_); rintro e w22 ⟨rfl, hb⟩; refine ⟨_, rfl, ?_⟩; replace BK826 := a0_ (bkB_ BK826 hb); replace BK827 := a0_ (bkB_ BK827 hb); replace HB := a0_ (below_step bq1_ hb); clear hb; obtain ⟨_, _, _, _, _, _, _, _⟩ := bk4_ BK827.out) | (go_at_call 29; (with_reducible refine (impl_GoodRecord.calls k a1_0 a1_1 a1_2 a1_3 false _ A5.out).mono ?_); rintro e w24 ⟨rfl, hb⟩; replace BK826 := a0_ (bkB_ BK826 hb); replace BK827 := a0_ (bkB_ BK827 hb); replace HB := a0_ (below_step bq1_ hb); clear hb))
  go_ret2
  exact ⟨rr_, bq1_⟩
 subst c6
 rw [if_pos rfl] at H
 obtain ⟨t830, A7, H⟩ := ob_ H
 simp only [Option.some.injEq, Prod.mk.injEq] at H
 obtain ⟨rfl, rfl⟩ := H
 go_enter Tryz.func36, Tryz.ntmps36
 go_wp2_with (first | ((with_reducible refine gate_dst (N := 2) rfl ?_); refine boxS_ 2 #[.string a0_0, .int .i64 a0_1, .int .i64 a0_2, .string a0_3] 45 (fun gb826 hg w8 hbox hb => ?_); have BK826 := a0_ (hbox); have GW826 := a0_ (gw_ hg : w.heap.size ≤ gb826); replace HB := a0_ (below_step bq0_ hb); have GE826 := GW826; clear hb hbox hg) | ((with_reducible refine gate_dst (N := 3) rfl ?_); refine boxS_ 3 #[.string a1_0, .int .i64 a1_1, .int .i64 a1_2, .string a1_3] 45 (fun gb827 hg w9 hbox hb => ?_); have BK827 := a0_ (hbox); have GW827 := a0_ (gw_ hg (below_size bq1_) : w.heap.size ≤ gb827); replace HB := a0_ (below_step bq1_ hb); have NB826_827 := a0_ ((by rw [hg]; exact Nat.ne_of_lt (blk_lt (g := gb826) (o := .cells #[.string a0_0, .int .i64 a0_1, .int .i64 a0_2, .string a0_3] 45 (0, 0)) (kB_ BK826.out)) : gb826 ≠ gb827)); have NB827_826 := a0_ ((by rw [hg]; exact Nat.ne_of_gt (blk_lt (g := gb826) (o := .cells #[.string a0_0, .int .i64 a0_1, .int .i64 a0_2, .string a0_3] 45 (0, 0)) (kB_ BK826.out)) : gb827 ≠ gb826)); replace BK826 := a0_ (bkB_ BK826 hb); have GE827 := GW827; clear hb hbox hg; have hnb10 := NB826_827.out; have hnc10 := NB827_826.out; obtain ⟨_, _, _, _, _, _, _, _⟩ := bk4_ BK826.out) | ((with_reducible refine gt_ 29 rfl ?_); refine gs_ 7 Tryz.func29 #[.agg #[.string a0_0, .int .i64 a0_1, .int .i64 a0_2, .string a0_3]] ?_; (with_reducible refine (impl_GoodRecord.calls k a0_0 a0_1 a0_2 a0_3 true _ A3.out).mono ?_); rintro e w12 ⟨rfl, hb⟩; refine ⟨_, rfl, ?_⟩; replace BK826 := a0_ (bkB_ BK826 hb); replace BK827 := a0_ (bkB_ BK827 hb); replace HB := a0_ (below_step bq1_ hb); clear hb; obtain ⟨_, _, _, _, _, _, _, _⟩ := bk4_ BK827.out) | (go_at_call 29; (with_reducible refine (impl_GoodRecord.calls k a1_0 a1_1 a1_2 a1_3 true _ A5.out).mono ?_); rintro e w14 ⟨rfl, hb⟩; replace BK826 := a0_ (bkB_ BK826 hb); replace BK827 := a0_ (bkB_ BK827 hb); replace HB := a0_ (below_step bq1_ hb); clear hb; obtain ⟨_, _, _, _, _, _, _, _⟩ := bk4_ BK826.out; obtain ⟨_, _, _, _, _, _, _, _⟩ := bk4_ BK827.out) | ((with_reducible refine gt_ 77 rfl ?_); refine gs_ 16 Tryz.func77 #[.agg #[.string a0_0, .int .i64 a0_1, .int .i64 a0_2, .string a0_3], .agg #[.string a1_0, .int .i64 a1_1, .int .i64 a1_2, .string a1_3]] ?_; (with_reducible refine (impl_compareRecords.calls k a0_0 a0_1 a0_2 a0_3 a1_0 a1_1 a1_2 a1_3 t830 _ A7.out).mono ?_); rintro e w17 ⟨rfl, hb⟩; refine ⟨_, rfl, ?_⟩; replace BK826 := a0_ (bkB_ BK826 hb); replace BK827 := a0_ (bkB_ BK827 hb); replace HB := a0_ (below_step bq1_ hb); clear hb))
 go_ret2
 exact ⟨rr_, bq1_⟩
def spec_DrawRecordsOf.j0 : Nat → List (S83) → Bool → List Int → Int → Int → Option ((List (S83)))
 | 0, _, _, _, _, _ => none
 | k + 1, x4, x22, x1198000, x1198001, x1198002 => if x22 = true then ((spec_l1Cur_pick.f x1198000 x1198001 x1198002 (x4.length : Int)).bind fun bt1210 => ((spec_l1Cur_pick.f x1198000 bt1210.2.1 bt1210.2.2 3).bind fun bt1213 => (if bt1213.1 = 0 then (if 0 ≤ bt1210.1 then (if bt1210.1 < (x4.length : Int) then (some (x4.set (bt1210.1 : Int).toNat (⟨(rd_T83 x4 bt1210.1).f0, (rd_T83 x4 bt1210.1).f1, (rd_T83 x4 bt1210.1).f2, ([] : List ByteArray)⟩ : S83))) else (none)) else (none)) else (if bt1213.1 = 1 then ((spec_l1Cur_name.f k x1198000 bt1213.2.1 bt1213.2.2).bind fun bt1217 => (if 0 ≤ bt1210.1 then (if bt1210.1 < (x4.length : Int) then (some (x4.set (bt1210.1 : Int).toNat (⟨bt1217.1, (rd_T83 x4 bt1210.1).f1, (rd_T83 x4 bt1210.1).f2, (rd_T83 x4 bt1210.1).f3⟩ : S83))) else (none)) else (none))) else (if 0 ≤ bt1210.1 then (if bt1210.1 < (x4.length : Int) then (if 0 < (((rd_T83 x4 bt1210.1).f3).length : Int) then (if ((rd_T83 x4 bt1210.1).f3).length < 8796093022208 then (some (x4.set (bt1210.1 : Int).toNat (⟨(rd_T83 x4 bt1210.1).f0, (rd_T83 x4 bt1210.1).f1, (rd_T83 x4 bt1210.1).f2, (((rd_T83 x4 bt1210.1).f3) ++ [rdOf ByteArray.empty ((rd_T83 x4 bt1210.1).f3) 0])⟩ : S83))) else (none)) else (none)) else (none)) else (none)))))) else (some x4)
def spec_DrawRecordsOf.f (k : Nat) (l0 : List Int) : Option ((List (S83))) := (spec_l1Cur_records.f k l0 0 0).bind fun bt1198 => ((spec_SetsOf.f k bt1198.1).bind fun bt1203 => (if (bt1203.1.length : Int) > 0 then ((spec_l1Cur_one.f l0 bt1198.2.1 bt1198.2.2 6).bind fun bt1207 => (spec_DrawRecordsOf.j0 k bt1203.1 bt1207.1 l0 bt1207.2.1 bt1207.2.2)) else (spec_DrawRecordsOf.j0 k bt1203.1 false l0 bt1198.2.1 bt1198.2.2)))
def spec_DrawRecordsOf.T6 : Bool × List (List Nat × List Nat) := (true, [([], []), ([], []), ([], []), ([], []), ([2, 3], [2, 3]), ([4], [4]), ([5], [5]), ([], []), ([], []), ([7, 8], [7, 8]), ([9], [9]), ([10], [10]), ([11], [11]), ([12], [12]), ([13], [13]), ([6, 14], [6, 14]), ([0, 1, 0, 1, 2, 3, 4, 5, 6, 7, 8, 9, 10, 11, 12, 13, 14, 15], [0, 1]), ([16, 0, 1, 2, 3, 4, 5, 6, 7, 8, 9, 10, 11, 12, 13, 14, 15], [16]), ([17, 15, 15, 0, 1, 2, 3, 4, 5, 6, 7, 8, 9, 10, 11, 12, 13, 14, 15], [15, 17])])
def spec_DrawRecordsOf.B6 : List Nat := [0, 0, 0, 0, 12, 28, 60, 0, 0, 384, 896, 1920, 3968, 8064, 16256, 32764, 65535, 131071, 262143]
theorem spec_DrawRecordsOf.tab6 : rtab .any (opsOf Tryz.f47 6) = spec_DrawRecordsOf.T6 := by kernel_rfl
theorem spec_DrawRecordsOf.bits6 : waitsOk spec_DrawRecordsOf.T6.2 spec_DrawRecordsOf.B6 = true := by kernel_rfl
theorem spec_DrawRecordsOf.calls (k : Nat) (A0 : Option Addr) (c0 : Nat) (l0 : List Int) (r : List (S83)) (w : World) (hr0 : Kd.C (Kd.int .u8) w A0 l0.length l0) (hc0 : l0.length ≤ c0) (h : spec_DrawRecordsOf.f k l0 = some r) :
 Calls Tryz.prog 47 #[.slice A0 l0.length c0] w fun e w' => ∃ v0_ : Value, e = .returned (v0_) ∧ Kd.S k83 83 w' w.heap.size (fun _ => True) v0_ r ∧ Below w.heap.size w w' := by
 have hu117 := Tryz.underlying117
 have HR0 := a0_ hr0
 have HC0 := a0_ hc0
 clear hr0 hc0
 have HB := a0_ (Below.refl w.heap.size w)
 have H := h
 clear h
 unfold spec_DrawRecordsOf.f at H
 obtain ⟨⟨t1198, t1201, t1202⟩, A2, H⟩ := ob_ H
 obtain ⟨⟨t1203, t1204⟩, A3, H⟩ := ob_ H
 have HC4 := a0_ H
 clear H
 go_enter Tryz.func47, Tryz.ntmps47
 go_upto_region 3 with (first | ((with_reducible refine gate_dst (N := 9) rfl ?_); refine boxS_ 9 #[.slice A0 l0.length c0, .int .i64 0, .int .u64 0] 117 (fun gb1197 hg w5 hbox hb => ?_); have HI1197 := a0_ ((⟨A0, c0, hbox, (by rw [hg]; exact (below_size bq0_)), HR0.out⟩ : IsS117 w w5 gb1197 l0 0 0)); replace HB := a0_ (below_step bq0_ hb); clear hb hbox hg) | ((with_reducible refine gt_ 109 rfl ?_); refine gs_ 12 Tryz.func109 #[.pointer (some ⟨gb1197, 0, none⟩)] ?_; (with_reducible refine (spec_l1Cur_records.calls k gb1197 l0 0 0 t1198 t1201 t1202 w _ ?side1 ?side2 A2.out).mono ?_); (case side1 => exact i117_); (case side2 => exact bq2_); rintro e w6 ⟨v1199, rfl, ho0, hi, hb, hk⟩; refine ⟨_, rfl, ?_⟩; have HO1200 := a0_ (Kd.R_lower ho0 (below_size bq2_)); replace HB := a0_ (hb); replace HI1197 := a0_ (hi); clear hb hk hi; (try clear ho0); obtain ⟨Ao7, co7, eo7⟩ := Kd.R_slice HO1200.out; subst eo7) | ((with_reducible refine gt_ 22 rfl ?_); refine gs_ 13 Tryz.func22 #[.slice Ao7 t1198.length co7] ?_; (with_reducible refine (spec_SetsOf.calls k _ _ t1198 t1203 t1204 _ ?side1 ?side2 A3.out).mono ?_); (case side1 => exact kD_ (Kd.R_reads' HO1200.out).2.2); (case side2 => exact (Kd.R_reads' HO1200.out).2.1); rintro e w8 ⟨v1205, rfl, ho0, hb⟩; refine ⟨_, rfl, ?_⟩; replace HO1200 := a0_ (Kd.R_below (kR_ HO1200.out) hb); have HO1206 := a0_ (Kd.S_lower ho0 (below_size bq2_)); replace HI1197 := a0_ (IsS117.below i117_ hb); replace HB := a0_ (below_step bq2_ hb); clear hb; (try clear ho0)))
 (try simp only [Act.put, List.setIfInBounds_toArray, List.set_cons_zero, List.set_cons_succ])
 go_cut [22] (fun v22 wc => ∃ (kq : Nat) (x22_3 : Bool) (x1198001_3 : Int) (x1198002_3 : Int), v22 = .bool x22_3 ∧ Aside0 (spec_DrawRecordsOf.j0 kq t1203 x22_3 l0 x1198001_3 x1198002_3 = some r) ∧ Aside0 (kq ≤ k) ∧ Aside0 (Kd.S k83 83 wc w.heap.size (fun _ => True) v1205 t1203) ∧ Aside0 (IsS117 w wc gb1197 l0 x1198001_3 x1198002_3) ∧ Aside0 (Below w.heap.size w wc))
 case first =>
  have H := HC4.out
  clear HC4
  by_cases c9 : (t1203.length : Int) > 0
  case neg =>
   rw [if_neg c9] at H
   have c9b0 := decide_eq_false c9
   have c9b1 : decide (0 < t1203.length) = false := decide_eq_false (by omega)
   clear c9
   (first | rw [c9b0] | (simp only [i64_w, i32_w]; rw [c9b0]) | skip)
   have H' := a0_ H
   clear H
   obtain ⟨Ao13, co13, eo13⟩ := Kd.S_slice HO1206.out
   subst eo13
   go_wp2
   go_meet
   case rel => exact ⟨_, (false), (t1201), (t1202), rs_, H', ⟨by first | omega | exact Nat.le_refl _⟩, ⟨kS_ HO1206.out⟩, ⟨i117_⟩, ⟨bq2_⟩⟩
  rw [if_pos c9] at H
  have c9b0 := decide_eq_true c9
  have c9b1 : decide (0 < t1203.length) = true := decide_eq_true (by omega)
  clear c9
  (first | rw [c9b0] | (simp only [i64_w, i32_w]; rw [c9b0]) | skip)
  obtain ⟨⟨t1207, t1208, t1209⟩, A10, H⟩ := ob_ H
  have H' := a0_ H
  clear H
  obtain ⟨Ao11, co11, eo11⟩ := Kd.S_slice HO1206.out
  subst eo11
  go_wp2_with (first | (go_at_call 99; (with_reducible refine (spec_l1Cur_one.calls gb1197 l0 t1201 t1202 6 t1207 t1208 t1209 w _ ?side1 ?side2 A10.out).mono ?_); (case side1 => exact i117_); (case side2 => exact bq2_); rintro e w12 ⟨rfl, hi, hb, hk⟩; replace HO1200 := a0_ (Kd.R_mono (Kd.R_keep (IsS117.apart (show IsS117 w _ gb1197 l0 t1201 t1202 from i117_) (kR_ HO1200.out) (by decide)) hk (fun _ h => h.2)) (fun _ h => h.1)); replace HO1206 := a0_ (Kd.S_mono (Kd.S_keep (IsS117.apartS (show IsS117 w _ gb1197 l0 t1201 t1202 from i117_) (by (with_reducible repeat (first | apply Kd.S_alloc | apply Kd.S_drewN | apply Kd.S_drew)); exact HO1206.out) (by decide)) hk (fun _ h => h.2)) (fun _ h => h.1)); replace HB := a0_ (hb); replace HI1197 := a0_ (hi); clear hb hk hi))
  go_meet
  case rel => exact ⟨_, (t1207), (t1208), (t1209), rs_, H', ⟨by first | omega | exact Nat.le_refl _⟩, ⟨kS_ HO1206.out⟩, ⟨i117_⟩, ⟨bq2_⟩⟩
 case rest =>
  clear HC4
  obtain ⟨kq, x22_3, x1198001_3, x1198002_3, rfl, HA, HJ3, HO_4, HI1197, HB⟩ := hcut
  cases kq with
  | zero => exact absurd HA.out (by simp [spec_DrawRecordsOf.j0])
  | succ kj3 =>
   have H := HA.out
   clear HA
   simp only [spec_DrawRecordsOf.j0] at H
   by_cases c14 : x22_3 = true
   case neg =>
    replace c14 := Bool.eq_false_iff.mpr c14
    subst c14
    rw [if_neg ff_] at H
    obtain rfl := Option.some.inj H
    go_wp2
    go_ret
    exact ⟨_, rr_, kS_ HO_4.out, bq2_⟩
   subst c14
   rw [if_pos rfl] at H
   obtain ⟨⟨t1210, t1211, t1212⟩, A15, H⟩ := ob_ H
   obtain ⟨⟨t1213, t1214, t1215⟩, A16, H⟩ := ob_ H
   by_cases c17 : t1213 = 0
   case pos =>
    rw [if_pos c17] at H
    have c17b0 := beq_iff_eq.mpr c17
    have c17b1 := bne_eq_false_iff_eq.mpr c17
    clear c17
    by_cases c18 : 0 ≤ t1210
    case neg =>
     rw [if_neg c18] at H
     exact absurd H (by simp)
    rw [if_pos c18] at H
    have c18b0 := decide_eq_true c18
    clear c18
    by_cases c19 : t1210 < (t1203.length : Int)
    case neg =>
     rw [if_neg c19] at H
     exact absurd H (by simp)
    rw [if_pos c19] at H
    have c19b0 := decide_eq_true c19
    clear c19
    obtain ⟨y1216, hy1216⟩ : ∃ y_ : List (S83), y_ = (t1203.set (t1210 : Int).toNat (⟨(rd_T83 t1203 t1210).f0, (rd_T83 t1203 t1210).f1, (rd_T83 t1203 t1210).f2, ([] : List ByteArray)⟩ : S83)) := ⟨_, rfl⟩
    rw [← hy1216] at H
    have Ny1216 := a0_ hy1216
    clear hy1216
    obtain rfl := Option.some.inj H
    obtain ⟨Ao21, co21, eo21⟩ := Kd.S_slice HO_4.out
    subst eo21
    go_wp2_with (first | ((with_reducible refine gt_ 111 rfl ?_); refine gs_ 26 Tryz.func111 #[.pointer (some ⟨gb1197, 0, none⟩), .int .i64 (t1203.length : Int)] ?_; (with_reducible refine (spec_l1Cur_pick.calls gb1197 l0 x1198001_3 x1198002_3 (t1203.length : Int) t1210 t1211 t1212 w _ ?side1 ?side2 A15.out).mono ?_); (case side1 => exact i117_); (case side2 => exact bq2_); rintro e w22 ⟨rfl, hi, hb, hk⟩; refine ⟨_, rfl, ?_⟩; replace HO_4 := a0_ (Kd.S_mono (Kd.S_keep (IsS117.apartS (show IsS117 w _ gb1197 l0 x1198001_3 x1198002_3 from i117_) (by (with_reducible repeat (first | apply Kd.S_alloc | apply Kd.S_drewN | apply Kd.S_drew)); exact HO_4.out) (by decide)) hk (fun _ h => h.2)) (fun _ h => h.1)); replace HB := a0_ (hb); replace HI1197 := a0_ (hi); clear hb hk hi) | ((with_reducible refine gt_ 111 rfl ?_); refine gs_ 28 Tryz.func111 #[.pointer (some ⟨gb1197, 0, none⟩), .int .i64 3] ?_; (with_reducible refine (spec_l1Cur_pick.calls gb1197 l0 t1211 t1212 3 t1213 t1214 t1215 w _ ?side1 ?side2 A16.out).mono ?_); (case side1 => exact i117_); (case side2 => exact bq2_); rintro e w23 ⟨rfl, hi, hb, hk⟩; refine ⟨_, rfl, ?_⟩; replace HO_4 := a0_ (Kd.S_mono (Kd.S_keep (IsS117.apartS (show IsS117 w _ gb1197 l0 t1211 t1212 from i117_) (by (with_reducible repeat (first | apply Kd.S_alloc | apply Kd.S_drewN | apply Kd.S_drew)); exact HO_4.out) (by decide)) hk (fun _ h => h.2)) (fun _ h => h.1)); replace HB := a0_ (hb); replace HI1197 := a0_ (hi); clear hb hk hi; have p20 : 0 ≤ (t1210 : Int) := dec_; have q20 : (t1210 : Int) < ((t1203.length : Int) : Int) := dec_; obtain ⟨go20, co20, eo20, gb20, gl20, cl20, HG20⟩ := Kd.S_form HO_4.out (by omega); (first | cases eo20 | (injection eo20 with ea_ en_ ec_; (first | subst ea_ | (injection ea_ with ea_; subst ea_)); subst ec_; clear en_)); have GB20 := a0_ gb20; have GG20 := a0_ HG20; clear gb20 gl20 HG20; obtain ⟨_, ce20, hcl20, hM20, hcc20, hfr20, _, _⟩ := Kd.S_elem HO_4.out z83 (t1210 : Int) p20 q20; obtain ⟨ve20_3, rfl, ge20_3⟩ := k83_openM hM20; have hx20_0 : w23.cell? ⟨go20, (t1210 : Int).toNat * 4, none⟩ = some (.string ((rd_T83 t1203 t1210).f0)) := hcc20 0 _ rfl; have hx20_1 : w23.cell? ⟨go20, (t1210 : Int).toNat * 4 + 1, none⟩ = some (.int .i64 ((rd_T83 t1203 t1210).f1)) := hcc20 1 _ rfl; have hx20_2 : w23.cell? ⟨go20, (t1210 : Int).toNat * 4 + 2, none⟩ = some (.int .i64 ((rd_T83 t1203 t1210).f2)) := hcc20 2 _ rfl; have hx20_3 : w23.cell? ⟨go20, (t1210 : Int).toNat * 4 + 3, none⟩ = some (ve20_3) := hcc20 3 _ rfl; have hf20_0 : w23.frozen? ⟨go20, (t1210 : Int).toNat * 4, none⟩ = false := hfr20 0; have hf20_1 : w23.frozen? ⟨go20, (t1210 : Int).toNat * 4 + 1, none⟩ = false := hfr20 1; have hf20_2 : w23.frozen? ⟨go20, (t1210 : Int).toNat * 4 + 2, none⟩ = false := hfr20 2; have hf20_3 : w23.frozen? ⟨go20, (t1210 : Int).toNat * 4 + 3, none⟩ = false := hfr20 3; clear hcl20 hcc20 hfr20 hM20; replace p20 := eq_true p20; replace q20 := eq_true q20; have HX24 := a0_ (show Kd.S k83 83 w23 w.heap.size (fun k_ => ((fun _ => True)) k_ ∧ ¬ ((fun _ => False)) k_) (.slice (some ⟨go20, 0, none⟩) t1203.length co21) t1203 from (by (with_reducible repeat (first | apply Kd.S_alloc | apply Kd.S_drewN | apply Kd.S_drew)); exact Kd.S_mono HO_4.out (fun k_ hk => ⟨trivial, fun e_ => e_⟩))); obtain ⟨oki24, ce24, hcl24, hM24, hcc24, hfr24, hoki24, hH24⟩ := Kd.S_elem HX24.out z83 (t1210 : Int) (dec_) (by have h_ : (t1210 : Int) < ((t1203.length : Int) : Int) := dec_; first | exact h_ | (have e_ := (Kd.S_reads' HO_4.out).1; omega) | simpa using h_); obtain ⟨ve24_3, rfl, ge24_3⟩ := k83_openM hM24; have HP24 := Kd.S_seg hH24 (dec_) (by have h_ : (t1210 : Int) < ((t1203.length : Int) : Int) := dec_; first | exact h_ | (have e_ := (Kd.S_reads' HO_4.out).1; omega) | simpa using h_) (seg := [.slice none 0 0]) (j := 3) (show 4 ≤ 4 from by decide) (x' := (⟨(rd_T83 t1203 t1210).f0, (rd_T83 t1203 t1210).f1, (rd_T83 t1203 t1210).f2, ([] : List ByteArray)⟩ : S83)) (k83_mkM _ _ _ (⟨(rd_T83 t1203 t1210).f0, (rd_T83 t1203 t1210).f1, (rd_T83 t1203 t1210).f2, ([] : List ByteArray)⟩ : S83) (Kd.R_nil _ _ _ _ _)) (fun _ hk => hk) (fun k_ hk_ => hk_.elim); have hx24_3 := hcc24 3 _ rfl; (try simp only [show (k83).sz = 4 from rfl, Nat.mul_one, Nat.add_zero] at hx24_3); have hf24_3 := hfr24 3; (try simp only [show (k83).sz = 4 from rfl, Nat.mul_one, Nat.add_zero] at hf24_3); clear hcl24 hcc24 hfr24 hM24 hoki24 hH24) | ((with_reducible refine gate_store (t := 78) (p := 52) rfl ?_); refine store_event (t := 78) (p := 52) (v := ?vo_w25) (w1 := (w23.setCell ⟨go20, (t1210 : Int).toNat * 4 + 3, none⟩ (.slice none 0 0))) ?hg ?ho ?hn ?hr ?_; (case ho => rfl); (case hg => rfl); (case hn => rfl); (case hr => first | (go_simp; done) | (go_simp; rfl)); intro w25 hw; have hg : w23.grownBy w25 (some go20) := (by rw [hw]; exact HP24.2); have hp_ : Kd.S k83 83 w25 w.heap.size (fun _ => True) (.slice (some ⟨go20, 0, none⟩) t1203.length co21) y1216 := (by rw [hw, Ny1216.out]; exact HP24.1); clear HP24; replace HI1197 := a0_ (IsS117.grown i117_ hg (IsS117.own_neS HI1197.out HO_4.out (by decide))); replace HO_4 := a0_ (hp_); replace HB := a0_ ((by rw [hw]; exact below_set (HB.out) GB20.out : Below w.heap.size w w25)); clear hg hw hp_))
    go_ret
    exact ⟨_, rr_, kS_ HO_4.out, bq2_⟩
   rw [if_neg c17] at H
   have c17b0 := beq_eq_false_iff_ne.mpr c17
   have c17b1 := bne_iff_ne.mpr c17
   by_cases c26 : t1213 = 1
   case pos =>
    rw [if_pos c26] at H
    have c26b0 := beq_iff_eq.mpr c26
    have c26b1 := bne_eq_false_iff_eq.mpr c26
    clear c26
    obtain ⟨⟨t1217, t1218, t1219⟩, A27, H⟩ := ob_ H
    by_cases c28 : 0 ≤ t1210
    case neg =>
     rw [if_neg c28] at H
     exact absurd H (by simp)
    rw [if_pos c28] at H
    have c28b0 := decide_eq_true c28
    clear c28
    by_cases c29 : t1210 < (t1203.length : Int)
    case neg =>
     rw [if_neg c29] at H
     exact absurd H (by simp)
    rw [if_pos c29] at H
    have c29b0 := decide_eq_true c29
    clear c29
    obtain ⟨y1220, hy1220⟩ : ∃ y_ : List (S83), y_ = (t1203.set (t1210 : Int).toNat (⟨t1217, (rd_T83 t1203 t1210).f1, (rd_T83 t1203 t1210).f2, (rd_T83 t1203 t1210).f3⟩ : S83)) := ⟨_, rfl⟩
    rw [← hy1220] at H
    have Ny1220 := a0_ hy1220
    clear hy1220
    obtain rfl := Option.some.inj H
    obtain ⟨Ao31, co31, eo31⟩ := Kd.S_slice HO_4.out
    subst eo31
    go_wp2_with (first | ((with_reducible refine gt_ 111 rfl ?_); refine gs_ 26 Tryz.func111 #[.pointer (some ⟨gb1197, 0, none⟩), .int .i64 (t1203.length : Int)] ?_; (with_reducible refine (spec_l1Cur_pick.calls gb1197 l0 x1198001_3 x1198002_3 (t1203.length : Int) t1210 t1211 t1212 w _ ?side1 ?side2 A15.out).mono ?_); (case side1 => exact i117_); (case side2 => exact bq2_); rintro e w32 ⟨rfl, hi, hb, hk⟩; refine ⟨_, rfl, ?_⟩; replace HO_4 := a0_ (Kd.S_mono (Kd.S_keep (IsS117.apartS (show IsS117 w _ gb1197 l0 x1198001_3 x1198002_3 from i117_) (by (with_reducible repeat (first | apply Kd.S_alloc | apply Kd.S_drewN | apply Kd.S_drew)); exact HO_4.out) (by decide)) hk (fun _ h => h.2)) (fun _ h => h.1)); replace HB := a0_ (hb); replace HI1197 := a0_ (hi); clear hb hk hi) | ((with_reducible refine gt_ 111 rfl ?_); refine gs_ 28 Tryz.func111 #[.pointer (some ⟨gb1197, 0, none⟩), .int .i64 3] ?_; (with_reducible refine (spec_l1Cur_pick.calls gb1197 l0 t1211 t1212 3 t1213 t1214 t1215 w _ ?side1 ?side2 A16.out).mono ?_); (case side1 => exact i117_); (case side2 => exact bq2_); rintro e w33 ⟨rfl, hi, hb, hk⟩; refine ⟨_, rfl, ?_⟩; replace HO_4 := a0_ (Kd.S_mono (Kd.S_keep (IsS117.apartS (show IsS117 w _ gb1197 l0 t1211 t1212 from i117_) (by (with_reducible repeat (first | apply Kd.S_alloc | apply Kd.S_drewN | apply Kd.S_drew)); exact HO_4.out) (by decide)) hk (fun _ h => h.2)) (fun _ h => h.1)); replace HB := a0_ (hb); replace HI1197 := a0_ (hi); clear hb hk hi) | ((with_reducible refine gt_ 112 rfl ?_); refine gs_ 58 Tryz.func112 #[.pointer (some ⟨gb1197, 0, none⟩)] ?_; (with_reducible refine (spec_l1Cur_name.calls kj3 gb1197 l0 t1214 t1215 t1217 t1218 t1219 w _ ?side1 ?side2 A27.out).mono ?_); (case side1 => exact i117_); (case side2 => exact bq2_); rintro e w34 ⟨rfl, hi, hb, hk⟩; refine ⟨_, rfl, ?_⟩; replace HO_4 := a0_ (Kd.S_mono (Kd.S_keep (IsS117.apartS (show IsS117 w _ gb1197 l0 t1214 t1215 from i117_) (by (with_reducible repeat (first | apply Kd.S_alloc | apply Kd.S_drewN | apply Kd.S_drew)); exact HO_4.out) (by decide)) hk (fun _ h => h.2)) (fun _ h => h.1)); replace HB := a0_ (hb); replace HI1197 := a0_ (hi); clear hb hk hi; have p30 : 0 ≤ (t1210 : Int) := dec_; have q30 : (t1210 : Int) < ((t1203.length : Int) : Int) := dec_; obtain ⟨go30, co30, eo30, gb30, gl30, cl30, HG30⟩ := Kd.S_form HO_4.out (by omega); (first | cases eo30 | (injection eo30 with ea_ en_ ec_; (first | subst ea_ | (injection ea_ with ea_; subst ea_)); subst ec_; clear en_)); have GB30 := a0_ gb30; have GG30 := a0_ HG30; clear gb30 gl30 HG30; obtain ⟨_, ce30, hcl30, hM30, hcc30, hfr30, _, _⟩ := Kd.S_elem HO_4.out z83 (t1210 : Int) p30 q30; obtain ⟨ve30_3, rfl, ge30_3⟩ := k83_openM hM30; have hx30_0 : w34.cell? ⟨go30, (t1210 : Int).toNat * 4, none⟩ = some (.string ((rd_T83 t1203 t1210).f0)) := hcc30 0 _ rfl; have hx30_1 : w34.cell? ⟨go30, (t1210 : Int).toNat * 4 + 1, none⟩ = some (.int .i64 ((rd_T83 t1203 t1210).f1)) := hcc30 1 _ rfl; have hx30_2 : w34.cell? ⟨go30, (t1210 : Int).toNat * 4 + 2, none⟩ = some (.int .i64 ((rd_T83 t1203 t1210).f2)) := hcc30 2 _ rfl; have hx30_3 : w34.cell? ⟨go30, (t1210 : Int).toNat * 4 + 3, none⟩ = some (ve30_3) := hcc30 3 _ rfl; have hf30_0 : w34.frozen? ⟨go30, (t1210 : Int).toNat * 4, none⟩ = false := hfr30 0; have hf30_1 : w34.frozen? ⟨go30, (t1210 : Int).toNat * 4 + 1, none⟩ = false := hfr30 1; have hf30_2 : w34.frozen? ⟨go30, (t1210 : Int).toNat * 4 + 2, none⟩ = false := hfr30 2; have hf30_3 : w34.frozen? ⟨go30, (t1210 : Int).toNat * 4 + 3, none⟩ = false := hfr30 3; clear hcl30 hcc30 hfr30 hM30; replace p30 := eq_true p30; replace q30 := eq_true q30; have HX35 := a0_ (show Kd.S k83 83 w34 w.heap.size (fun k_ => ((fun _ => True)) k_ ∧ ¬ ((fun _ => False)) k_) (.slice (some ⟨go30, 0, none⟩) t1203.length co31) t1203 from (by (with_reducible repeat (first | apply Kd.S_alloc | apply Kd.S_drewN | apply Kd.S_drew)); exact Kd.S_mono HO_4.out (fun k_ hk => ⟨trivial, fun e_ => e_⟩))); obtain ⟨oki35, ce35, hcl35, hM35, hcc35, hfr35, hoki35, hH35⟩ := Kd.S_elem HX35.out z83 (t1210 : Int) (dec_) (by have h_ : (t1210 : Int) < ((t1203.length : Int) : Int) := dec_; first | exact h_ | (have e_ := (Kd.S_reads' HO_4.out).1; omega) | simpa using h_); obtain ⟨ve35_3, rfl, ge35_3⟩ := k83_openM hM35; have HP35 := Kd.S_seg hH35 (dec_) (by have h_ : (t1210 : Int) < ((t1203.length : Int) : Int) := dec_; first | exact h_ | (have e_ := (Kd.S_reads' HO_4.out).1; omega) | simpa using h_) (seg := [.string t1217]) (j := 0) (show 1 ≤ 4 from by decide) (x' := (⟨t1217, (rd_T83 t1203 t1210).f1, (rd_T83 t1203 t1210).f2, (rd_T83 t1203 t1210).f3⟩ : S83)) (k83_mkM _ _ _ (⟨t1217, (rd_T83 t1203 t1210).f1, (rd_T83 t1203 t1210).f2, (rd_T83 t1203 t1210).f3⟩ : S83) (Kd.R_mono ge35_3 (fun _ h_ => Or.inl h_))) (fun _ hk => hk) (fun k_ hk_ => hk_.elim); have hx35_0 := hcc35 0 _ rfl; (try simp only [show (k83).sz = 4 from rfl, Nat.mul_one, Nat.add_zero] at hx35_0); have hf35_0 := hfr35 0; (try simp only [show (k83).sz = 4 from rfl, Nat.mul_one, Nat.add_zero] at hf35_0); clear hcl35 hcc35 hfr35 hM35 hoki35 hH35) | ((with_reducible refine gate_store (t := 9) (p := 60) rfl ?_); refine store_event (t := 9) (p := 60) (v := ?vo_w36) (w1 := (w34.setCell ⟨go30, (t1210 : Int).toNat * 4, none⟩ (.string t1217))) ?hg ?ho ?hn ?hr ?_; (case ho => rfl); (case hg => rfl); (case hn => rfl); (case hr => first | (go_simp; done) | (go_simp; rfl)); intro w36 hw; have hg : w34.grownBy w36 (some go30) := (by rw [hw]; exact HP35.2); have hp_ : Kd.S k83 83 w36 w.heap.size (fun _ => True) (.slice (some ⟨go30, 0, none⟩) t1203.length co31) y1220 := (by rw [hw, Ny1220.out]; exact HP35.1); clear HP35; replace HI1197 := a0_ (IsS117.grown i117_ hg (IsS117.own_neS HI1197.out HO_4.out (by decide))); replace HO_4 := a0_ (hp_); replace HB := a0_ ((by rw [hw]; exact below_set (HB.out) GB30.out : Below w.heap.size w w36)); clear hg hw hp_))
    go_ret
    exact ⟨_, rr_, kS_ HO_4.out, bq2_⟩
   rw [if_neg c26] at H
   have c26b0 := beq_eq_false_iff_ne.mpr c26
   have c26b1 := bne_iff_ne.mpr c26
   by_cases c37 : 0 ≤ t1210
   case neg =>
    rw [if_neg c37] at H
    exact absurd H (by simp)
   rw [if_pos c37] at H
   have c37b0 := decide_eq_true c37
   clear c37
   by_cases c38 : t1210 < (t1203.length : Int)
   case neg =>
    rw [if_neg c38] at H
    exact absurd H (by simp)
   rw [if_pos c38] at H
   have c38b0 := decide_eq_true c38
   clear c38
   by_cases c39 : 0 < (((rd_T83 t1203 t1210).f3).length : Int)
   case neg =>
    rw [if_neg c39] at H
    exact absurd H (by simp)
   rw [if_pos c39] at H
   have c39b0 := decide_eq_true c39
   have c39b1 : decide (0 < ((rd_T83 t1203 t1210).f3).length) = true := decide_eq_true (by omega)
   clear c39
   by_cases c40 : ((rd_T83 t1203 t1210).f3).length < 8796093022208
   case neg =>
    rw [if_neg c40] at H
    exact absurd H (by simp)
   rw [if_pos c40] at H
   have LMc40 := a0_ c40
   clear c40
   obtain ⟨y1224, hy1224⟩ : ∃ y_ : List ByteArray, y_ = (((rd_T83 t1203 t1210).f3) ++ [rdOf ByteArray.empty ((rd_T83 t1203 t1210).f3) 0]) := ⟨_, rfl⟩
   rw [← hy1224] at H
   have Ny1224 := a0_ hy1224
   clear hy1224
   obtain ⟨y1227, hy1227⟩ : ∃ y_ : List (S83), y_ = (t1203.set (t1210 : Int).toNat (⟨(rd_T83 t1203 t1210).f0, (rd_T83 t1203 t1210).f1, (rd_T83 t1203 t1210).f2, y1224⟩ : S83)) := ⟨_, rfl⟩
   rw [← hy1227] at H
   have Ny1227 := a0_ hy1227
   clear hy1227
   obtain rfl := Option.some.inj H
   obtain ⟨Ao42, co42, eo42⟩ := Kd.S_slice HO_4.out
   subst eo42
   try go_wp2_with (first | ((with_reducible refine gt_ 111 rfl ?_); refine gs_ 26 Tryz.func111 #[.pointer (some ⟨gb1197, 0, none⟩), .int .i64 (t1203.length : Int)] ?_; (with_reducible refine (spec_l1Cur_pick.calls gb1197 l0 x1198001_3 x1198002_3 (t1203.length : Int) t1210 t1211 t1212 w _ ?side1 ?side2 A15.out).mono ?_); (case side1 => exact i117_); (case side2 => exact bq2_); rintro e w43 ⟨rfl, hi, hb, hk⟩; refine ⟨_, rfl, ?_⟩; replace HO_4 := a0_ (Kd.S_mono (Kd.S_keep (IsS117.apartS (show IsS117 w _ gb1197 l0 x1198001_3 x1198002_3 from i117_) (by (with_reducible repeat (first | apply Kd.S_alloc | apply Kd.S_drewN | apply Kd.S_drew)); exact HO_4.out) (by decide)) hk (fun _ h => h.2)) (fun _ h => h.1)); replace HB := a0_ (hb); replace HI1197 := a0_ (hi); clear hb hk hi) | ((with_reducible refine gt_ 111 rfl ?_); refine gs_ 28 Tryz.func111 #[.pointer (some ⟨gb1197, 0, none⟩), .int .i64 3] ?_; (with_reducible refine (spec_l1Cur_pick.calls gb1197 l0 t1211 t1212 3 t1213 t1214 t1215 w _ ?side1 ?side2 A16.out).mono ?_); (case side1 => exact i117_); (case side2 => exact bq2_); rintro e w44 ⟨rfl, hi, hb, hk⟩; refine ⟨_, rfl, ?_⟩; replace HO_4 := a0_ (Kd.S_mono (Kd.S_keep (IsS117.apartS (show IsS117 w _ gb1197 l0 t1211 t1212 from i117_) (by (with_reducible repeat (first | apply Kd.S_alloc | apply Kd.S_drewN | apply Kd.S_drew)); exact HO_4.out) (by decide)) hk (fun _ h => h.2)) (fun _ h => h.1)); replace HB := a0_ (hb); replace HI1197 := a0_ (hi); clear hb hk hi))
   replace HO_4 := a0_ (Kd.S_drew HO_4.out)
   replace HI1197 := a0_ (IsS117.drew HI1197.out)
   replace HB := a0_ (below_drew1 HB.out)
   have p1221 : 0 ≤ (t1210 : Int) := dec_
   have q1221 : t1210 < (t1203.length : Int) := dec_
   obtain ⟨ad1221, A1221_3, c1221_3, e1221, hx1221_0, hx1221_1, hx1221_2, hx1221_3, hl1221_3, hi1221_3⟩ := at_T83 (Kd.S_reads' HO_4.out).2.2 t1210 p1221 q1221
   cases e1221
   obtain ⟨ce1221, hce1221, hMe1221, hcc1221⟩ := Kd.S_get HO_4.out z83 t1210 p1221 (by first | exact q1221 | exact dec_ | (have e_ := (Kd.S_reads' HO_4.out).1; omega))
   obtain ⟨ve1221_3, rfl, ge1221_3⟩ := k83_openM hMe1221
   have hv1221_3 := hcc1221 3 _ rfl
   rw [add_field _ _ 3 (by omega)] at hv1221_3
   replace hv1221_3 := Option.some.inj (hv1221_3.symm.trans hx1221_3)
   rw [hv1221_3] at ge1221_3
   have HL1221_3 := a0_ (show Kd.R Kd.string 9 _ _ _ _ ((rd_T83 t1203 t1210).f3) from ge1221_3)
   clear hv1221_3 ge1221_3
   have HX1221_3 := a0_ hx1221_3
   clear hcc1221 hce1221
   have HR1221_3 := a0_ hi1221_3
   have HC1221_3 := a0_ hl1221_3
   clear hi1221_3 hl1221_3
   replace p1221 := eq_true p1221
   replace q1221 := eq_true q1221
   have p1222 : 0 ≤ (t1210 : Int) := dec_
   have q1222 : t1210 < (t1203.length : Int) := dec_
   obtain ⟨ad1222, A1222_3, c1222_3, e1222, hx1222_0, hx1222_1, hx1222_2, hx1222_3, hl1222_3, hi1222_3⟩ := at_T83 (Kd.S_reads' HO_4.out).2.2 t1210 p1222 q1222
   obtain rfl : ad1221 = ad1222 := (by injection e1222)
   obtain ⟨ce1222, hce1222, hMe1222, hcc1222⟩ := Kd.S_get HO_4.out z83 t1210 p1222 (by first | exact q1222 | exact dec_ | (have e_ := (Kd.S_reads' HO_4.out).1; omega))
   obtain ⟨ve1222_3, rfl, ge1222_3⟩ := k83_openM hMe1222
   have hv1222_3 := hcc1222 3 _ rfl
   rw [add_field _ _ 3 (by omega)] at hv1222_3
   replace hv1222_3 := Option.some.inj (hv1222_3.symm.trans hx1222_3)
   rw [hv1222_3] at ge1222_3
   have HL1222_3 := a0_ (show Kd.R Kd.string 9 _ _ _ _ ((rd_T83 t1203 t1210).f3) from ge1222_3)
   clear hv1222_3 ge1222_3
   have HX1222_3 := a0_ hx1222_3
   clear hcc1222 hce1222
   have HR1222_3 := a0_ hi1222_3
   have HC1222_3 := a0_ hl1222_3
   clear hi1222_3 hl1222_3
   replace p1222 := eq_true p1222
   replace q1222 := eq_true q1222
   have ea_ := Option.some.inj (hx1221_3.symm.trans hx1222_3)
   injection ea_ with ea_ en_ ec_
   subst ea_
   subst ec_
   clear en_
   have p1223 : 0 ≤ (0 : Int) := (by omega)
   have q1223 : 0 < (((rd_T83 t1203 t1210).f3).length : Int) := dec_
   obtain ⟨ad1223, e1223, hx1223_0⟩ := Kd.at_string (kD_ HR1222_3.out) 0 p1223 q1223
   cases e1223
   have qi1223 : (0 < ((rd_T83 t1203 t1210).f3).length) = True := eq_true (by omega)
   (try rw [show ((0 : Int)).toNat = 0 from rfl] at hx1223_0)
   (try rw [Addr.add_zero'] at hx1223_0)
   replace p1223 := eq_true p1223
   replace q1223 := eq_true q1223
   obtain ⟨go46, co46, eo46, gb46, gl46, cl46, HG46⟩ := Kd.S_form HO_4.out (by have h_ : (t1210 : Int) < ((t1203.length : Int) : Int) := dec_; have h2_ : 0 ≤ (t1210 : Int) := (dec_); omega)
   (first | cases eo46 | (injection eo46 with ea_ en_ ec_; (first | subst ea_ | (injection ea_ with ea_; subst ea_)); subst ec_; clear en_))
   have GB46 := a0_ gb46
   have GG46 := a0_ HG46
   clear gb46 gl46 HG46
   (first | simp only [add_plain] at hx1221_0 | skip)
   (first | simp only [add_plain] at hx1221_1 | skip)
   (first | simp only [add_plain] at hx1221_2 | skip)
   (first | simp only [add_plain] at hx1221_3 | skip)
   (first | simp only [add_plain] at hx1222_0 | skip)
   (first | simp only [add_plain] at hx1222_1 | skip)
   (first | simp only [add_plain] at hx1222_2 | skip)
   (first | simp only [add_plain] at hx1222_3 | skip)
   obtain ⟨oki46, ce46, hcl46, hM46, hcc46, _, _, hH46⟩ := Kd.S_elem HO_4.out z83 (t1210 : Int) (dec_) (by have h_ : (t1210 : Int) < ((t1203.length : Int) : Int) := dec_; first | exact h_ | (have e_ := (Kd.S_reads' HO_4.out).1; omega) | simpa using h_)
   obtain ⟨ve46_3, rfl, ge46_3⟩ := k83_openM hM46
   have hv46 := hcc46 3 _ rfl
   have hX46 := HX1221_3.out
   (try simp only [add_plain] at hX46)
   (try simp only [Nat.add_zero] at hv46)
   replace hv46 := Option.some.inj (hv46.symm.trans hX46)
   subst hv46
   clear hX46 hcc46 hcl46
   have UU46 := a0_ (show Kd.R Kd.string 9 _ w.heap.size oki46 (.slice (some ad1223) ((rd_T83 t1203 t1210).f3).length c1221_3) ((rd_T83 t1203 t1210).f3) from ge46_3)
   have HH46 := a0_ hH46
   have HN46 := a0_ (Kd.S_reads' HO_4.out).1
   clear hH46 ge46_3
   refine stH_ 19 [15, 18] (c4_ hx1221_0 hx1221_1 hx1221_2 hx1221_3 (c4_ hx1222_0 hx1222_1 hx1222_2 hx1222_3 (e1_ hx1223_0))) (fun hHeld => ?_); refine with_tabW spec_DrawRecordsOf.tab6 spec_DrawRecordsOf.bits6 (fun HT_ HW_ => ?_)
   generalize w44.drew = w45 at HO_4 HI1197 HB GG46 HH46 HL1221_3 HL1222_3 HR1221_3 HR1222_3 HX1221_3 HX1222_3 UU46 hx1221_0 hx1221_1 hx1221_2 hx1221_3 hx1222_0 hx1222_1 hx1222_2 hx1222_3 hx1223_0 hHeld ⊢
   refine p_ 0 29 ?_
   refine p_ 1 30 ?_
   refine p_ 2 31 ?_
   refine p_ 3 32 ?_
   refine p_ 4 33 ?_
   refine p_ 5 34 ?_
   refine p_ 7 36 ?_
   refine p_ 8 37 ?_
   refine p_ 9 38 ?_
   refine p_ 10 39 ?_
   refine t_ 6 35 ?_
   refine t_ 11 40 ?_
   refine p_ 12 41 ?_
   refine t_ 13 42 ?_
   refine oneS_ 14 (some 43) (fun K hK => ?_)
   refine value_ (w1 := ?_) (v := ?_) (by rfl) rfl ?_ ?_
   rotate_left 2
   · go_simp
     constructor
     · rfl
     · rfl
   refine hK.out _ _ ⟨(World.cell?_alloc_lt _ _ _ (World.block_lt_of_cell? _ _ (hHeld.1))).trans (hHeld.1), (World.cell?_alloc_lt _ _ _ (World.block_lt_of_cell? _ _ (hHeld.2.1))).trans (hHeld.2.1), (World.cell?_alloc_lt _ _ _ (World.block_lt_of_cell? _ _ (hHeld.2.2.1))).trans (hHeld.2.2.1), (World.cell?_alloc_lt _ _ _ (World.block_lt_of_cell? _ _ (hHeld.2.2.2.1))).trans (hHeld.2.2.2.1), (World.cell?_alloc_lt _ _ _ (World.block_lt_of_cell? _ _ (hHeld.2.2.2.2.1))).trans (hHeld.2.2.2.2.1), (World.cell?_alloc_lt _ _ _ (World.block_lt_of_cell? _ _ (hHeld.2.2.2.2.2.1))).trans (hHeld.2.2.2.2.2.1), (World.cell?_alloc_lt _ _ _ (World.block_lt_of_cell? _ _ (hHeld.2.2.2.2.2.2.1))).trans (hHeld.2.2.2.2.2.2.1), (World.cell?_alloc_lt _ _ _ (World.block_lt_of_cell? _ _ (hHeld.2.2.2.2.2.2.2.1))).trans (hHeld.2.2.2.2.2.2.2.1), (World.cell?_alloc_lt _ _ _ (World.block_lt_of_cell? _ _ (hHeld.2.2.2.2.2.2.2.2))).trans (hHeld.2.2.2.2.2.2.2.2)⟩ (fun hHeld => ?_)
   clear hK K
   refine normS_ ?_
   refine last_ (i := 15) (N := some 44) #[true, true, true, true, true, true, true, true, true, true, true, true, true, true, true, true, false, false, false] rfl rfl (one_of HT_.out (by kernel_rfl)) (by decide) (fun K hK => ?_)
   refine Kd.R_append_step Kd.string (w0 := w) w.heap.size (by rfl) (.tmp 35) (.tmp 43) 78 9 (.string ⟨#[]⟩) 16 rfl Tryz.underlying78 info9 rfl (by decide) (by omega) (.slice (some ad1223) ((rd_T83 t1203 t1210).f3).length c1221_3) ((rd_T83 t1203 t1210).f3) (rdOf ByteArray.empty ((rd_T83 t1203 t1210).f3) 0) [.string (rdOf ByteArray.empty ((rd_T83 t1203 t1210).f3) 0)] (fun k_ => oki46 k_ ∨ ((fun _ => True)) k_ ∧ w45.heap.size ≤ k_) (fun _ => False) rfl rfl ?aP (fun _ hk => hk.elim) ?aF ?aO ?aB ?aS ?aL ?_
   (case aP => exact rfl)
   (case aB => exact bq2_)
   (case aF => exact (fun k_ hk => .inr ⟨trivial, hk⟩))
   (case aO => exact (kR_ (Kd.R_mono UU46.out (fun _ hk => .inl hk))))
   (case aS => exact (below_size bq2_))
   (case aL => have := LMc40.out; omega)
   intro v1225 w47 ho hb hg hat
   rw [← Ny1224.out] at ho
   have n0_ := a0_ (IsS117.grown i117_ hg (IsS117.own_ne HI1197.out HL1221_3.out (by decide)))
   have n1_ := a0_ (hb)
   have n2_ := a0_ (Kd.H_grown (Kd.H_widen (by repeat (first | exact HH46.out | refine Kd.H_alloc ?_ _ | refine Kd.H_drewN ?_ _ | refine Kd.H_drew ?_))) hg (fun k_ e_ => .inl (UU46.out.1 k_ e_)))
   have n3_ := a0_ (ho)
   clear HI1197
   clear HB
   clear HH46
   clear HO_4
   clear UU46
   clear HL1221_3
   clear HL1222_3
   have HI1197 := n0_
   have HB := n1_
   have HH46 := n2_
   have HO1226 := n3_
   clear n0_ n1_ n2_ n3_
   clear ho hb hg hat
   have p41 := t0_ (t1210)
   have q41 := tl_ ((t1210 : Int)) ((t1203.length : Int))
   obtain ⟨Ao50, co50, eo50⟩ := Kd.R_slice HO1226.out
   (first | subst eo50 | (injection eo50 with f1_ f2_ f3_; have f4_ := f1_.symm; have f5_ := f3_.symm; clear f1_ f2_ f3_; subst f4_; subst f5_))
   obtain ⟨_, _, hraw48, _, _, hcc48, _⟩ := Kd.H_raw HH46.out (dec_) (by have h_ : (t1210 : Int) < ((t1203.length : Int) : Int) := dec_; first | exact h_ | (have e_ := (HN46.out); omega) | simpa using h_)
   obtain ⟨_, hfr48⟩ := Kd.H_at HH46.out (dec_) (by have h_ : (t1210 : Int) < ((t1203.length : Int) : Int) := dec_; first | exact h_ | (have e_ := (HN46.out); omega) | simpa using h_)
   have hx48_0 := hcc48 3 _ rfl
   have hf48_0 := hfr48 3
   (try rw [show (k83).sz = 4 from rfl] at hx48_0)
   (try rw [show (k83).sz = 4 from rfl] at hf48_0)
   have HP48 := Kd.S_seg0 HH46.out (dec_) (by have h_ : (t1210 : Int) < ((t1203.length : Int) : Int) := dec_; first | exact h_ | (have e_ := (HN46.out); omega) | simpa using h_) (seg := [.slice Ao50 y1224.length co50]) (j := 3) (show 4 ≤ 4 from by decide) (x' := (⟨(rd_T83 t1203 t1210).f0, (rd_T83 t1203 t1210).f1, (rd_T83 t1203 t1210).f2, y1224⟩ : S83)) (k83_mkM _ _ _ (⟨(rd_T83 t1203 t1210).f0, (rd_T83 t1203 t1210).f1, (rd_T83 t1203 t1210).f2, y1224⟩ : S83) HO1226.out) (fun _ hk => hk)
   clear hcc48 hfr48
   have HN1197_go46 := a0_ (show gb1197 ≠ go46 from by have h_ := IsS117.own_ne HI1197.out hraw48 (by decide); intro e_; exact h_ (by rw [e_]; rfl))
   have HS48 := HP48.1
   rw [← Ny1227.out] at HS48
   have HQ48 := a0_ HS48
   obtain ⟨_, hgg48⟩ := Kd.R_typed hraw48 go46 rfl
   have GG48_ := a0_ hgg48
   clear HP48 HS48 hgg48
   refine hK.out _ _ ?_
   clear hK K
   refine normS_ ?_
   refine p_ 16 45 ?_
   refine p_ 17 46 ?_
   refine last_ (i := 18) (N := none) #[true, true, true, true, true, true, true, true, true, true, true, true, true, true, true, true, true, true, true] rfl rfl (one_of HT_.out (by kernel_rfl)) (by decide) (fun K hK => ?_)
   refine skip_ (w1 := ?_) (by rfl) rfl ?_ ?_
   rotate_left
   · go_simp
     rfl
   refine hK.out _ _ ?_
   clear hK K
   refine done_ (done_of HT_.out (by kernel_rfl)) ?_
   try go_wp2
   go_ret
   exact ⟨_, rr_, kS_ HQ48.out, bq2_⟩
end Go.Proofs.YtiegkjimpclmaaaGreatDoor.P
namespace Go.Proofs.YtiegkjimpclmaaaGreatDoor.P
def encR (x : S45) : Value := .agg #[.string x.f0, .int .i64 x.f1, .int .i64 x.f2, .string x.f3]
def PredR (g : Nat) (cb : Array Value) (p : S45 → Bool) (xs : List (S45)) (w : World) : Prop :=
 ∀ (j : Nat) (x : S45), xs[j]? = some x → (∀ (i : Nat) (y : S45), i < j → xs[i]? = some y → p y = false) → ∀ W, Below w.heap.size w W → Calls Tryz.prog g (#[encR x] ++ cb) W fun e W' => e = .returned (.bool (p x)) ∧ Below W.heap.size W W'
theorem index_rec (A : Option Addr) (c : Nat) (xs : List (S45)) (g : Nat) (cb : Array Value) (p : S45 → Bool) (w : World) (hr : Kd.C k45 w A xs.length xs)
 (eg : ∀ args w, (callFunc g args).run Tryz.prog w = .ok (.enter g args) w) (hp : PredR g cb p xs w) :
 Calls Tryz.prog 180 #[.slice A xs.length c, .func (.func g) #[] cb] w fun e w' => e = .returned (.int .i64 (idxP p xs 0)) ∧ Below w.heap.size w w' := by
 have hbig : xs.length ≤ 9223372036854775807 := hr.2.1
 go_enter Tryz.func180, Tryz.ntmps180
 go_wp2
 go_loopg [5, 8] xs.length (fun gg _ s8 wr => ∃ kk : Nat, kk ≤ xs.length ∧ xs.length - kk ≤ gg ∧ s8 = .int .i64 kk ∧ Aside0 (Below w.heap.size w wr) ∧ Aside0 (∀ j y, j < kk → xs[j]? = some y → p y = false))
 case atStart => exact ⟨0, Nat.zero_le _, by omega, rfl, ⟨Below.refl _ w⟩, ⟨fun j y hj => absurd hj (Nat.not_lt_zero _)⟩⟩
 case round =>
  obtain ⟨kk, hkk, hg, rfl, BW, AA⟩ := hrel
  by_cases hlt : kk < xs.length
  · have hltz : (kk : Int) < (xs.length : Int) := by omega
    obtain ⟨ad, e0, hx0, hx1, hx2, hx3⟩ := at_T45 hr (kk : Int) (by omega) hltz
    cases e0
    have l0 := (BW.out.cell (World.block_lt_of_cell? _ _ hx0)).trans hx0
    have l1 := (BW.out.cell (World.block_lt_of_cell? _ _ hx1)).trans hx1
    have l2 := (BW.out.cell (World.block_lt_of_cell? _ _ hx2)).trans hx2
    have l3 := (BW.out.cell (World.block_lt_of_cell? _ _ hx3)).trans hx3
    clear hx0 hx1 hx2 hx3
    simp only [Int.toNat_natCast] at l0 l1 l2 l3
    have hmem : xs[kk]? = some (rd_T45 xs kk) := by
     rw [List.getElem?_eq_getElem hlt]; simp [rd_T45, List.getElem?_eq_getElem hlt]
    have hcall := hp kk (rd_T45 xs kk) hmem AA.out wr BW.out
    clear hp
    generalize hy : rd_T45 xs kk = y at l0 l1 l2 l3 hcall hmem
    have B := Aside0.mk hmem
    clear hmem hy
    have hkn : ((kk : Int)).toNat = kk := by omega
    unfold encR at hcall
    cases hq : p y with
    | true =>
     rw [hq] at hcall
     go_wp2_with (go_at_fn g; refine hcall.mono ?_; rintro e w' ⟨rfl, hb'⟩)
     go_ret
     refine ⟨?_, below_then BW.out BW.out.size hb'⟩
     rw [idxP_hit p xs 0 kk y B.out hq AA.out]
     simp
    | false =>
     rw [hq] at hcall
     go_wp2_with (go_at_fn g; refine hcall.mono ?_; rintro e w' ⟨rfl, hb'⟩)
     go_roundg (xs.length - (kk + 1))
     case measure => omega
     case rel =>
      refine ⟨kk + 1, by omega, by omega, by go_num, ⟨below_then BW.out BW.out.size hb'⟩, ⟨fun j z hj hz => ?_⟩⟩
      by_cases e : j = kk
      · subst e
        rw [B.out] at hz
        cases hz
        exact hq
      · exact AA.out j z (by omega) hz
  · have hltz : ¬ (kk : Int) < (xs.length : Int) := by omega
    have hm : idxP p xs 0 = -1 := idxP_miss p xs 0 (fun y hy => by obtain ⟨j, hj, e⟩ := List.mem_iff_getElem.1 hy; exact AA.out j y (by omega) (by rw [List.getElem?_eq_getElem hj, e]))
    have HM := Aside0.mk hm
    clear hm
    go_wp2
    go_ret
    exact ⟨by rw [HM.out]; rfl, BW.out⟩
theorem contains_rec (A : Option Addr) (c : Nat) (xs : List (S45)) (g : Nat) (cb : Array Value) (p : S45 → Bool) (w : World) (hr : Kd.C k45 w A xs.length xs)
 (eg : ∀ args w, (callFunc g args).run Tryz.prog w = .ok (.enter g args) w) (hp : PredR g cb p xs w) :
 Calls Tryz.prog 135 #[.slice A xs.length c, .func (.func g) #[] cb] w fun e w' => e = .returned (.bool (xs.any p)) ∧ Below w.heap.size w w' := by
 rw [← idxP_any p xs 0 (by omega)]
 go_enter Tryz.func135, Tryz.ntmps135
 go_wp2_with (go_at_call 180; refine (index_rec A c xs g cb p _ hr eg hp).mono ?_; rintro e w' ⟨rfl, hb'⟩)
 go_ret
 exact ⟨rfl, hb'⟩
def impl_areRecords.f (k : Nat) : List (S45) → Option Bool
 | [] => some true
 | x :: xs => (impl_GoodRecord.f k x.f0 x.f1 x.f2 x.f3).bind fun g => (if g = true then impl_areRecords.f k xs else some false)
def badP (k : Nat) (x : S45) : Bool := !((impl_GoodRecord.f k x.f0 x.f1 x.f2 x.f3).getD false)
theorem are_at (k : Nat) : ∀ (xs : List (S45)) (r : Bool), impl_areRecords.f k xs = some r → ∀ (j : Nat) (x : S45), xs[j]? = some x → (∀ (i : Nat) (y : S45), i < j → xs[i]? = some y → badP k y = false) → impl_GoodRecord.f k x.f0 x.f1 x.f2 x.f3 = some (!badP k x)
 | [], r, h, j, x, hj, hb => by simp at hj
 | z :: xs, r, h, j, x, hj, hb => by
  unfold impl_areRecords.f at h
  obtain ⟨g, hg, h⟩ := Option.bind_eq_some_iff.mp h
  cases j with
  | zero =>
   obtain rfl : z = x := by simpa using hj
   unfold badP
   rw [hg, Option.getD_some, Bool.not_not]
  | succ j =>
   have h0 := hb 0 z (by omega) (by simp)
   unfold badP at h0
   rw [hg, Option.getD_some] at h0
   have hgt : g = true := by cases g with
    | true => rfl
    | false => cases h0
   rw [if_pos hgt] at h
   exact are_at k xs r h j x (by simpa using hj) fun i y hi hy => hb (i + 1) y (by omega) (by simpa using hy)
theorem are_any (k : Nat) : ∀ (xs : List (S45)) (r : Bool), impl_areRecords.f k xs = some r → xs.any (badP k) = !r
 | [], r, h => by
  obtain rfl := Option.some.inj h
  rfl
 | z :: xs, r, h => by
  unfold impl_areRecords.f at h
  obtain ⟨g, hg, h⟩ := Option.bind_eq_some_iff.mp h
  rw [List.any_cons]
  unfold badP
  rw [hg, Option.getD_some]
  cases g with
  | true =>
   rw [if_pos rfl] at h
   exact are_any k xs r h
  | false =>
   rw [if_neg (by decide)] at h
   obtain rfl := Option.some.inj h
   rfl
set_option maxHeartbeats 4000000 in
theorem impl_areRecords.calls (k : Nat) (A0 : Option Addr) (c0 : Nat) (l0 : List (S45)) (r : Bool) (w : World) (hr0 : Kd.C k45 w A0 l0.length l0) (hc0 : l0.length ≤ c0) (h : impl_areRecords.f k l0 = some r)
 (hv_ : Vars w := by first | assumption | (refine Vars.below (Aside0.out (by assumption)) ?_; repeat (first | (with_reducible first | exact Below.refl _ _ | exact Aside0.out (by assumption) | apply below_alloc | apply pw_below_drewN | apply below_drew1) | exact Aside0.out (by assumption)))) :
 Calls Tryz.prog 74 #[.slice A0 l0.length c0] w fun e w' => e = .returned (.bool r) ∧ Below w.heap.size w w' := by
 have eg : ∀ args w, (callFunc 136 args).run Tryz.prog w = .ok (.enter 136 args) w := enters_of Tryz.func136 (by kernel_rfl) rfl
 have cc := contains_rec A0 c0 l0 136 #[] (badP k) w hr0 eg (fun j x hj hb W hW =>
  impl_areRecords_1.calls k x.f0 x.f1 x.f2 x.f3 (badP k x) W (by unfold impl_areRecords_1.f; rw [are_at k l0 r h j x hj hb, Option.bind_some, Bool.not_not]) (Vars.below hv_ hW))
 rw [are_any k l0 r h] at cc
 clear h hv_
 go_enter Tryz.func74, Tryz.ntmps74
 go_wp2_with (go_at_call 135; refine cc.mono ?_; rintro e w1 ⟨rfl, hb⟩)
 go_ret
 exact ⟨by simp, hb⟩
end Go.Proofs.YtiegkjimpclmaaaGreatDoor.P
namespace Go.Proofs.YtiegkjimpclmaaaGreatDoor.Pure
open Go.Proofs.YtiegkjimpclmaaaGreatDoor.P
set_option linter.unusedSectionVars false
theorem bt_mkB (x : List UInt8) (i : Nat) (h : i < x.length) : bt (mkB x) (i : Int) = ((x[i]).toNat : Int) := by
 rw [bt_list _ i (by rw [mkB_data]; exact h)]
 have : ∀ (l : List UInt8) (hl : l = x) (h1 : i < l.length), l[i] = x[i] := by rintro l rfl h1; rfl
 rw [this _ (mkB_data x)]
def failI : ByteArray × List Int × Int × Bool := ((⟨#[]⟩ : ByteArray), ([] : List Int), 0, false)
def byteAt (s : ByteArray) (a : Nat) : Nat := (bt s (a : Int)).toNat
theorem byteAt_bt (s : ByteArray) (a : Nat) : bt s (a : Int) = (byteAt s a : Int) := by
 have := bt_range s (a : Int)
 unfold byteAt
 omega
theorem byteAt_lt (s : ByteArray) (a : Nat) : byteAt s a ≤ 255 := by
 have := bt_range s (a : Int)
 unfold byteAt
 omega
theorem wN (n : Nat) (h : n < 4611686018427387904) : wrap64 (n : Int) = (n : Int) := by unfold wrap64; omega
def endOf (e : Int) (x : Nat) : Int := if e < 0 then (x : Int) else e
def plc (e : Int) (l : List Int) (a : Nat) : List Int := if e < 0 then l ++ [(a : Int)] else l
def ptrOf (s : ByteArray) (a : Nat) : Nat := (byteAt s a - 192) * 256 + byteAt s (a + 1)
section
variable (s : ByteArray) (hs : s.size ≤ 600)
include hs
theorem impl_out (k a : Nat) (L : List ByteArray) (p : List Int) (le e : Int) (h : s.size ≤ a ∨ 8 < L.length) : impl_takeName.l0 (k + 2) s (a : Int) L p le e = some failI := by
 have hj : impl_takeName.l0 (k + 2) s (a : Int) L p le e = impl_takeName.j1 (k + 1) s (a : Int) L p le e false := by
  conv => lhs; unfold impl_takeName.l0
  by_cases h1 : (a : Int) < (s.size : Int)
  · rw [if_pos h1, decide_eq_false (by omega)]
  · rw [if_neg h1]
 rw [hj]
 unfold impl_takeName.j1
 rw [if_neg (by simp)]
 rfl
theorem impl_in (k a : Nat) (L : List ByteArray) (p : List Int) (le e : Int) (h1 : a < s.size) (h2 : L.length ≤ 8) : impl_takeName.l0 (k + 2) s (a : Int) L p le e = impl_takeName.j1 (k + 1) s (a : Int) L p le e true := by
 conv => lhs; unfold impl_takeName.l0
 rw [if_pos (by omega), decide_eq_true (by omega)]
theorem impl_end (k a : Nat) (L : List ByteArray) (p : List Int) (le e : Int) (h1 : a < s.size) (h2 : L.length ≤ 8) (hv : byteAt s a = 0) :
 impl_takeName.l0 (k + 2) s (a : Int) L p le e = some ((nameR L).1, p, endOf e (a + 1), (nameR L).2) := by
 rw [impl_in s hs k a L p le e h1 h2]
 unfold impl_takeName.j1 endOf impl_NameOf.f
 rw [if_pos rfl, if_pos (by omega), if_pos (by omega), byteAt_bt, wN _ (by have := byteAt_lt s a; omega), hv, if_pos (by rfl), w64n (by omega)]
 by_cases he : e < 0
 · rw [if_pos he, if_pos he]; rfl
 · rw [if_neg he, if_neg he]; rfl
theorem impl_ptr_out (k a : Nat) (L : List ByteArray) (p : List Int) (le e : Int) (h1 : a < s.size) (h2 : L.length ≤ 8) (hv : 192 ≤ byteAt s a) (h3 : s.size ≤ a + 1) :
 impl_takeName.l0 (k + 2) s (a : Int) L p le e = some failI := by
 rw [impl_in s hs k a L p le e h1 h2]
 unfold impl_takeName.j1
 rw [if_pos rfl, if_pos (by omega), if_pos (by omega), byteAt_bt, wN _ (by have := byteAt_lt s a; omega), if_neg (by omega), if_pos (by omega), w64n (by omega), if_pos (by omega)]
 rfl
theorem impl_ptr (k a : Nat) (L : List ByteArray) (p : List Int) (le e : Int) (h1 : a < s.size) (h2 : L.length ≤ 8) (hv : 192 ≤ byteAt s a) (h3 : a + 1 < s.size) :
 impl_takeName.l0 (k + 2) s (a : Int) L p le e = if ((ptrOf s a : Nat) : Int) ≥ le then some failI else impl_takeName.l0 k s ((ptrOf s a : Nat) : Int) L p ((ptrOf s a : Nat) : Int) (endOf e (a + 2)) := by
 rw [impl_in s hs k a L p le e h1 h2]
 have b1 := byteAt_lt s a
 have b2 := byteAt_lt s (a + 1)
 have hw2 : wrap64 ((a : Int) + 2) = ((a + 2 : Nat) : Int) := by unfold wrap64; omega
 have hp : wrap64 ((wrap64 ((Int.tmod (byteAt s a : Int) 64) * 256)) + (byteAt s (a + 1) : Int)) = ((ptrOf s a : Nat) : Int) := by
  unfold ptrOf
  rw [Int.tmod_eq_emod_of_nonneg (by omega)]
  unfold wrap64
  omega
 conv => lhs; unfold impl_takeName.j1
 rw [if_pos rfl, if_pos (by omega), if_pos (by omega), byteAt_bt, wN _ (by omega), if_neg (by omega), if_pos (by omega), w64n (by omega), if_neg (by omega), byteAt_bt, wN (byteAt s (a + 1)) (by omega), hp, hw2]
 unfold endOf
 by_cases he : e < 0
 · rw [if_pos he, if_pos he, if_pos (by omega), if_pos (by omega)]; rfl
 · rw [if_neg he, if_neg he, if_pos (by omega), if_pos (by omega)]; rfl
theorem impl_lab_out (k a : Nat) (L : List ByteArray) (p : List Int) (le e : Int) (h1 : a < s.size) (h2 : L.length ≤ 8) (hv : 0 < byteAt s a) (hv2 : byteAt s a < 192) (h3 : 64 ≤ byteAt s a ∨ s.size < a + 1 + byteAt s a) :
 impl_takeName.l0 (k + 3) s (a : Int) L p le e = some failI := by
 rw [impl_in s hs (k + 1) a L p le e h1 h2]
 have b1 := byteAt_lt s a
 have hw2 : wrap64 (((a + 1 : Nat) : Int) + (byteAt s a : Int)) = ((a + 1 + byteAt s a : Nat) : Int) := by unfold wrap64; omega
 have hj : impl_takeName.j1 (k + 2) s (a : Int) L p le e true = impl_takeName.j2 (k + 1) s (a : Int) L p le e (byteAt s a : Int) true := by
  conv => lhs; unfold impl_takeName.j1
  rw [if_pos rfl, if_pos (by omega), if_pos (by omega), byteAt_bt, wN _ (by omega), if_neg (by omega), if_neg (by omega)]
  by_cases h64 : (byteAt s a : Int) ≥ 64
  · rw [if_pos h64]
  · rw [if_neg h64, w64n (by omega), hw2, decide_eq_true (by omega)]
 rw [hj]
 unfold impl_takeName.j2
 rw [if_pos rfl]
 rfl
theorem impl_lab (k a : Nat) (L : List ByteArray) (p : List Int) (le e : Int) (h1 : a < s.size) (h2 : L.length ≤ 8) (hp : p.length < 17592186044416) (hv : 0 < byteAt s a) (hv2 : byteAt s a < 64) (h3 : a + 1 + byteAt s a ≤ s.size) :
 impl_takeName.l0 (k + 3) s (a : Int) L p le e = impl_takeName.l0 k s ((a + 1 + byteAt s a : Nat) : Int) (L ++ [mkB (((s.data.toList.drop (a + 1)).take (byteAt s a)).map lowB)]) (plc e p a) le e := by
 rw [impl_in s hs (k + 1) a L p le e h1 h2]
 have hw2 : wrap64 (((a + 1 : Nat) : Int) + (byteAt s a : Int)) = ((a + 1 + byteAt s a : Nat) : Int) := by unfold wrap64; omega
 have hw3 : wrap64 ((a : Int) + (wrap64 (1 + (byteAt s a : Int)))) = ((a + 1 + byteAt s a : Nat) : Int) := by unfold wrap64; omega
 have hj : impl_takeName.j1 (k + 2) s (a : Int) L p le e true = impl_takeName.j2 (k + 1) s (a : Int) L p le e (byteAt s a : Int) false := by
  conv => lhs; unfold impl_takeName.j1
  rw [if_pos rfl, if_pos (by omega), if_pos (by omega), byteAt_bt, wN _ (by omega), if_neg (by omega), if_neg (by omega), if_neg (by omega), w64n (by omega), hw2, decide_eq_false (by omega)]
 rw [hj]
 have hsm : impl_small.f (s.extract (a + 1) (a + 1 + byteAt s a)) = some (mkB (((s.data.toList.drop (a + 1)).take (byteAt s a)).map lowB)) := by
  unfold impl_small.f
  rw [if_pos (by rw [ext_mkB, mkB_size, List.length_take]; omega), ext_mkB, mkB_data, show a + 1 + byteAt s a - (a + 1) = byteAt s a by omega]
 conv => lhs; unfold impl_takeName.j2
 unfold plc
 rw [if_neg (by simp), w64n (by omega), hw2, hw3, Int.toNat_natCast, Int.toNat_natCast, hsm]
 simp only [Option.bind_some]
 by_cases he : e < 0
 · rw [if_pos he, if_pos he, if_pos hp, if_pos (by omega), if_pos (by omega), if_pos (by omega), if_pos (by omega)]
 · rw [if_neg he, if_neg he, if_pos (by omega), if_pos (by omega), if_pos (by omega), if_pos (by omega)]
def rawL (s : ByteArray) (a : Nat) : List UInt8 := (s.data.toList.drop (a + 1)).take (byteAt s a)
end
end Go.Proofs.YtiegkjimpclmaaaGreatDoor.Pure
namespace Go.Proofs.YtiegkjimpclmaaaGreatDoor.Pure
open Go.Proofs.YtiegkjimpclmaaaGreatDoor.P
theorem num_in (l : List UInt8) (most : Int) (h : 0 ≤ most) : decide (0 ≤ numS l ∧ numS l ≤ most) = (canL l && decide ((valL l : Int) ≤ most)) := by
 unfold numS
 by_cases hc : canL l = true
 · rw [if_pos hc, hc, Bool.true_and, decide_eq_decide]
   omega
 · rw [if_neg hc, Bool.eq_false_iff.mpr hc, Bool.false_and, decide_eq_false_iff_not]
   omega
theorem num_ok {l : List UInt8} {most : Int} (h : (canL l && decide ((valL l : Int) ≤ most)) = true) : numS l = (valL l : Int) := by
 rw [Bool.and_eq_true] at h
 unfold numS
 rw [if_pos h.1]
theorem s1 (v : Int) : (strOfNums [v]).size = 1 := by rw [strOfNums_size]; rfl
theorem a_loops (parts : List ByteArray) (hl : parts.length < 1099511627776) (hs : ∀ x ∈ parts, x.size ≤ 1048576) : ∀ (m i : Nat) (out : ByteArray), i + m = parts.length → out.size + m < 1099511627777 →
 ∃ r, Ev (fun k => spec_l3Bytes.l0 k out parts parts (parts.length : Int) (i : Int)) r ∧ ((parts.length : Int) = 4 → Ev (fun k => impl_DataBytes.l0 k parts out (i : Int)) r) ∧ (¬ (parts.length : Int) = 4 → r.2 = false) ∧ (r.2 = false → r.1 = (⟨#[]⟩ : ByteArray) ∨ ¬ (parts.length : Int) = 4)
 | 0, i, out, him, ho => by
  refine ⟨(out, (parts.length : Int) == 4), Ev.step (f := fun _ => some (out, (parts.length : Int) == 4)) (fun k => ?_) (Ev.now _), fun h4 => ?_, fun h4 => beq_eq_false_iff_ne.mpr h4, fun h4 => .inr (beq_eq_false_iff_ne.mp h4)⟩
  · show spec_l3Bytes.l0 (k + 1) out parts parts (parts.length : Int) (i : Int) = _
    conv => lhs; unfold spec_l3Bytes.l0
    rw [if_neg (by omega)]
  · rw [h4]
    refine Ev.step (f := fun _ => some (out, true)) (fun k => ?_) (Ev.now _)
    show impl_DataBytes.l0 (k + 1) parts out (i : Int) = _
    conv => lhs; unfold impl_DataBytes.l0
    rw [if_neg (by omega)]
 | m + 1, i, out, him, ho => by
  have hi : i < parts.length := by omega
  have hsz := hs _ (List.getElem_mem hi)
  obtain ⟨v, hn1, hn2⟩ := number_eq parts[i] 255 (by omega) (by omega) (by omega)
  have hin := int_ev parts[i] (by omega)
  have es : ∀ k, spec_l3Bytes.l0 (k + 1) out parts parts (parts.length : Int) (i : Int) = (spec_l1Int.f k parts[i]).bind fun t135 => ((spec_l1In.f t135 0 255).bind fun t136 => (if t136 = true then ((spec_l3Number.f k t135 1).bind fun t137 => (if out.size + t137.size ≤ 9223372036854775807 then (spec_l3Bytes.l0 k (out ++ t137) parts parts (parts.length : Int) ((i + 1 : Nat) : Int)) else (none))) else (some ((⟨#[]⟩ : ByteArray), false)))) := fun k => by
   conv => lhs; unfold spec_l3Bytes.l0
   rw [if_pos (by omega), if_pos (by omega), if_pos (by omega), td_rd parts i hi, w64n (by omega)]
  have ei : (parts.length : Int) = 4 → ∀ k, impl_DataBytes.l0 (k + 1) parts out (i : Int) = if (canL parts[i].data.toList && decide ((valL parts[i].data.toList : Int) ≤ 255)) = true then ((impl_big.f k v 1).bind fun t => (if out.size + t.size ≤ 9223372036854775807 then impl_DataBytes.l0 k parts (out ++ t) ((i + 1 : Nat) : Int) else none)) else some badD := fun h4 k => by
   conv => lhs; unfold impl_DataBytes.l0
   rw [if_pos (by omega), if_pos (by omega), td_rd parts i hi, hn1, Option.bind_some, w64n (by omega)]
   simp only [if_pos h4]
  have hdec := num_in parts[i].data.toList 255 (by omega)
  by_cases hb : (canL parts[i].data.toList && decide ((valL parts[i].data.toList : Int) ≤ 255)) = true
  · have hv := hn2 hb
    have hnv := num_ok hb
    obtain ⟨r, g1, g2, g3, g4⟩ := a_loops parts hl hs m (i + 1) (out ++ strOfNums [v % 256]) (by omega) (by rw [ByteArray.size_append, s1]; omega)
    refine ⟨r, Ev.step es (Ev.bind hin ?_), fun h4 => Ev.step (ei h4) ?_, g3, g4⟩
    · simp only [within_spec, Option.bind_some, hdec, hb, if_true]
      rw [hnv, ← hv]
      refine Ev.bind (num1 v) ?_
      simp only [if_pos (show out.size + (strOfNums [v % 256]).size ≤ 9223372036854775807 by rw [s1]; omega)]
      exact g1
    · simp only [hb, if_true]
      refine Ev.bind (big1 v) ?_
      simp only [if_pos (show out.size + (strOfNums [v % 256]).size ≤ 9223372036854775807 by rw [s1]; omega)]
      exact g2 h4
  · refine ⟨badD, Ev.step es (Ev.bind hin ?_), fun h4 => Ev.step (ei h4) ?_, fun _ => rfl, fun _ => .inl rfl⟩
    · simp only [within_spec, Option.bind_some, hdec, if_neg hb]
      exact Ev.now _
    · simp only [if_neg hb]
      exact Ev.now _
theorem txt_loop (s : ByteArray) (hs : s.size ≤ 1048576) : ∀ (m i : Nat), i + m = s.size →
 Ev (fun k => spec_l3Bytes.l1 k s (i : Int)) (if ((bytesOf s).drop i).any (fun c => decide (c < 32) || decide (c > 126)) = true then badD else (strOfNums [((s.size : Int)) % 256] ++ s, decide ((s.size : Int) ≤ 30)))
 | 0, i, him => by
  have hlen : (bytesOf s).length = s.size := bytes_len s
  rw [List.drop_of_length_le (by omega), List.any_nil, if_neg (by simp)]
  refine Ev.step (f := fun _ => some _) (fun k => ?_) (Ev.now _)
  show spec_l3Bytes.l1 (k + 1) s (i : Int) = _
  conv => lhs; unfold spec_l3Bytes.l1
  rw [if_neg (by omega), Option.bind_some, if_pos (by rw [s1]; omega)]
 | m + 1, i, him => by
  have hlen : (bytesOf s).length = s.size := bytes_len s
  have hi : i < (bytesOf s).length := by omega
  have hb : bt s (i : Int) = (bytesOf s)[i] := by
   rw [← rd_bytesOf]
   unfold rd
   rw [Int.toNat_natCast, List.getD_eq_getElem?_getD, List.getElem?_eq_getElem hi]
   rfl
  rw [List.drop_eq_getElem_cons hi, List.any_cons]
  have e0 : ∀ k, spec_l3Bytes.l1 (k + 1) s (i : Int) = (if (bytesOf s)[i] < 32 then (some ((⟨#[]⟩ : ByteArray), false)) else (if (bytesOf s)[i] > 126 then (some ((⟨#[]⟩ : ByteArray), false)) else (spec_l3Bytes.l1 k s ((i + 1 : Nat) : Int)))) := fun k => by
   conv => lhs; unfold spec_l3Bytes.l1
   rw [if_pos (by omega), if_pos (by omega), hb, w64n (by omega)]
  have ih := txt_loop s hs m (i + 1) (by omega)
  by_cases h1 : (bytesOf s)[i] < 32
  · rw [decide_eq_true h1, Bool.true_or, Bool.true_or, if_pos rfl]
    refine Ev.step e0 ?_
    simp only [if_pos h1]
    exact Ev.now _
  · by_cases h2 : (bytesOf s)[i] > 126
    · rw [decide_eq_true h2, Bool.or_true, Bool.true_or, if_pos rfl]
      refine Ev.step e0 ?_
      simp only [if_neg h1, if_pos h2]
      exact Ev.now _
    · rw [decide_eq_false h1, decide_eq_false h2, Bool.or_false, Bool.false_or]
      refine Ev.step e0 ?_
      simp only [if_neg h1, if_neg h2]
      exact ih
theorem a_bad (parts : List ByteArray) (hp : 0 < parts.length) (h4 : ¬ (parts.length : Int) = 4) (hs : ∀ x ∈ parts, x.size ≤ 1048576) : Ev (fun k => impl_DataBytes.l0 k parts (⟨#[]⟩ : ByteArray) 0) badD := by
 obtain ⟨v, hn1, _⟩ := number_eq parts[0] 255 (by have := hs _ (List.getElem_mem hp); omega) (by omega) (by omega)
 refine Ev.step (f := fun _ => some badD) (fun k => ?_) (Ev.now _)
 show impl_DataBytes.l0 (k + 1) parts (⟨#[]⟩ : ByteArray) ((0 : Nat) : Int) = _
 conv => lhs; unfold impl_DataBytes.l0
 rw [if_pos (by omega), if_pos (by omega), td_rd parts 0 hp, hn1, Option.bind_some]
 simp only [if_neg h4]
 split <;> rfl
def specData (k : Nat) (kind : Int) (s : ByteArray) : Option (ByteArray × Bool) := (spec_l3Bytes.f k kind s).bind fun bt159 => (if bt159.2 = true then (some (bt159.1, true)) else (some ((⟨#[]⟩ : ByteArray), false)))
theorem spec_done {kind : Int} {s : ByteArray} {q : ByteArray × Bool} (h : Ev (fun k => spec_l3Bytes.f k kind s) q) : Ev (fun k => specData k kind s) (if q.2 = true then (q.1, true) else badD) := by
 refine Ev.congr (fun k => rfl) (Ev.bind h ?_)
 by_cases hq : q.2 = true
 · simp only [if_pos hq]; exact Ev.now _
 · simp only [if_neg hq]; exact Ev.now _
def DataEq (kind : Int) (s : ByteArray) : Prop := ∃ r, Ev (fun k => specData k kind s) r ∧ Ev (fun k => impl_DataBytes.f k kind s) r
theorem data_one (s : ByteArray) (hs : s.size ≤ 1048576) : DataEq 1 s := by
 have hne := splitL_ne 46 s.data.toList
 have hpl : 0 < ((splitL 46 s.data.toList).map mkB).length := by rw [List.length_map]; exact List.length_pos_iff.2 hne
 have hlen : ((splitL 46 s.data.toList).map mkB).length ≤ s.size + 1 := by rw [List.length_map, size_len]; exact splitL_len _ _
 have hsz : ∀ x ∈ (splitL 46 s.data.toList).map mkB, x.size ≤ 1048576 := by
  intro x hx
  obtain ⟨q, hq, rfl⟩ := List.mem_map.1 hx
  have := splitL_part 46 _ q hq
  rw [← size_len] at this
  rw [mkB_size]
  omega
 have hsp : strings_Split.f s (⟨#[46]⟩ : ByteArray) = some ((splitL 46 s.data.toList).map mkB) := by
  unfold strings_Split.f
  rw [if_pos (show (⟨#[46]⟩ : ByteArray).size = 1 from rfl), if_pos (by omega)]
  rfl
 generalize hp : (splitL 46 s.data.toList).map mkB = parts at hpl hlen hsz hsp
 have hse := split_ev s (by omega)
 rw [hp] at hse
 obtain ⟨r, g1, g2, g3, g4⟩ := a_loops parts (by omega) hsz parts.length 0 (⟨#[]⟩ : ByteArray) (by omega) (by show 0 + _ < _; omega)
 have hspec : Ev (fun k => spec_l3Bytes.f k 1 s) r := Ev.congr (f := fun k => (spec_l1Split.f k s 46).bind fun t131 => (spec_l3Bytes.l0 k (⟨#[]⟩ : ByteArray) t131 t131 (t131.length : Int) 0)) (fun k => by unfold spec_l3Bytes.f; rw [if_pos rfl]) (Ev.bind hse g1)
 have ei : ∀ k, impl_DataBytes.f k 1 s = impl_DataBytes.l0 k parts (⟨#[]⟩ : ByteArray) 0 := fun k => by
  unfold impl_DataBytes.f
  rw [if_pos rfl, hsp, Option.bind_some]
 by_cases h4 : (parts.length : Int) = 4
 · refine ⟨r, ?_, Ev.congr ei (g2 h4)⟩
   have hd := spec_done hspec
   by_cases hr : r.2 = true
   · rw [if_pos hr] at hd
     have : (r.1, true) = r := Prod.ext rfl hr.symm
     rwa [this] at hd
   · rw [if_neg hr] at hd
     have hf := Bool.eq_false_iff.mpr hr
     have : badD = r := by
      rcases g4 hf with e | e
      · exact Prod.ext e.symm hf.symm
      · exact absurd h4 e
     rwa [this] at hd
 · refine ⟨badD, ?_, Ev.congr ei (a_bad parts hpl h4 hsz)⟩
   have hd := spec_done hspec
   rwa [g3 h4, if_neg (by simp)] at hd
theorem targ_good {l : List UInt8} (h : targL l = true) : goodL l = true := by
 unfold targL at h
 simp only [Bool.and_eq_true] at h
 exact h.2.1
theorem nb_targ (s : ByteArray) (h : targL s.data.toList = true) : ∃ r, Ev (fun k => impl_labelBytes.f k s) r ∧ Ev (fun k => spec_l2Bytes.f k s) (r ++ (⟨#[0]⟩ : ByteArray)) ∧ r.size ≤ 61 := by
 have hg := targ_good h
 obtain ⟨r, e1, e2, e3⟩ := nb_both s hg
 have := good_size hg
 rw [← size_len] at this
 exact ⟨r, e1, e2, by rw [e3]; split <;> omega⟩
theorem data_name (kind : Int) (hk : kind = 2 ∨ kind = 5) (s : ByteArray) (hs : s.size ≤ 1048576) : DataEq kind s := by
 have k1 : ¬ kind = 1 := by omega
 have hj : ∀ k, spec_l3Bytes.f k kind s = spec_l3Bytes.j1 k s kind true := fun k => by
  unfold spec_l3Bytes.f
  rw [if_neg k1]
  rcases hk with rfl | rfl
  · rw [if_pos rfl]; rfl
  · rw [if_neg (by omega)]; rfl
 have ei : ∀ k, impl_DataBytes.f k kind s = dataNs k s := fun k => by
  unfold impl_DataBytes.f
  rw [if_neg k1, if_pos hk]
 have et := target_impl s
 by_cases ht : targL s.data.toList = true
 · obtain ⟨r, e1, e2, e3⟩ := nb_targ s ht
   have hz : (r ++ (⟨#[0]⟩ : ByteArray)).size = r.size + 1 := by rw [ByteArray.size_append]; rfl
   refine ⟨(r ++ (⟨#[0]⟩ : ByteArray), true), ?_, ?_⟩
   · have : Ev (fun k => spec_l3Bytes.f k kind s) (r ++ (⟨#[0]⟩ : ByteArray), true) := by
      refine Ev.congr hj (Ev.step (f := fun k => (spec_l3Target.f k s).bind fun t138 => (if t138 = true then ((spec_l2Bytes.f k s).bind fun t139 => (some (t139, true))) else (some ((⟨#[]⟩ : ByteArray), false)))) (fun k => rfl) (Ev.bind (target_spec s hs) ?_))
      simp only [if_pos ht]
      exact Ev.bind e2 (Ev.now _)
     have hd := spec_done this
     rwa [if_pos rfl] at hd
   · refine Ev.congr ei ?_
     unfold dataNs
     simp only [et, Option.bind_some, if_pos ht]
     refine Ev.bind e1 ?_
     simp only [if_pos (show r.size + 1 ≤ 9223372036854775807 by omega)]
     exact Ev.now _
 · refine ⟨badD, ?_, ?_⟩
   · have : Ev (fun k => spec_l3Bytes.f k kind s) badD := by
      refine Ev.congr hj (Ev.step (f := fun k => (spec_l3Target.f k s).bind fun t138 => (if t138 = true then ((spec_l2Bytes.f k s).bind fun t139 => (some (t139, true))) else (some ((⟨#[]⟩ : ByteArray), false)))) (fun k => rfl) (Ev.bind (target_spec s hs) ?_))
      simp only [if_neg ht]
      exact Ev.now _
     exact spec_done this
   · refine Ev.congr ei ?_
     unfold dataNs
     simp only [et, Option.bind_some, if_neg ht]
     exact Ev.now _
theorem spec_j (kind : Int) (h1 : ¬ kind = 1) (h2 : ¬ kind = 2) (h5 : ¬ kind = 5) (s : ByteArray) (k : Nat) : spec_l3Bytes.f k kind s = spec_l3Bytes.j1 k s kind false := by
 unfold spec_l3Bytes.f
 rw [if_neg h1, if_neg h2, show (kind == 5) = false from beq_eq_false_iff_ne.mpr h5]
theorem data_serial (s : ByteArray) (hs : s.size ≤ 1048576) : DataEq 6 s := by
 obtain ⟨v, hn1, hn2⟩ := number_eq s 4294967295 (by omega) (by omega) (by omega)
 have hin := int_ev s (by omega)
 have hdec := num_in s.data.toList 4294967295 (by omega)
 have ei : ∀ k, impl_DataBytes.f k 6 s = dataSoa k s := fun k => by
  unfold impl_DataBytes.f
  rw [if_neg (by omega), if_neg (by omega), if_pos rfl]
 have hspec : Ev (fun k => spec_l3Bytes.f k 6 s) (strOfNums [numS s.data.toList / 16777216 % 256, numS s.data.toList / 65536 % 256, numS s.data.toList / 256 % 256, numS s.data.toList % 256], canL s.data.toList && decide ((valL s.data.toList : Int) ≤ 4294967295)) := by
  refine Ev.congr (fun k => spec_j 6 (by omega) (by omega) (by omega) s k) (Ev.step (f := fun k => (spec_l1Int.f k s).bind fun t140 => ((spec_l3Number.f k t140 4).bind fun t141 => ((spec_l1In.f t140 0 4294967295).bind fun t142 => (some (t141, t142))))) (fun k => rfl) (Ev.bind hin (Ev.bind (num4 _) ?_)))
  simp only [within_spec, Option.bind_some, hdec]
  exact Ev.now _
 have hd := spec_done hspec
 by_cases hb : (canL s.data.toList && decide ((valL s.data.toList : Int) ≤ 4294967295)) = true
 · have hv := hn2 hb
   have hnv := num_ok hb
   rw [if_pos hb, hnv, ← hv] at hd
   refine ⟨_, hd, Ev.congr ei ?_⟩
   unfold dataSoa
   simp only [hn1, Option.bind_some, if_pos hb]
   exact Ev.bind (big4 v) (Ev.now _)
 · rw [if_neg hb] at hd
   refine ⟨_, hd, Ev.congr ei ?_⟩
   unfold dataSoa
   simp only [hn1, Option.bind_some, if_neg hb]
   exact Ev.now _
theorem data_text (s : ByteArray) (hs : s.size ≤ 1048576) : DataEq 16 s := by
 have ei : ∀ k, impl_DataBytes.f k 16 s = dataTxt k s := fun k => by
  unfold impl_DataBytes.f
  rw [if_neg (by omega), if_neg (by omega), if_neg (by omega), if_neg (by omega), if_pos rfl]
 have hspec : Ev (fun k => spec_l3Bytes.f k 16 s) (if (bytesOf s).any (fun c => decide (c < 32) || decide (c > 126)) = true then badD else (strOfNums [((s.size : Int)) % 256] ++ s, decide ((s.size : Int) ≤ 30))) :=
  Ev.congr (fun k => spec_j 16 (by omega) (by omega) (by omega) s k) (Ev.step (f := fun k => spec_l3Bytes.l1 k s 0) (fun k => rfl) (txt_loop s hs s.size 0 (by omega)))
 have hd := spec_done hspec
 by_cases hb : (bytesOf s).any (fun c => decide (c < 32) || decide (c > 126)) = true
 · rw [if_pos hb] at hd
   refine ⟨_, hd, Ev.congr ei ?_⟩
   unfold dataTxt
   by_cases h30 : (s.size : Int) > 30
   · simp only [if_pos h30]; exact Ev.now _
   · simp only [if_neg h30, if_pos hb]; exact Ev.now _
 · rw [if_neg hb] at hd
   by_cases h30 : (s.size : Int) > 30
   · rw [decide_eq_false (show ¬ (s.size : Int) ≤ 30 by omega), if_neg (by simp)] at hd
     refine ⟨_, hd, Ev.congr ei ?_⟩
     unfold dataTxt
     simp only [if_pos h30]; exact Ev.now _
   · rw [decide_eq_true (show (s.size : Int) ≤ 30 by omega), if_pos rfl] at hd
     refine ⟨_, hd, Ev.congr ei ?_⟩
     unfold dataTxt
     simp only [if_neg h30, if_neg hb]
     refine Ev.bind (big1 _) ?_
     simp only [if_pos (show (strOfNums [(s.size : Int) % 256]).size + s.size ≤ 9223372036854775807 by rw [s1]; omega)]
     exact Ev.now _
theorem space_bad {r : List UInt8} (h : 32 ∈ r) : targL r = false := by
 rw [Bool.eq_false_iff]
 intro ht
 have hg := good_all (targ_good ht)
 have hne : r ≠ [] := by rintro rfl; cases h
 obtain ⟨p, hp, hb⟩ := (split_mem r 32 (by decide)).1 h
 have := hg.2 p (by unfold labelsL; rw [if_neg hne]; exact hp)
 unfold isLabelL at this
 rw [Bool.or_eq_true, beq_iff_eq, Bool.and_eq_true, List.all_eq_true] at this
 rcases this with e | e
 · rw [e] at hb; simp at hb
 · exact absurd (e.2 32 hb) (by decide)
theorem data_mail (s : ByteArray) (hs : s.size ≤ 1048576) : DataEq 15 s := by
 have ei : ∀ k, impl_DataBytes.f k 15 s = dataMx k s := fun k => by
  unfold impl_DataBytes.f
  rw [if_neg (by omega), if_neg (by omega), if_neg (by omega), if_pos rfl]
 have hse := split32_ev s (by omega)
 have hj : ∀ {q : ByteArray × Bool}, Ev (fun k => (spec_l1Split.f k s 32).bind fun t143 => (if (t143.length : Int) = 2 then (if 0 < (t143.length : Int) then ((spec_l1Int.f k (rdOf ByteArray.empty t143 0)).bind fun t147 => ((spec_l1In.f t147 0 65535).bind fun t148 => (if t148 = true then (if 1 < (t143.length : Int) then ((spec_l3Target.f k (rdOf ByteArray.empty t143 1)).bind fun t150 => (spec_l3Bytes.j2 k t143 (!t150))) else (none)) else (spec_l3Bytes.j2 k t143 true)))) else (none)) else (spec_l3Bytes.j2 k t143 true))) q → Ev (fun k => spec_l3Bytes.f k 15 s) q := fun h =>
  Ev.congr (fun k => spec_j 15 (by omega) (by omega) (by omega) s k) (Ev.step (fun k => rfl) h)
 have jbad : ∀ l, Ev (fun k => spec_l3Bytes.j2 k l true) badD := fun l => Ev.step (f := fun _ => some badD) (fun k => rfl) (Ev.now _)
 have hcutI : ∀ p r, s.data.toList = p ++ 32 :: r → (∀ x ∈ p, x ≠ 32) → strings_Cut.f s (⟨#[32]⟩ : ByteArray) = some (mkB p, mkB r, true) := by
  intro p r h1 h2
  have hix : Lib.indexByte s.data.toList 32 = (p.length : Int) := by
   rcases place_or 32 s.data.toList with ⟨_, g2⟩ | ⟨p', r', g1, g2, g3⟩
   · exact absurd rfl (g2 32 (by rw [h1]; simp))
   · have e : p' :: splitL 32 r' = p :: splitL 32 r := by rw [← splitL_hit 32 p' r' g2, ← g1, h1, splitL_hit 32 p r h2]
     rw [g3, (List.cons.inj e).1]
  have hl : p.length + (r.length + 1) = s.size := by rw [size_len, h1]; simp
  unfold strings_Cut.f stringslite_Cut.f internal_stringslite_Index.f
  rw [if_pos (show (⟨#[32]⟩ : ByteArray).size = 1 from rfl)]
  simp only [Option.bind_some]
  rw [show List.headD (⟨#[32]⟩ : ByteArray).data.toList 0 = 32 from rfl, show (⟨#[32]⟩ : ByteArray).size = 1 from rfl, hix, show (((1 : Nat) : Int)) = 1 from rfl, w64n (by omega), if_pos (by omega), if_pos (by omega), if_pos (by omega), if_pos (by omega), if_pos (by omega), Int.toNat_natCast, Int.toNat_natCast, ext_mkB, ext_end]
  have e1 : (s.data.toList.drop 0).take (p.length - 0) = p := by rw [h1]; simp
  have e2 : s.data.toList.drop (p.length + 1) = r := by
   rw [h1, show p ++ 32 :: r = (p ++ [32]) ++ r by simp, List.drop_append_of_le_length (by simp), List.drop_of_length_le (by simp), List.nil_append]
  rw [e1, e2]
  rfl
 rcases place_or 32 s.data.toList with ⟨h1, h2⟩ | ⟨p, r, h1, h2, h3⟩
 · -- no space
   refine ⟨badD, ?_, Ev.congr ei ?_⟩
   · refine spec_done (q := badD) (hj (Ev.bind hse ?_))
     rw [splitL_none _ _ h2]
     simp only [List.map_cons, List.map_nil, List.length_cons, List.length_nil]
     exact jbad _
   · have hcut : strings_Cut.f s (⟨#[32]⟩ : ByteArray) = some (s, (⟨#[]⟩ : ByteArray), false) := by
      unfold strings_Cut.f stringslite_Cut.f internal_stringslite_Index.f
      rw [if_pos (show (⟨#[32]⟩ : ByteArray).size = 1 from rfl)]
      simp only [Option.bind_some]
      rw [show List.headD (⟨#[32]⟩ : ByteArray).data.toList 0 = 32 from rfl, h1, if_neg (by omega)]
      rfl
     obtain ⟨v, hn1, _⟩ := number_eq s 65535 (by omega) (by omega) (by omega)
     unfold dataMx
     simp only [hcut, Option.bind_some, hn1, target_impl]
     have : targL (⟨#[]⟩ : ByteArray).data.toList = false := rfl
     rw [this]
     refine Ev.congr (f := fun _ => some badD) (fun k => ?_) (Ev.now _)
     split <;> rfl
 · have hcut := hcutI p r h1 h2
   have hsl : splitL 32 s.data.toList = p :: splitL 32 r := by rw [h1]; exact splitL_hit 32 p r h2
   have hsz : p.length + r.length + 1 = s.size := by rw [size_len, h1]; simp; omega
   obtain ⟨v, hn1, hn2⟩ := number_eq (mkB p) 65535 (by rw [mkB_size]; omega) (by omega) (by omega)
   rw [mkB_data] at hn1 hn2
   have hei : ∀ k, dataMx k s = (if (canL p && decide ((valL p : Int) ≤ 65535)) = true then (if targL r = true then ((impl_big.f k v 2).bind fun g => ((impl_labelBytes.f k (mkB r)).bind fun lb => (if g.size + lb.size ≤ 9223372036854775807 then (if g.size + lb.size + 1 ≤ 9223372036854775807 then some ((g ++ lb) ++ (⟨#[0]⟩ : ByteArray), true) else none) else none))) else some badD) else some badD) := fun k => by
    unfold dataMx
    simp only [hcut, Option.bind_some, hn1, target_impl, mkB_data]
   have hdec := num_in p 65535 (by omega)
   have hin := int_ev (mkB p) (by rw [mkB_size]; omega)
   rw [mkB_data] at hin
   rcases place_or 32 r with ⟨_, r2⟩ | ⟨p', r', r1, _, _⟩
   · -- two parts
     rw [hsl, splitL_none _ _ r2] at hse
     simp only [List.map_cons, List.map_nil] at hse
     have htg := target_spec (mkB r) (by rw [mkB_size]; omega)
     rw [mkB_data] at htg
     by_cases hb : (canL p && decide ((valL p : Int) ≤ 65535)) = true
     · by_cases ht : targL r = true
       · have hv := hn2 hb
         have hnv := num_ok hb
         obtain ⟨lb, e1, e2, e3⟩ := nb_targ (mkB r) (by rw [mkB_data]; exact ht)
         have g2s : (strOfNums [v / 256 % 256, v % 256]).size = 2 := by rw [strOfNums_size]; rfl
         refine ⟨((strOfNums [v / 256 % 256, v % 256] ++ lb) ++ (⟨#[0]⟩ : ByteArray), true), ?_, Ev.congr ei (Ev.congr hei ?_)⟩
         · have : Ev (fun k => spec_l3Bytes.f k 15 s) ((strOfNums [v / 256 % 256, v % 256] ++ lb) ++ (⟨#[0]⟩ : ByteArray), true) := by
            refine hj (Ev.bind hse ?_)
            simp only [List.length_cons, List.length_nil, show ((0 + 1 + 1 : Nat) : Int) = 2 from rfl, if_true, if_pos (show (0 : Int) < 2 by omega), if_pos (show (1 : Int) < 2 by omega)]
            refine Ev.bind (a := numS p) hin ?_
            simp only [within_spec, Option.bind_some, hdec, hb, if_true]
            refine Ev.bind (a := true) (by rw [← ht]; exact htg) ?_
            refine Ev.step (f := fun k => (spec_l1Int.f k (mkB p)).bind fun t152 => ((spec_l3Number.f k t152 2).bind fun t153 => ((spec_l2Bytes.f k (mkB r)).bind fun t155 => (if t153.size + t155.size ≤ 9223372036854775807 then (some (t153 ++ t155, true)) else (none))))) (fun k => rfl) (Ev.bind hin ?_)
            rw [hnv, ← hv]
            refine Ev.bind (num2 v) (Ev.bind e2 ?_)
            rw [← ByteArray.append_assoc]
            simp only [if_pos (show (strOfNums [v / 256 % 256, v % 256]).size + (lb ++ (⟨#[0]⟩ : ByteArray)).size ≤ 9223372036854775807 by rw [g2s, ByteArray.size_append]; show 2 + (lb.size + 1) ≤ _; omega)]
            exact Ev.now _
           have hd := spec_done this
           rwa [if_pos rfl] at hd
         · simp only [hb, ht, if_true]
           refine Ev.bind (big2 v) (Ev.bind e1 ?_)
           simp only [g2s, if_pos (show 2 + lb.size ≤ 9223372036854775807 by omega), if_pos (show 2 + lb.size + 1 ≤ 9223372036854775807 by omega)]
           exact Ev.now _
       · refine ⟨badD, ?_, Ev.congr ei (Ev.congr hei ?_)⟩
         · refine spec_done (q := badD) (hj (Ev.bind hse ?_))
           simp only [List.length_cons, List.length_nil, show ((0 + 1 + 1 : Nat) : Int) = 2 from rfl, if_true, if_pos (show (0 : Int) < 2 by omega), if_pos (show (1 : Int) < 2 by omega)]
           refine Ev.bind (a := numS p) hin ?_
           simp only [within_spec, Option.bind_some, hdec, hb, if_true]
           refine Ev.bind (a := false) (by rw [← Bool.eq_false_iff.mpr ht]; exact htg) ?_
           exact jbad _
         · simp only [hb, if_neg ht, if_true]
           exact Ev.now _
     · refine ⟨badD, ?_, Ev.congr ei (Ev.congr hei ?_)⟩
       · refine spec_done (q := badD) (hj (Ev.bind hse ?_))
         simp only [List.length_cons, List.length_nil, show ((0 + 1 + 1 : Nat) : Int) = 2 from rfl, if_true, if_pos (show (0 : Int) < 2 by omega), if_pos (show (1 : Int) < 2 by omega)]
         refine Ev.bind (a := numS p) hin ?_
         simp only [within_spec, Option.bind_some, hdec, if_neg hb]
         exact jbad _
       · simp only [if_neg hb]
         exact Ev.now _
   · -- more parts
     have htf := space_bad (r := r) (by rw [r1]; simp)
     refine ⟨badD, ?_, Ev.congr ei (Ev.congr hei ?_)⟩
     · refine spec_done (q := badD) (hj (Ev.bind hse ?_))
       have hl : ¬ (((splitL 32 s.data.toList).map mkB).length : Int) = 2 := by
        rw [List.length_map, hsl, r1, splitL_hit 32 p' r' (by assumption)]
        have := List.length_pos_iff.2 (splitL_ne 32 r')
        simp only [List.length_cons]
        omega
       simp only [if_neg hl]
       exact jbad _
     · simp only [htf, Bool.false_eq_true, if_false]
       refine Ev.congr (f := fun _ => some badD) (fun k => ?_) (Ev.now _)
       split <;> rfl
theorem data_both (kind : Int) (s : ByteArray) (hs : s.size ≤ 1048576) : DataEq kind s := by
 by_cases c1 : kind = 1
 · subst c1; exact data_one s hs
 · by_cases c2 : kind = 2 ∨ kind = 5
   · exact data_name kind c2 s hs
   · by_cases c6 : kind = 6
     · subst c6; exact data_serial s hs
     · by_cases c15 : kind = 15
       · subst c15; exact data_mail s hs
       · by_cases c16 : kind = 16
         · subst c16; exact data_text s hs
         · refine ⟨badD, ?_, Ev.congr (f := fun _ => some badD) (fun k => ?_) (Ev.now _)⟩
           · refine spec_done (q := badD) (Ev.congr (fun k => spec_j kind c1 (fun e => c2 (.inl e)) (fun e => c2 (.inr e)) s k) (Ev.step (f := fun _ => some badD) (fun k => ?_) (Ev.now _)))
             show spec_l3Bytes.j1 (k + 1) s kind false = some badD
             simp [spec_l3Bytes.j1, c6, c15, c16, badD]
           · unfold impl_DataBytes.f
             rw [if_neg c1, if_neg c2, if_neg c6, if_neg c15, if_neg c16]
end Go.Proofs.YtiegkjimpclmaaaGreatDoor.Pure
