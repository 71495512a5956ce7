/- FnSets: part 6 of 15 of my texts for this claim, joined; the theorem stands in the last. Conditions: none beyond the statement's. -/
import Derived.Test.YtiegkjimpclmaaaGreatDoorMFnSetsx4
import Derived.Laws.BitsAllLaws
open Go.RowKit Go.Proofs.YtiegkjimpclmaaaGreatDoorW.PrintWords Go.Proofs.YtiegkjimpclmaaaGreatDoorW.PrintLast Go.Proofs.YtiegkjimpclmaaaGreatDoorW.PrintMore
set_option linter.unusedVariables false
set_option linter.unusedSimpArgs false
set_option maxHeartbeats 8000000
set_option maxRecDepth 100000
namespace Go.Proofs.YtiegkjimpclmaaaGreatDoor.P
attribute [local go_sem] max2_int min2_int max_two min_two max_three min_three max_four min_four
mutual
def laws_sameSets.l0 : Nat → List (S83) → List (S83) → Int → Int → Option (Bool)
 | 0, _, _, _, _ => none
 | k + 1, x0, x1, x12, x13 => if x13 < x12 then (if 0 ≤ x13 then (if x13 < (x0.length : Int) then (if x13 < (x1.length : Int) then (if ((rd_T83 x0 x13).f0).toList = ((rd_T83 x1 x13).f0).toList then (if ((rd_T83 x0 x13).f1) = ((rd_T83 x1 x13).f1) then (if ((rd_T83 x0 x13).f2) = ((rd_T83 x1 x13).f2) then ((laws_sameTexts.f k ((rd_T83 x0 x13).f3) ((rd_T83 x1 x13).f3)).bind fun t1196 => (laws_sameSets.j1 k x0 x1 x12 x13 (!t1196))) else (laws_sameSets.j1 k x0 x1 x12 x13 true)) else (laws_sameSets.j1 k x0 x1 x12 x13 true)) else (laws_sameSets.j1 k x0 x1 x12 x13 true)) else (none)) else (none)) else (none)) else (some true)
def laws_sameSets.j1 : Nat → List (S83) → List (S83) → Int → Int → Bool → Option (Bool)
 | 0, _, _, _, _, _ => none
 | k + 1, x0, x1, x12, x13, x66 => if x66 = true then (some false) else (laws_sameSets.l0 k x0 x1 x12 (wrap64 (x13 + 1)))
end
def laws_sameSets.f (k : Nat) (l0 : List (S83)) (l1 : List (S83)) : Option (Bool) := if (l0.length : Int) = (l1.length : Int) then (laws_sameSets.l0 k l0 l1 (l0.length : Int) 0) else (some false)
def laws_sameSets.T6 : Bool × List (List Nat × List Nat) := (true, [([], []), ([], []), ([0, 1], [0, 1]), ([2], [2]), ([3], [3]), ([], []), ([], []), ([5, 6], [5, 6]), ([7], [7]), ([8], [8]), ([4, 9], [4, 9]), ([10], [10]), ([11], [11]), ([11], [11]), ([12, 13, 11], [11, 12, 13]), ([14, 11], [11, 14]), ([15, 11], [11, 15]), ([11], [11]), ([11], [11]), ([17, 18, 11], [11, 17, 18]), ([19, 11], [11, 19]), ([20, 11], [11, 20]), ([16, 21, 11], [11, 16, 21]), ([11, 22], [11, 22]), ([23, 11], [23]), ([24], [24]), ([24], [24]), ([25, 26, 24], [24, 25, 26]), ([27, 24], [24, 27]), ([28, 24], [24, 28]), ([24], [24]), ([24], [24]), ([30, 31, 24], [24, 30, 31]), ([32, 24], [24, 32]), ([33, 24], [24, 33]), ([29, 34, 24], [24, 29, 34]), ([24, 35], [24, 35]), ([36, 24], [36]), ([37], [37]), ([37], [37]), ([38, 39, 37], [37, 38, 39]), ([40, 37], [37, 40]), ([41, 37], [37, 41]), ([37], [37]), ([37], [37]), ([43, 44, 37], [37, 43, 44]), ([45, 37], [37, 45]), ([46, 37], [37, 46]), ([42, 47, 37, 37], [37, 42, 47]), ([48, 37], [37, 48]), ([37, 49], [37, 49])])
def laws_sameSets.B6 : List Nat := [0, 0, 3, 7, 15, 0, 0, 96, 224, 480, 1023, 2047, 4095, 4095, 16383, 32767, 65535, 4095, 4095, 397311, 921599, 1970175, 4194303, 8388607, 16777215, 33554431, 33554431, 134217727, 268435455, 536870911, 33554431, 33554431, 3254779903, 7549747199, 16139681791, 34359738367, 68719476735, 137438953471, 274877906943, 274877906943, 1099511627775, 2199023255551, 4398046511103, 274877906943, 274877906943, 26663156973567, 61847529062399, 132216273240063, 281474976710655, 562949953421311, 1125899906842623]
theorem laws_sameSets.tab6 : rtab .any (opsOf Tryz.f46 6) = laws_sameSets.T6 := by kernel_rfl
theorem laws_sameSets.bits6 : waitsOk laws_sameSets.T6.2 laws_sameSets.B6 = true := by kernel_rfl
theorem laws_sameSets.calls (k : Nat) (A0 : Option Addr) (c0 : Nat) (l0 : List (S83)) (A1 : Option Addr) (c1 : Nat) (l1 : List (S83)) (r : Bool) (w : World) (hr0 : Kd.C k83 w A0 l0.length l0) (hc0 : l0.length ≤ c0) (hr1 : Kd.C k83 w A1 l1.length l1) (hc1 : l1.length ≤ c1) (h : laws_sameSets.f k l0 l1 = some r) :
 Calls Tryz.prog 46 #[.slice A0 l0.length c0, .slice A1 l1.length c1] w fun e w' => e = .returned (.bool r) ∧ Below w.heap.size w w' := by
 have HR0 := a0_ hr0
 have HC0 := a0_ hc0
 clear hr0 hc0
 have HR1 := a0_ hr1
 have HC1 := a0_ hc1
 clear hr1 hc1
 have HB := a0_ (Below.refl w.heap.size w)
 have H := h
 clear h
 unfold laws_sameSets.f at H
 by_cases c3 : (l0.length : Int) = (l1.length : Int)
 case neg =>
  rw [if_neg c3] at H
  have c3b0 := beq_eq_false_iff_ne.mpr c3
  have c3b1 := bne_iff_ne.mpr c3
  have c3b2 : (l0.length == l1.length) = false := by first | simpa using c3 | (simp at c3 ⊢; omega)
  obtain rfl := Option.some.inj H
  go_enter Tryz.func46, Tryz.ntmps46
  go_wp2
  go_ret
  exact ⟨rr_, bq0_⟩
 rw [if_pos c3] at H
 have c3b0 := beq_iff_eq.mpr c3
 have c3b1 := bne_eq_false_iff_eq.mpr c3
 have c3b2 : (l0.length == l1.length) = true := by first | simpa using c3 | (simp at c3 ⊢; omega)
 clear c3
 have H' := a0_ H
 clear H
 go_enter Tryz.func46, Tryz.ntmps46
 go_wp2
 go_loopg [13] k (fun kq v13 w' => ∃ (x13_1 : Int), v13 = .int .i64 x13_1 ∧ Aside0 (laws_sameSets.l0 kq l0 l1 (l0.length : Int) x13_1 = some r) ∧ Aside0 (kq ≤ k) ∧ Aside0 (Below w.heap.size w w'))
 case atStart => exact ⟨(0), rs_, H', ⟨Nat.le_refl _⟩, ⟨bq0_⟩⟩
 case round =>
  clear H'
  try clear c1
  try clear c3
  try clear c3b0
  try clear c3b1
  try clear c3b2
  obtain ⟨x13_1, rfl, HA, HK1, HB⟩ := hrel
  cases gk with
  | zero => exact absurd HA.out (by simp [laws_sameSets.l0])
  | succ k1 =>
   have H := HA.out
   clear HA
   simp only [laws_sameSets.l0] at H
   by_cases c4 : x13_1 < (l0.length : Int)
   case neg =>
    rw [if_neg c4] at H
    have c4b0 := decide_eq_false c4
    clear c4
    obtain rfl := Option.some.inj H
    go_wp2
    go_ret
    exact ⟨rr_, bq0_⟩
   rw [if_pos c4] at H
   have c4b0 := decide_eq_true c4
   clear c4
   have HC5 := a0_ H
   clear H
   go_upto_region 6 with (fail)
   go_cut [66] (fun v66 wc => ∃ (kq : Nat) (x66_4 : Bool), v66 = .bool x66_4 ∧ Aside0 (laws_sameSets.j1 kq l0 l1 (l0.length : Int) x13_1 x66_4 = some r) ∧ Aside0 (kq ≤ k1) ∧ Aside0 (Below w.heap.size w wc))
   case first =>
    have H := HC5.out
    clear HC5
    by_cases c6 : 0 ≤ x13_1
    case neg =>
     rw [if_neg c6] at H
     exact absurd H (by simp)
    rw [if_pos c6] at H
    have c6b0 := decide_eq_true c6
    clear c6
    (first | rw [c6b0] | (simp only [i64_w, i32_w]; rw [c6b0]) | skip)
    by_cases c7 : x13_1 < (l0.length : Int)
    case neg =>
     rw [if_neg c7] at H
     exact absurd H (by simp)
    rw [if_pos c7] at H
    have c7b0 := decide_eq_true c7
    clear c7
    by_cases c8 : x13_1 < (l1.length : Int)
    case neg =>
     rw [if_neg c8] at H
     exact absurd H (by simp)
    rw [if_pos c8] at H
    have c8b0 := decide_eq_true c8
    clear c8
    by_cases c9 : ((rd_T83 l0 x13_1).f0).toList = ((rd_T83 l1 x13_1).f0).toList
    case neg =>
     rw [if_neg c9] at H
     have c9b0 := beq_eq_false_iff_ne.mpr c9
     have c9b1 := bne_iff_ne.mpr c9
     have H' := a0_ H
     clear H
     try go_wp2
     replace HB := a0_ (below_drew1 HB.out)
     have p1188 := t0_ (x13_1)
     have q1188 := tl_ (x13_1) (l0.length)
     obtain ⟨ad1188, A1188_3, c1188_3, e1188, hw1188_0, hw1188_1, hw1188_2, hw1188_3, hx1188_0, hx1188_1, hx1188_2, hx1188_3, HR1188_3, HC1188_3⟩ := ri_ HB (at_T83 HR0.out x13_1 (of_eq_true p1188) (of_eq_true q1188))
     cases e1188
     have p1189 := t0_ (x13_1)
     have q1189 := tl_ (x13_1) (l1.length)
     obtain ⟨ad1189, A1189_3, c1189_3, e1189, hw1189_0, hw1189_1, hw1189_2, hw1189_3, hx1189_0, hx1189_1, hx1189_2, hx1189_3, HR1189_3, HC1189_3⟩ := ri_ HB (at_T83 HR1.out x13_1 (of_eq_true p1189) (of_eq_true q1189))
     cases e1189
     refine stH_ 51 [] (cu_ HB.out hw1188_0 hw1188_1 hw1188_2 hw1188_3 (eu_ HB.out hw1189_0 hw1189_1 hw1189_2 hw1189_3)) (fun hHeld => ?_); refine with_tabW laws_sameSets.tab6 laws_sameSets.bits6 (fun HT_ HW_ => ?_)
     generalize wr.drew = w16 at HB HR1188_3 HR1189_3 hx1188_0 hx1188_1 hx1188_2 hx1188_3 hx1189_0 hx1189_1 hx1189_2 hx1189_3 hHeld ⊢
     refine p_ 0 16 ?_
     refine p_ 1 17 ?_
     refine p_ 2 18 ?_
     refine p_ 3 19 ?_
     refine p_ 5 21 ?_
     refine p_ 6 22 ?_
     refine p_ 7 23 ?_
     refine p_ 8 24 ?_
     refine t_ 4 20 ?_
     refine t_ 9 25 ?_
     refine p_ 10 26 ?_
     refine p_ 11 27 ?_
     refine s_ 12 28 ?_
     refine s_ 13 29 ?_
     refine s_ 14 30 ?_
     refine s_ 15 31 ?_
     refine s_ 16 32 ?_
     refine s_ 17 33 ?_
     refine s_ 18 34 ?_
     refine s_ 19 35 ?_
     refine s_ 20 36 ?_
     refine s_ 21 37 ?_
     refine s_ 22 38 ?_
     refine p_ 23 39 ?_
     refine p_ 24 40 ?_
     refine s_ 25 41 ?_
     refine s_ 26 42 ?_
     refine s_ 27 43 ?_
     refine s_ 28 44 ?_
     refine s_ 29 45 ?_
     refine s_ 30 46 ?_
     refine s_ 31 47 ?_
     refine s_ 32 48 ?_
     refine s_ 33 49 ?_
     refine s_ 34 50 ?_
     refine s_ 35 51 ?_
     refine p_ 36 52 ?_
     refine p_ 37 53 ?_
     refine s_ 38 54 ?_
     refine s_ 39 55 ?_
     refine s_ 40 56 ?_
     refine s_ 41 57 ?_
     refine s_ 42 58 ?_
     refine s_ 43 59 ?_
     refine s_ 44 60 ?_
     refine s_ 45 61 ?_
     refine s_ 46 62 ?_
     refine s_ 47 63 ?_
     refine s_ 48 64 ?_
     refine s_ 49 65 ?_
     refine p_ 50 66 ?_
     refine done_ (done_of HT_.out (by kernel_rfl)) ?_
     try go_wp2
     go_meet
     case rel => exact ⟨_, (true), rs_, H', jl_ HK1, ⟨bq0_⟩⟩
    rw [if_pos c9] at H
    have c9b0 := beq_iff_eq.mpr c9
    have c9b1 := bne_eq_false_iff_eq.mpr c9
    clear c9
    by_cases c10 : ((rd_T83 l0 x13_1).f1) = ((rd_T83 l1 x13_1).f1)
    case neg =>
     rw [if_neg c10] at H
     have c10b0 := beq_eq_false_iff_ne.mpr c10
     have c10b1 := bne_iff_ne.mpr c10
     have H' := a0_ H
     clear H
     try go_wp2
     replace HB := a0_ (below_drew1 HB.out)
     have p1188 := t0_ (x13_1)
     have q1188 := tl_ (x13_1) (l0.length)
     obtain ⟨ad1188, A1188_3, c1188_3, e1188, hw1188_0, hw1188_1, hw1188_2, hw1188_3, hx1188_0, hx1188_1, hx1188_2, hx1188_3, HR1188_3, HC1188_3⟩ := ri_ HB (at_T83 HR0.out x13_1 (of_eq_true p1188) (of_eq_true q1188))
     cases e1188
     have p1189 := t0_ (x13_1)
     have q1189 := tl_ (x13_1) (l1.length)
     obtain ⟨ad1189, A1189_3, c1189_3, e1189, hw1189_0, hw1189_1, hw1189_2, hw1189_3, hx1189_0, hx1189_1, hx1189_2, hx1189_3, HR1189_3, HC1189_3⟩ := ri_ HB (at_T83 HR1.out x13_1 (of_eq_true p1189) (of_eq_true q1189))
     cases e1189
     have p1190 := t0_ (x13_1)
     have q1190 := tl_ (x13_1) (l0.length)
     obtain ⟨ad1190, A1190_3, c1190_3, e1190, hw1190_0, hw1190_1, hw1190_2, hw1190_3, hx1190_0, hx1190_1, hx1190_2, hx1190_3, HR1190_3, HC1190_3⟩ := ri_ HB (at_T83 HR0.out x13_1 (of_eq_true p1190) (of_eq_true q1190))
     obtain rfl : ad1188 = ad1190 := (by injection e1190)
     have ea_ := Option.some.inj (hx1188_3.symm.trans hx1190_3)
     injection ea_ with ea_ en_ ec_
     subst ea_
     subst ec_
     clear en_
     have p1191 := t0_ (x13_1)
     have q1191 := tl_ (x13_1) (l1.length)
     obtain ⟨ad1191, A1191_3, c1191_3, e1191, hw1191_0, hw1191_1, hw1191_2, hw1191_3, hx1191_0, hx1191_1, hx1191_2, hx1191_3, HR1191_3, HC1191_3⟩ := ri_ HB (at_T83 HR1.out x13_1 (of_eq_true p1191) (of_eq_true q1191))
     obtain rfl : ad1189 = ad1191 := (by injection e1191)
     have ea_ := Option.some.inj (hx1189_3.symm.trans hx1191_3)
     injection ea_ with ea_ en_ ec_
     subst ea_
     subst ec_
     clear en_
     refine stH_ 51 [] (cu_ HB.out hw1188_0 hw1188_1 hw1188_2 hw1188_3 (cu_ HB.out hw1189_0 hw1189_1 hw1189_2 hw1189_3 (cu_ HB.out hw1190_0 hw1190_1 hw1190_2 hw1190_3 (eu_ HB.out hw1191_0 hw1191_1 hw1191_2 hw1191_3)))) (fun hHeld => ?_); refine with_tabW laws_sameSets.tab6 laws_sameSets.bits6 (fun HT_ HW_ => ?_)
     generalize wr.drew = w15 at HB HR1188_3 HR1189_3 HR1190_3 HR1191_3 hx1188_0 hx1188_1 hx1188_2 hx1188_3 hx1189_0 hx1189_1 hx1189_2 hx1189_3 hx1190_0 hx1190_1 hx1190_2 hx1190_3 hx1191_0 hx1191_1 hx1191_2 hx1191_3 hHeld ⊢
     refine p_ 0 16 ?_
     refine p_ 1 17 ?_
     refine p_ 2 18 ?_
     refine p_ 3 19 ?_
     refine p_ 5 21 ?_
     refine p_ 6 22 ?_
     refine p_ 7 23 ?_
     refine p_ 8 24 ?_
     refine t_ 4 20 ?_
     refine t_ 9 25 ?_
     refine p_ 10 26 ?_
     refine p_ 11 27 ?_
     refine p_ 12 28 ?_
     refine p_ 13 29 ?_
     refine p_ 14 30 ?_
     refine p_ 15 31 ?_
     refine p_ 17 33 ?_
     refine p_ 18 34 ?_
     refine p_ 19 35 ?_
     refine p_ 20 36 ?_
     refine t_ 16 32 ?_
     refine t_ 21 37 ?_
     refine p_ 22 38 ?_
     refine p_ 23 39 ?_
     refine p_ 24 40 ?_
     refine s_ 25 41 ?_
     refine s_ 26 42 ?_
     refine s_ 27 43 ?_
     refine s_ 28 44 ?_
     refine s_ 29 45 ?_
     refine s_ 30 46 ?_
     refine s_ 31 47 ?_
     refine s_ 32 48 ?_
     refine s_ 33 49 ?_
     refine s_ 34 50 ?_
     refine s_ 35 51 ?_
     refine p_ 36 52 ?_
     refine p_ 37 53 ?_
     refine s_ 38 54 ?_
     refine s_ 39 55 ?_
     refine s_ 40 56 ?_
     refine s_ 41 57 ?_
     refine s_ 42 58 ?_
     refine s_ 43 59 ?_
     refine s_ 44 60 ?_
     refine s_ 45 61 ?_
     refine s_ 46 62 ?_
     refine s_ 47 63 ?_
     refine s_ 48 64 ?_
     refine s_ 49 65 ?_
     refine p_ 50 66 ?_
     refine done_ (done_of HT_.out (by kernel_rfl)) ?_
     try go_wp2
     go_meet
     case rel => exact ⟨_, (true), rs_, H', jl_ HK1, ⟨bq0_⟩⟩
    rw [if_pos c10] at H
    have c10b0 := beq_iff_eq.mpr c10
    have c10b1 := bne_eq_false_iff_eq.mpr c10
    clear c10
    by_cases c11 : ((rd_T83 l0 x13_1).f2) = ((rd_T83 l1 x13_1).f2)
    case neg =>
     rw [if_neg c11] at H
     have c11b0 := beq_eq_false_iff_ne.mpr c11
     have c11b1 := bne_iff_ne.mpr c11
     have H' := a0_ H
     clear H
     try go_wp2
     replace HB := a0_ (below_drew1 HB.out)
     have p1188 := t0_ (x13_1)
     have q1188 := tl_ (x13_1) (l0.length)
     obtain ⟨ad1188, A1188_3, c1188_3, e1188, hw1188_0, hw1188_1, hw1188_2, hw1188_3, hx1188_0, hx1188_1, hx1188_2, hx1188_3, HR1188_3, HC1188_3⟩ := ri_ HB (at_T83 HR0.out x13_1 (of_eq_true p1188) (of_eq_true q1188))
     cases e1188
     have p1189 := t0_ (x13_1)
     have q1189 := tl_ (x13_1) (l1.length)
     obtain ⟨ad1189, A1189_3, c1189_3, e1189, hw1189_0, hw1189_1, hw1189_2, hw1189_3, hx1189_0, hx1189_1, hx1189_2, hx1189_3, HR1189_3, HC1189_3⟩ := ri_ HB (at_T83 HR1.out x13_1 (of_eq_true p1189) (of_eq_true q1189))
     cases e1189
     have p1190 := t0_ (x13_1)
     have q1190 := tl_ (x13_1) (l0.length)
     obtain ⟨ad1190, A1190_3, c1190_3, e1190, hw1190_0, hw1190_1, hw1190_2, hw1190_3, hx1190_0, hx1190_1, hx1190_2, hx1190_3, HR1190_3, HC1190_3⟩ := ri_ HB (at_T83 HR0.out x13_1 (of_eq_true p1190) (of_eq_true q1190))
     obtain rfl : ad1188 = ad1190 := (by injection e1190)
     have ea_ := Option.some.inj (hx1188_3.symm.trans hx1190_3)
     injection ea_ with ea_ en_ ec_
     subst ea_
     subst ec_
     clear en_
     have p1191 := t0_ (x13_1)
     have q1191 := tl_ (x13_1) (l1.length)
     obtain ⟨ad1191, A1191_3, c1191_3, e1191, hw1191_0, hw1191_1, hw1191_2, hw1191_3, hx1191_0, hx1191_1, hx1191_2, hx1191_3, HR1191_3, HC1191_3⟩ := ri_ HB (at_T83 HR1.out x13_1 (of_eq_true p1191) (of_eq_true q1191))
     obtain rfl : ad1189 = ad1191 := (by injection e1191)
     have ea_ := Option.some.inj (hx1189_3.symm.trans hx1191_3)
     injection ea_ with ea_ en_ ec_
     subst ea_
     subst ec_
     clear en_
     have p1192 := t0_ (x13_1)
     have q1192 := tl_ (x13_1) (l0.length)
     obtain ⟨ad1192, A1192_3, c1192_3, e1192, hw1192_0, hw1192_1, hw1192_2, hw1192_3, hx1192_0, hx1192_1, hx1192_2, hx1192_3, HR1192_3, HC1192_3⟩ := ri_ HB (at_T83 HR0.out x13_1 (of_eq_true p1192) (of_eq_true q1192))
     obtain rfl : ad1188 = ad1192 := (by injection e1192)
     have ea_ := Option.some.inj (hx1188_3.symm.trans hx1192_3)
     injection ea_ with ea_ en_ ec_
     subst ea_
     subst ec_
     clear en_
     have p1193 := t0_ (x13_1)
     have q1193 := tl_ (x13_1) (l1.length)
     obtain ⟨ad1193, A1193_3, c1193_3, e1193, hw1193_0, hw1193_1, hw1193_2, hw1193_3, hx1193_0, hx1193_1, hx1193_2, hx1193_3, HR1193_3, HC1193_3⟩ := ri_ HB (at_T83 HR1.out x13_1 (of_eq_true p1193) (of_eq_true q1193))
     obtain rfl : ad1189 = ad1193 := (by injection e1193)
     have ea_ := Option.some.inj (hx1189_3.symm.trans hx1193_3)
     injection ea_ with ea_ en_ ec_
     subst ea_
     subst ec_
     clear en_
     refine stH_ 51 [] (cu_ HB.out hw1188_0 hw1188_1 hw1188_2 hw1188_3 (cu_ HB.out hw1189_0 hw1189_1 hw1189_2 hw1189_3 (cu_ HB.out hw1190_0 hw1190_1 hw1190_2 hw1190_3 (cu_ HB.out hw1191_0 hw1191_1 hw1191_2 hw1191_3 (cu_ HB.out hw1192_0 hw1192_1 hw1192_2 hw1192_3 (eu_ HB.out hw1193_0 hw1193_1 hw1193_2 hw1193_3)))))) (fun hHeld => ?_); refine with_tabW laws_sameSets.tab6 laws_sameSets.bits6 (fun HT_ HW_ => ?_)
     generalize wr.drew = w14 at HB HR1188_3 HR1189_3 HR1190_3 HR1191_3 HR1192_3 HR1193_3 hx1188_0 hx1188_1 hx1188_2 hx1188_3 hx1189_0 hx1189_1 hx1189_2 hx1189_3 hx1190_0 hx1190_1 hx1190_2 hx1190_3 hx1191_0 hx1191_1 hx1191_2 hx1191_3 hx1192_0 hx1192_1 hx1192_2 hx1192_3 hx1193_0 hx1193_1 hx1193_2 hx1193_3 hHeld ⊢
     refine p_ 0 16 ?_
     refine p_ 1 17 ?_
     refine p_ 2 18 ?_
     refine p_ 3 19 ?_
     refine p_ 5 21 ?_
     refine p_ 6 22 ?_
     refine p_ 7 23 ?_
     refine p_ 8 24 ?_
     refine t_ 4 20 ?_
     refine t_ 9 25 ?_
     refine p_ 10 26 ?_
     refine p_ 11 27 ?_
     refine p_ 12 28 ?_
     refine p_ 13 29 ?_
     refine p_ 14 30 ?_
     refine p_ 15 31 ?_
     refine p_ 17 33 ?_
     refine p_ 18 34 ?_
     refine p_ 19 35 ?_
     refine p_ 20 36 ?_
     refine t_ 16 32 ?_
     refine t_ 21 37 ?_
     refine p_ 22 38 ?_
     refine p_ 23 39 ?_
     refine p_ 24 40 ?_
     refine p_ 25 41 ?_
     refine p_ 26 42 ?_
     refine p_ 27 43 ?_
     refine p_ 28 44 ?_
     refine p_ 30 46 ?_
     refine p_ 31 47 ?_
     refine p_ 32 48 ?_
     refine p_ 33 49 ?_
     refine t_ 29 45 ?_
     refine t_ 34 50 ?_
     refine p_ 35 51 ?_
     refine p_ 36 52 ?_
     refine p_ 37 53 ?_
     refine s_ 38 54 ?_
     refine s_ 39 55 ?_
     refine s_ 40 56 ?_
     refine s_ 41 57 ?_
     refine s_ 42 58 ?_
     refine s_ 43 59 ?_
     refine s_ 44 60 ?_
     refine s_ 45 61 ?_
     refine s_ 46 62 ?_
     refine s_ 47 63 ?_
     refine s_ 48 64 ?_
     refine s_ 49 65 ?_
     refine p_ 50 66 ?_
     refine done_ (done_of HT_.out (by kernel_rfl)) ?_
     try go_wp2
     go_meet
     case rel => exact ⟨_, (true), rs_, H', jl_ HK1, ⟨bq0_⟩⟩
    rw [if_pos c11] at H
    have c11b0 := beq_iff_eq.mpr c11
    have c11b1 := bne_eq_false_iff_eq.mpr c11
    clear c11
    obtain ⟨t1196, A12, H⟩ := ob_ H
    have H' := a0_ H
    clear H
    try go_wp2
    replace HB := a0_ (below_drew1 HB.out)
    have p1188 := t0_ (x13_1)
    have q1188 := tl_ (x13_1) (l0.length)
    obtain ⟨ad1188, A1188_3, c1188_3, e1188, hw1188_0, hw1188_1, hw1188_2, hw1188_3, hx1188_0, hx1188_1, hx1188_2, hx1188_3, HR1188_3, HC1188_3⟩ := ri_ HB (at_T83 HR0.out x13_1 (of_eq_true p1188) (of_eq_true q1188))
    cases e1188
    have p1189 := t0_ (x13_1)
    have q1189 := tl_ (x13_1) (l1.length)
    obtain ⟨ad1189, A1189_3, c1189_3, e1189, hw1189_0, hw1189_1, hw1189_2, hw1189_3, hx1189_0, hx1189_1, hx1189_2, hx1189_3, HR1189_3, HC1189_3⟩ := ri_ HB (at_T83 HR1.out x13_1 (of_eq_true p1189) (of_eq_true q1189))
    cases e1189
    have p1190 := t0_ (x13_1)
    have q1190 := tl_ (x13_1) (l0.length)
    obtain ⟨ad1190, A1190_3, c1190_3, e1190, hw1190_0, hw1190_1, hw1190_2, hw1190_3, hx1190_0, hx1190_1, hx1190_2, hx1190_3, HR1190_3, HC1190_3⟩ := ri_ HB (at_T83 HR0.out x13_1 (of_eq_true p1190) (of_eq_true q1190))
    obtain rfl : ad1188 = ad1190 := (by injection e1190)
    have ea_ := Option.some.inj (hx1188_3.symm.trans hx1190_3)
    injection ea_ with ea_ en_ ec_
    subst ea_
    subst ec_
    clear en_
    have p1191 := t0_ (x13_1)
    have q1191 := tl_ (x13_1) (l1.length)
    obtain ⟨ad1191, A1191_3, c1191_3, e1191, hw1191_0, hw1191_1, hw1191_2, hw1191_3, hx1191_0, hx1191_1, hx1191_2, hx1191_3, HR1191_3, HC1191_3⟩ := ri_ HB (at_T83 HR1.out x13_1 (of_eq_true p1191) (of_eq_true q1191))
    obtain rfl : ad1189 = ad1191 := (by injection e1191)
    have ea_ := Option.some.inj (hx1189_3.symm.trans hx1191_3)
    injection ea_ with ea_ en_ ec_
    subst ea_
    subst ec_
    clear en_
    have p1192 := t0_ (x13_1)
    have q1192 := tl_ (x13_1) (l0.length)
    obtain ⟨ad1192, A1192_3, c1192_3, e1192, hw1192_0, hw1192_1, hw1192_2, hw1192_3, hx1192_0, hx1192_1, hx1192_2, hx1192_3, HR1192_3, HC1192_3⟩ := ri_ HB (at_T83 HR0.out x13_1 (of_eq_true p1192) (of_eq_true q1192))
    obtain rfl : ad1188 = ad1192 := (by injection e1192)
    have ea_ := Option.some.inj (hx1188_3.symm.trans hx1192_3)
    injection ea_ with ea_ en_ ec_
    subst ea_
    subst ec_
    clear en_
    have p1193 := t0_ (x13_1)
    have q1193 := tl_ (x13_1) (l1.length)
    obtain ⟨ad1193, A1193_3, c1193_3, e1193, hw1193_0, hw1193_1, hw1193_2, hw1193_3, hx1193_0, hx1193_1, hx1193_2, hx1193_3, HR1193_3, HC1193_3⟩ := ri_ HB (at_T83 HR1.out x13_1 (of_eq_true p1193) (of_eq_true q1193))
    obtain rfl : ad1189 = ad1193 := (by injection e1193)
    have ea_ := Option.some.inj (hx1189_3.symm.trans hx1193_3)
    injection ea_ with ea_ en_ ec_
    subst ea_
    subst ec_
    clear en_
    have p1194 := t0_ (x13_1)
    have q1194 := tl_ (x13_1) (l0.length)
    obtain ⟨ad1194, A1194_3, c1194_3, e1194, hw1194_0, hw1194_1, hw1194_2, hw1194_3, hx1194_0, hx1194_1, hx1194_2, hx1194_3, HR1194_3, HC1194_3⟩ := ri_ HB (at_T83 HR0.out x13_1 (of_eq_true p1194) (of_eq_true q1194))
    obtain rfl : ad1188 = ad1194 := (by injection e1194)
    have ea_ := Option.some.inj (hx1188_3.symm.trans hx1194_3)
    injection ea_ with ea_ en_ ec_
    subst ea_
    subst ec_
    clear en_
    have p1195 := t0_ (x13_1)
    have q1195 := tl_ (x13_1) (l1.length)
    obtain ⟨ad1195, A1195_3, c1195_3, e1195, hw1195_0, hw1195_1, hw1195_2, hw1195_3, hx1195_0, hx1195_1, hx1195_2, hx1195_3, HR1195_3, HC1195_3⟩ := ri_ HB (at_T83 HR1.out x13_1 (of_eq_true p1195) (of_eq_true q1195))
    obtain rfl : ad1189 = ad1195 := (by injection e1195)
    have ea_ := Option.some.inj (hx1189_3.symm.trans hx1195_3)
    injection ea_ with ea_ en_ ec_
    subst ea_
    subst ec_
    clear en_
    refine stH_ 51 [] (cu_ HB.out hw1188_0 hw1188_1 hw1188_2 hw1188_3 (cu_ HB.out hw1189_0 hw1189_1 hw1189_2 hw1189_3 (cu_ HB.out hw1190_0 hw1190_1 hw1190_2 hw1190_3 (cu_ HB.out hw1191_0 hw1191_1 hw1191_2 hw1191_3 (cu_ HB.out hw1192_0 hw1192_1 hw1192_2 hw1192_3 (cu_ HB.out hw1193_0 hw1193_1 hw1193_2 hw1193_3 (cu_ HB.out hw1194_0 hw1194_1 hw1194_2 hw1194_3 (eu_ HB.out hw1195_0 hw1195_1 hw1195_2 hw1195_3)))))))) (fun hHeld => ?_); refine with_tabW laws_sameSets.tab6 laws_sameSets.bits6 (fun HT_ HW_ => ?_)
    generalize wr.drew = w13 at HB HR1188_3 HR1189_3 HR1190_3 HR1191_3 HR1192_3 HR1193_3 HR1194_3 HR1195_3 hx1188_0 hx1188_1 hx1188_2 hx1188_3 hx1189_0 hx1189_1 hx1189_2 hx1189_3 hx1190_0 hx1190_1 hx1190_2 hx1190_3 hx1191_0 hx1191_1 hx1191_2 hx1191_3 hx1192_0 hx1192_1 hx1192_2 hx1192_3 hx1193_0 hx1193_1 hx1193_2 hx1193_3 hx1194_0 hx1194_1 hx1194_2 hx1194_3 hx1195_0 hx1195_1 hx1195_2 hx1195_3 hHeld ⊢
    refine p_ 0 16 ?_
    refine p_ 1 17 ?_
    refine p_ 2 18 ?_
    refine p_ 3 19 ?_
    refine p_ 5 21 ?_
    refine p_ 6 22 ?_
    refine p_ 7 23 ?_
    refine p_ 8 24 ?_
    refine t_ 4 20 ?_
    refine t_ 9 25 ?_
    refine p_ 10 26 ?_
    refine p_ 11 27 ?_
    refine p_ 12 28 ?_
    refine p_ 13 29 ?_
    refine p_ 14 30 ?_
    refine p_ 15 31 ?_
    refine p_ 17 33 ?_
    refine p_ 18 34 ?_
    refine p_ 19 35 ?_
    refine p_ 20 36 ?_
    refine t_ 16 32 ?_
    refine t_ 21 37 ?_
    refine p_ 22 38 ?_
    refine p_ 23 39 ?_
    refine p_ 24 40 ?_
    refine p_ 25 41 ?_
    refine p_ 26 42 ?_
    refine p_ 27 43 ?_
    refine p_ 28 44 ?_
    refine p_ 30 46 ?_
    refine p_ 31 47 ?_
    refine p_ 32 48 ?_
    refine p_ 33 49 ?_
    refine t_ 29 45 ?_
    refine t_ 34 50 ?_
    refine p_ 35 51 ?_
    refine p_ 36 52 ?_
    refine p_ 37 53 ?_
    refine p_ 38 54 ?_
    refine p_ 39 55 ?_
    refine p_ 40 56 ?_
    refine p_ 41 57 ?_
    refine p_ 43 59 ?_
    refine p_ 44 60 ?_
    refine p_ 45 61 ?_
    refine p_ 46 62 ?_
    refine t_ 42 58 ?_
    refine t_ 47 63 ?_
    refine oneS_ 48 (some 64) (fun K hK => ?_)
    refine goes_ Tryz.func110 (by kernel_rfl) rfl #[.slice A1188_3 ((rd_T83 l0 x13_1).f3).length c1188_3, .slice A1189_3 ((rd_T83 l1 x13_1).f3).length c1189_3] (by rfl) rfl rfl argsS_ ?_
    with_reducible refine (laws_sameTexts.calls k1 _ _ ((rd_T83 l0 x13_1).f3) _ _ ((rd_T83 l1 x13_1).f3) t1196 _ ?side1 ?side2 ?side3 ?side4 A12.out).mono ?_
    (case side1 => exact kC_ HR1194_3.out HB.out)
    (case side2 => exact HC1194_3.out)
    (case side3 => exact kC_ HR1195_3.out HB.out)
    (case side4 => exact HC1195_3.out)
    rintro e w' ⟨rfl, ⟨nd, rfl⟩⟩
    refine ⟨_, rfl, ?_⟩
    refine hK.out _ _ (cu_ HB.out hw1188_0 hw1188_1 hw1188_2 hw1188_3 (cu_ HB.out hw1189_0 hw1189_1 hw1189_2 hw1189_3 (cu_ HB.out hw1190_0 hw1190_1 hw1190_2 hw1190_3 (cu_ HB.out hw1191_0 hw1191_1 hw1191_2 hw1191_3 (cu_ HB.out hw1192_0 hw1192_1 hw1192_2 hw1192_3 (cu_ HB.out hw1193_0 hw1193_1 hw1193_2 hw1193_3 (cu_ HB.out hw1194_0 hw1194_1 hw1194_2 hw1194_3 (eu_ HB.out hw1195_0 hw1195_1 hw1195_2 hw1195_3)))))))).out (fun hHeld => ?_)
    clear hK K
    refine normS_ ?_
    refine p_ 49 65 ?_
    refine p_ 50 66 ?_
    refine done_ (done_of HT_.out (by kernel_rfl)) ?_
    try go_wp2
    go_meet
    case rel => exact ⟨_, (!t1196), rs_, H', jl_ HK1, ⟨bq0_⟩⟩
   case rest =>
    clear HC5
    try clear c1
    try clear p2
    obtain ⟨kq, x66_4, rfl, HA, HJ4, HB⟩ := hcut
    cases kq with
    | zero => exact absurd HA.out (by simp [laws_sameSets.j1])
    | succ kj4 =>
     have H := HA.out
     clear HA
     simp only [laws_sameSets.j1] at H
     by_cases c17 : x66_4 = true
     case pos =>
      subst c17
      rw [if_pos rfl] at H
      obtain rfl := Option.some.inj H
      go_wp2
      go_ret
      exact ⟨rr_, bq0_⟩
     replace c17 := Bool.eq_false_iff.mpr c17
     subst c17
     rw [if_neg ff_] at H
     have H' := a0_ H
     clear H
     go_wp2
     go_roundg kj4
     case measure => have := HK1.out; have := HJ4.out; omega
     case rel => exact ⟨(wrap64 (x13_1 + 1)), rs_, H', jm_ HK1 HJ4, ⟨bq0_⟩⟩
end Go.Proofs.YtiegkjimpclmaaaGreatDoor.P
namespace Go.Proofs.YtiegkjimpclmaaaGreatDoor.P
open Go.Shelf
def impl_numberIn.f (s : ByteArray) (most : Int) : Option (Int × Bool) :=
 if s.size ≤ 281474976710656 then (match Lib.atoiAll s.data.toList with
  | .ok v => some (v, decide (0 ≤ v ∧ v ≤ most) && (Lib.itoa v == s.toList))
  | .range => some (Lib.atoiSat s.data.toList, false)
  | _ => some (0, false)) else none
theorem within_num (n a b : Int) : impl_within.f n a b = some (decide (a ≤ n ∧ n ≤ b)) := by
 unfold impl_within.f
 by_cases h : n ≥ a
 · rw [if_pos h]; congr 1; rw [decide_eq_decide]; omega
 · rw [if_neg h]; congr 1; rw [eq_comm, decide_eq_false_iff_not]; omega
theorem grow_below {w : World} {k : Nat} {os : Array Obj} : Below w.heap.size w (Go.Sort.grow (w.drewN k) os) := by
 refine ⟨rfl, rfl, rfl, by simp [Go.Sort.grow, World.drewN], fun i hi => ?_⟩
 show (w.heap ++ os)[i]? = w.heap[i]?
 rw [Array.getElem?_append_left hi]
theorem bytes_below {w : World} {T : Nat} {w' : World} (h : w' = w ∨ ∃ t, w' = Lib.bytesWorld w T t) : Below w.heap.size w w' := by
 rcases h with rfl | ⟨t, rfl⟩
 · exact Below.refl _ _
 · exact Lib.bytesWorld_below _ _ _
set_option maxHeartbeats 4000000 in
theorem impl_numberIn.calls (a0 : ByteArray) (a1 : Int) (r1 : Int) (r2 : Bool) (w : World) (h : impl_numberIn.f a0 a1 = some (r1, r2))
 (hv : Vars w := by first | assumption | (refine Vars.below (Aside0.out (by assumption)) ?_; repeat (first | (with_reducible first | exact Below.refl _ _ | exact Aside0.out (by assumption) | apply below_alloc | apply pw_below_drewN | apply below_drew1) | exact Aside0.out (by assumption)))) :
 Calls Tryz.prog 88 #[.string a0, .int .i64 a1] w fun e w' => e = .returned (.tuple #[.int .i64 r1, .bool r2]) ∧ Below w.heap.size w w' := by
 unfold impl_numberIn.f at h
 by_cases hs : a0.size ≤ 281474976710656
 · rw [if_pos hs] at h
   obtain ⟨tp, p, hsyn⟩ := hv.syn
   obtain ⟨tp2, p2, hrng⟩ := hv.rng
   cases ha : Lib.atoiAll a0.data.toList
   · next v =>
     rw [ha] at h
     obtain ⟨rfl, rfl⟩ := Prod.mk.inj (Option.some.inj h)
     have hb := Lib.atoiAll_bounds ha
     have cat : Calls Tryz.prog 86 #[.string a0] w fun e w' => e = .returned (.tuple #[.int .i64 v, .nilIface]) ∧ Below w.heap.size w w' :=
      (Any.strconv_Atoi_ok Tryz.atoi a0 (by omega) v ha w).mono fun e w' ⟨he, hw⟩ => ⟨he, bytes_below hw⟩
     have cit : ∀ W, Below w.heap.size w W → Calls Tryz.prog 56 #[.int .i64 v] W fun e w' => e = .returned (.string ⟨(Lib.itoa v).toArray⟩) ∧ Below w.heap.size w w' := fun W hbW => (Any.strconv_Itoa Tryz.itoa v hb.1 hb.2 W (Vars.below hv hbW).tab).mono fun e w' ⟨he, k, os, hw⟩ => ⟨he, by rw [hw]; exact below_then hbW hbW.size grow_below⟩
     have cwi := fun W => impl_within.calls v 0 a1 (decide (0 ≤ v ∧ v ≤ a1)) W (within_num _ _ _)
     clear hv hsyn hrng ha h
     by_cases hw : 0 ≤ v ∧ v ≤ a1
     · rw [decide_eq_true hw, Bool.true_and]
       rw [decide_eq_true hw] at cwi
       go_enter Tryz.func88, Tryz.ntmps88
       go_wp2_with (first | (go_at_call 86; refine cat.mono ?_; rintro e w1 ⟨rfl, hb1⟩) | (go_at_call 84; refine (cwi _).mono ?_; rintro e w2 ⟨rfl, nd, rfl⟩; have hb2 := pw_below_drewN hb1 nd) | (go_at_call 56; refine (cit _ hb2).mono ?_; rintro e w3 ⟨rfl, hb3⟩))
       go_ret2
       exact ⟨rfl, hb3⟩
     · rw [decide_eq_false hw, Bool.false_and]
       rw [decide_eq_false hw] at cwi
       go_enter Tryz.func88, Tryz.ntmps88
       go_wp2_with (first | (go_at_call 86; refine cat.mono ?_; rintro e w1 ⟨rfl, hb1⟩) | (go_at_call 84; refine (cwi _).mono ?_; rintro e w2 ⟨rfl, nd, rfl⟩; have hb2 := pw_below_drewN hb1 nd))
       go_ret2
       exact ⟨rfl, hb2⟩
   · rw [ha] at h
     obtain ⟨rfl, rfl⟩ := Prod.mk.inj (Option.some.inj h)
     have cat := Any.strconv_Atoi_syntax_var Tryz.atoi a0 hs ha tp p w hsyn
     clear hv hsyn hrng ha h
     go_enter Tryz.func88, Tryz.ntmps88
     go_wp2_with (go_at_call 86; refine cat.mono ?_; rintro e w1 ⟨N, rfl, hN, hc, hb⟩)
     go_ret2
     exact ⟨rfl, hb⟩
   · rw [ha] at h
     obtain ⟨rfl, rfl⟩ := Prod.mk.inj (Option.some.inj h)
     have cat := Any.strconv_Atoi_range_var Tryz.atoi a0 hs ha tp2 p2 w hrng
     clear hv hsyn hrng ha h
     go_enter Tryz.func88, Tryz.ntmps88
     go_wp2_with (go_at_call 86; refine cat.mono ?_; rintro e w1 ⟨N, rfl, hN, hc, hb⟩)
     go_ret2
     exact ⟨rfl, hb⟩
 · rw [if_neg hs] at h; cases h
end Go.Proofs.YtiegkjimpclmaaaGreatDoor.P
namespace Go.Proofs.YtiegkjimpclmaaaGreatDoor.Pure
open Go.Proofs.YtiegkjimpclmaaaGreatDoor.P
def Bytes (l : List Int) : Prop := ∀ x ∈ l, 0 ≤ x ∧ x ≤ 255
theorem bytes_of {l : List Int} (h : ∀ x ∈ l, (Lit.int .u8 x).wf = true) : Bytes l := fun x hx => by
 simpa [Lit.wf, IntKind.min, IntKind.max, IntKind.signed, IntKind.bits] using h x hx
theorem bytes_rd {l : List Int} (h : Bytes l) (i : Int) : 0 ≤ rd l i ∧ rd l i ≤ 255 := by
 unfold rd
 rw [List.getD_eq_getElem?_getD]
 cases e : l[i.toNat]? with
 | none => simp
 | some x => exact h x (List.mem_of_getElem? e)
theorem u64_range (x : Int) : 0 ≤ IntKind.u64.wrap x ∧ IntKind.u64.wrap x < 18446744073709551616 := by
 simp [IntKind.wrap, IntKind.bits, IntKind.signed]
 omega
theorem mask (x : Int) : 0 ≤ wrap64 (Go.bits .and .u64 (IntKind.u64.wrap x / 1099511627776) 255) ∧ wrap64 (Go.bits .and .u64 (IntKind.u64.wrap x / 1099511627776) 255) ≤ 255 := by
 have h := u64_range x
 generalize IntKind.u64.wrap x = y at h ⊢
 rw [u64_and _ _ (by omega) (by omega) (by omega) (by omega)]
 have hle : (y / 1099511627776).toNat &&& (255 : Int).toNat ≤ 255 := Nat.and_le_right
 unfold wrap64
 omega
def Cur (at_ : Int) (n : Nat) : Prop := 0 ≤ at_ ∧ at_ ≤ n
theorem next_some {l : List Int} (hl : Bytes l) {at_ sd : Int} {n : Nat} (hc : Cur at_ n) (hn : n < 4611686018427387904) :
 ∃ b at2 sd2, spec_l1Cur_next.f l at_ sd = some (b, at2, sd2) ∧ (0 ≤ b ∧ b ≤ 255) ∧ Cur at2 (n + 1) := by
 have hw : wrap64 (at_ + 1) = at_ + 1 := by have := hc.1; have := hc.2; unfold wrap64; omega
 have hc2 : Cur (at_ + 1) (n + 1) := ⟨by have := hc.1; omega, by have := hc.2; omega⟩
 have hb := bytes_rd hl at_
 have hb2 : wrap64 (rd l at_) = rd l at_ := by unfold wrap64; omega
 unfold spec_l1Cur_next.f
 rw [hw]
 by_cases h1 : at_ < (l.length : Int)
 · rw [if_pos h1, if_pos hc.1, if_pos (by omega)]
   exact ⟨_, _, _, rfl, by rw [hb2]; exact hb, hc2⟩
 · rw [if_neg h1]
   by_cases h2 : at_ + 1 ≤ (l.length : Int)
   · omega
   · rw [if_neg h2]
     exact ⟨_, _, _, rfl, mask _, hc2⟩
theorem pick_some {l : List Int} (hl : Bytes l) {at_ sd : Int} {n : Nat} (hc : Cur at_ n) (hn : n < 4611686018427387900) (m : Int) :
 ∃ x at2 sd2, spec_l1Cur_pick.f l at_ sd m = some (x, at2, sd2) ∧ (0 ≤ x ∧ (x = 0 ∨ x < m)) ∧ Cur at2 (n + 2) := by
 unfold spec_l1Cur_pick.f
 by_cases h1 : m ≤ 1
 · rw [if_pos h1]
   exact ⟨_, _, _, rfl, ⟨by omega, .inl rfl⟩, hc.1, by have := hc.2; omega⟩
 · rw [if_neg h1]
   obtain ⟨b, at2, sd2, e, hb, hc2⟩ := next_some hl hc (sd := sd) (by omega)
   rw [e]
   simp only [Option.bind_some]
   have hm0 : ¬ m = 0 := by omega
   by_cases h2 : m > 200
   · rw [if_pos h2]
     obtain ⟨b3, at3, sd3, e3, hb3, hc3⟩ := next_some hl hc2 (sd := sd2) (by omega)
     rw [e3]
     simp only [Option.bind_some]
     rw [if_neg hm0]
     have hw : wrap64 (wrap64 (b * 256) + b3) = b * 256 + b3 := by unfold wrap64; omega
     rw [hw, Int.tmod_eq_emod_of_nonneg (by omega)]
     exact ⟨_, _, _, rfl, ⟨Int.emod_nonneg _ hm0, .inr (Int.emod_lt_of_pos _ (by omega))⟩, hc3⟩
   · rw [if_neg h2, if_neg hm0, Int.tmod_eq_emod_of_nonneg hb.1]
     exact ⟨_, _, _, rfl, ⟨Int.emod_nonneg _ hm0, .inr (Int.emod_lt_of_pos _ (by omega))⟩, hc2.1, by have := hc2.2; omega⟩
end Go.Proofs.YtiegkjimpclmaaaGreatDoor.Pure
namespace Go.Proofs.YtiegkjimpclmaaaGreatDoor.P
attribute [local go_sem] max2_int min2_int max_two min_two max_three min_three max_four min_four
def spec_l1Labels.l0 : Nat → ByteArray → List ByteArray → List ByteArray → Int → Int → Option (List ByteArray × Bool)
 | 0, _, _, _, _, _ => none
 | k + 1, x0, x4, x11, x12, x13 => if x13 < x12 then (if 0 ≤ x13 then (if x13 < (x11.length : Int) then ((spec_l1Label.f k (rdOf ByteArray.empty x11 x13)).bind fun t119 => (if t119 = true then (spec_l1Labels.l0 k x0 x4 x11 x12 (wrap64 (x13 + 1))) else (some (([] : List ByteArray), false)))) else (none)) else (none)) else (if (x0.size : Int) ≤ 60 then (some (x4, decide ((x4.length : Int) ≤ 8))) else (some (x4, false)))
def spec_l1Labels.f (k : Nat) (a0 : ByteArray) : Option (List ByteArray × Bool) := if a0.toList = ([] : List UInt8) then (some (([] : List ByteArray), true)) else ((spec_l1Split.f k a0 46).bind fun t115 => (spec_l1Labels.l0 k a0 t115 t115 (t115.length : Int) 0))
theorem spec_l1Labels.mono_l : ∀ k, (∀ y0 y1 y2 y3 y4, LeO (spec_l1Labels.l0 k y0 y1 y2 y3 y4) (spec_l1Labels.l0 (k + 1) y0 y1 y2 y3 y4))
 | 0 => fun _ _ _ _ _ r h => by simp [spec_l1Labels.l0] at h
 | k + 1 => by
  have ih0 := spec_l1Labels.mono_l k
  · intro y0 y1 y2 y3 y4
    unfold spec_l1Labels.l0
    repeat' first | (with_reducible first | exact ih0 _ _ _ _ _ | exact spec_l1Label.mono _ _ | exact spec_l1Split.mono _ _ _ | exact LeO.refl _ | exact LeO.none _ | refine LeO.ite ?_ ?_ | refine LeO.bind ?_ (fun _ => ?_)) | exact LeO.none _ | refine LeO.ite ?_ ?_ | refine LeO.bind ?_ (fun _ => ?_)
theorem spec_l1Labels.mono : ∀ a0 k, LeO (spec_l1Labels.f k a0) (spec_l1Labels.f (k + 1) a0) := by
 intro a0 k
 have ih0 := spec_l1Labels.mono_l k
 unfold spec_l1Labels.f
 repeat' first | (with_reducible first | exact ih0 _ _ _ _ _ | exact spec_l1Label.mono _ _ | exact spec_l1Split.mono _ _ _ | exact LeO.refl _ | exact LeO.none _ | refine LeO.ite ?_ ?_ | refine LeO.bind ?_ (fun _ => ?_)) | exact LeO.none _ | refine LeO.ite ?_ ?_ | refine LeO.bind ?_ (fun _ => ?_)
theorem spec_l1Labels.calls (k : Nat) (a0 : ByteArray) (r1 : List ByteArray) (r2 : Bool) (w : World) (h : spec_l1Labels.f k a0 = some (r1, r2)) :
 Calls Tryz.prog 171 #[.string a0] w fun e w' => ∃ v0_ : Value, e = .returned (.tuple #[v0_, .bool r2]) ∧ Kd.R Kd.string 9 w' w.heap.size (fun _ => True) v0_ r1 ∧ Below w.heap.size w w' := by
 have HB := a0_ (Below.refl w.heap.size w)
 have H := h
 clear h
 unfold spec_l1Labels.f at H
 by_cases c2 : a0.toList = ([] : List UInt8)
 case pos =>
  rw [if_pos c2] at H
  have c2b0 := beq_iff_eq.mpr c2
  have c2b1 := bne_eq_false_iff_eq.mpr c2
  clear c2
  simp only [Option.some.injEq, Prod.mk.injEq] at H
  obtain ⟨rfl, rfl⟩ := H
  go_enter Tryz.func171, Tryz.ntmps171
  go_wp2
  go_ret2
  exact ⟨_, rr_, by first | exact Kd.R_nil _ _ _ _ _ | exact Kd.N_nil _ _ _ _ _ | exact Kd.V_nil _ _ _ _ _ | exact Kd.Q_nil _ _ _ _ _ | exact Kd.S_nil _ _ _ _ _, bq0_⟩
 rw [if_neg c2] at H
 have c2b0 := beq_eq_false_iff_ne.mpr c2
 have c2b1 := bne_iff_ne.mpr c2
 obtain ⟨t115, A3, H⟩ := ob_ H
 have H' := a0_ H
 clear H
 go_enter Tryz.func171, Tryz.ntmps171
 go_wp2_with (first | ((with_reducible refine gt_ 116 rfl ?_); refine gs_ 10 Tryz.func116 #[.string a0, .int .u8 46] ?_; (with_reducible refine (spec_l1Split.calls k a0 46 t115 _ A3.out).mono ?_); rintro e w4 ⟨v116, rfl, ho0, hb⟩; refine ⟨_, rfl, ?_⟩; have HO117 := a0_ (Kd.R_lower ho0 (below_size bq0_)); replace HB := a0_ (below_step bq0_ hb); clear hb; (try clear ho0); obtain ⟨Ao5, co5, eo5⟩ := Kd.R_slice HO117.out; subst eo5))
 go_loopg [13] k (fun kq v13 w' => ∃ (x13_1 : Int), v13 = .int .i64 x13_1 ∧ Aside0 (spec_l1Labels.l0 kq a0 t115 t115 (t115.length : Int) x13_1 = some (r1, r2)) ∧ Aside0 (kq ≤ k) ∧ Aside0 (Kd.R Kd.string 9 w' w.heap.size (fun _ => True) (.slice Ao5 t115.length co5) t115) ∧ Aside0 (Kd.R Kd.string 9 w' w.heap.size (fun _ => True) (.slice Ao5 t115.length co5) t115) ∧ Aside0 (Below w.heap.size w w'))
 case atStart => exact ⟨(0), rs_, H', ⟨Nat.le_refl _⟩, ⟨kR_ HO117.out⟩, ⟨kR_ HO117.out⟩, ⟨bq0_⟩⟩
 case round =>
  clear H'
  try clear c2
  try clear c2b0
  try clear c2b1
  obtain ⟨x13_1, rfl, HA, HK1, HO_4, HO_11, HB⟩ := hrel
  cases gk with
  | zero => exact absurd HA.out (by simp [spec_l1Labels.l0])
  | succ k1 =>
   have H := HA.out
   clear HA
   simp only [spec_l1Labels.l0] at H
   by_cases c6 : x13_1 < (t115.length : Int)
   case neg =>
    rw [if_neg c6] at H
    have c6b0 := decide_eq_false c6
    clear c6
    by_cases c11 : (a0.size : Int) ≤ 60
    case neg =>
     rw [if_neg c11] at H
     have c11b0 := decide_eq_false c11
     have c11b1 : decide (a0.size ≤ 60) = false := decide_eq_false (by omega)
     clear c11
     simp only [Option.some.injEq, Prod.mk.injEq] at H
     obtain ⟨rfl, rfl⟩ := H
     go_wp2
     go_ret2
     exact ⟨_, rr_, kR_ HO_4.out, bq0_⟩
    rw [if_pos c11] at H
    have c11b0 := decide_eq_true c11
    have c11b1 : decide (a0.size ≤ 60) = true := decide_eq_true (by omega)
    clear c11
    simp only [Option.some.injEq, Prod.mk.injEq] at H
    obtain ⟨rfl, rfl⟩ := H
    go_wp2
    go_ret2
    exact ⟨_, rr_, kR_ HO_4.out, bq0_⟩
   rw [if_pos c6] at H
   have c6b0 := decide_eq_true c6
   clear c6
   by_cases c7 : 0 ≤ x13_1
   case neg =>
    rw [if_neg c7] at H
    exact absurd H (by simp)
   rw [if_pos c7] at H
   have c7b0 := decide_eq_true c7
   clear c7
   by_cases c8 : x13_1 < (t115.length : Int)
   case neg =>
    rw [if_neg c8] at H
    exact absurd H (by simp)
   rw [if_pos c8] at H
   have c8b0 := decide_eq_true c8
   clear c8
   obtain ⟨t119, A9, H⟩ := ob_ H
   by_cases c10 : t119 = true
   case neg =>
    replace c10 := Bool.eq_false_iff.mpr c10
    subst c10
    rw [if_neg ff_] at H
    simp only [Option.some.injEq, Prod.mk.injEq] at H
    obtain ⟨rfl, rfl⟩ := H
    have p118 := t0_ (x13_1)
    have q118 := tl_ (x13_1) (t115.length)
    obtain ⟨ad118, e118, hx118_0⟩ := Kd.at_string (Kd.R_reads' HO_11.out).2.2 x13_1 (of_eq_true p118) (of_eq_true q118)
    cases e118
    go_wp2_with (first | ((with_reducible refine gt_ 200 rfl ?_); refine gs_ 18 Tryz.func200 #[.string (rdOf ByteArray.empty t115 x13_1)] ?_; (with_reducible refine (spec_l1Label.calls k1 (rdOf ByteArray.empty t115 x13_1) false _ A9.out).mono ?_); rintro e w' ⟨rfl, ⟨nd, rfl⟩⟩; refine ⟨_, rfl, ?_⟩))
    go_ret2
    exact ⟨_, rr_, by first | exact Kd.R_nil _ _ _ _ _ | exact Kd.N_nil _ _ _ _ _ | exact Kd.V_nil _ _ _ _ _ | exact Kd.Q_nil _ _ _ _ _ | exact Kd.S_nil _ _ _ _ _, bq0_⟩
   subst c10
   rw [if_pos rfl] at H
   have H' := a0_ H
   clear H
   have p118 := t0_ (x13_1)
   have q118 := tl_ (x13_1) (t115.length)
   obtain ⟨ad118, e118, hx118_0⟩ := Kd.at_string (Kd.R_reads' HO_11.out).2.2 x13_1 (of_eq_true p118) (of_eq_true q118)
   cases e118
   go_wp2_with (first | ((with_reducible refine gt_ 200 rfl ?_); refine gs_ 18 Tryz.func200 #[.string (rdOf ByteArray.empty t115 x13_1)] ?_; (with_reducible refine (spec_l1Label.calls k1 (rdOf ByteArray.empty t115 x13_1) true _ A9.out).mono ?_); rintro e w' ⟨rfl, ⟨nd, rfl⟩⟩; refine ⟨_, rfl, ?_⟩))
   go_roundg k1
   case measure => have := HK1.out; omega
   case rel => exact ⟨(wrap64 (x13_1 + 1)), rs_, H', jl_ HK1, ⟨kR_ HO_4.out⟩, ⟨kR_ HO_11.out⟩, ⟨bq0_⟩⟩
def impl_compareNames.f (k : Nat) (a0 : ByteArray) (a1 : ByteArray) : Option (Int) := (impl_labelsOf.f a0).bind fun t378 => ((impl_labelsOf.f a1).bind fun t381 => ((slices_Reverse_string_string.f k t378).bind fun t384 => ((slices_Reverse_string_string.f k t381).bind fun t385 => ((slices_Compare_string_string.f k t384 t385).bind fun t386 => (some t386)))))
theorem impl_compareNames.calls (k : Nat) (a0 : ByteArray) (a1 : ByteArray) (r : Int) (w : World) (h : impl_compareNames.f k a0 a1 = some r) :
 Calls Tryz.prog 132 #[.string a0, .string a1] w fun e w' => e = .returned (.int .i64 r) ∧ Below w.heap.size w w' := by
 have HB := a0_ (Below.refl w.heap.size w)
 have H := h
 clear h
 unfold impl_compareNames.f at H
 obtain ⟨t378, A3, H⟩ := ob_ H
 obtain ⟨t381, A4, H⟩ := ob_ H
 obtain ⟨t384, A5, H⟩ := ob_ H
 obtain ⟨t385, A6, H⟩ := ob_ H
 obtain ⟨t386, A7, H⟩ := ob_ H
 obtain rfl := Option.some.inj H
 go_enter Tryz.func132, Tryz.ntmps132
 go_wp2_with (first | ((with_reducible refine gt_ 144 rfl ?_); refine gs_ 8 Tryz.func144 #[.string a0] ?_; (with_reducible refine (impl_labelsOf.calls a0 t378 _ A3.out).mono ?_); rintro e w8 ⟨v379, rfl, ho0, hb⟩; refine ⟨_, rfl, ?_⟩; have HO380 := a0_ (Kd.R_lower ho0 (below_size bq0_)); replace HB := a0_ (below_step bq0_ hb); clear hb; (try clear ho0)) | ((with_reducible refine gt_ 144 rfl ?_); refine gs_ 10 Tryz.func144 #[.string a1] ?_; (with_reducible refine (impl_labelsOf.calls a1 t381 _ A4.out).mono ?_); rintro e w9 ⟨v382, rfl, ho0, hb⟩; refine ⟨_, rfl, ?_⟩; have HO383 := a0_ (Kd.R_lower (Kd.R_new' ho0 (Kd.R_lt (kR_ HO380.out))) (below_size bq0_)); replace HO380 := a0_ (Kd.R_elder' (kR_ HO380.out) (Kd.R_base ho0) hb); replace HB := a0_ (below_step bq0_ hb); clear hb; (try clear ho0); obtain ⟨Ao10, co10, eo10⟩ := Kd.R_slice HO380.out; subst eo10) | ((with_reducible refine gt_ 177 rfl ?_); refine gs_ 12 Tryz.func177 #[.slice Ao10 t378.length co10] ?_; (with_reducible refine (slices_Reverse_string_string.calls k (fun k_ => some k_ = (.slice Ao10 t378.length co10 : Value).ownBlock) (.slice Ao10 t378.length co10) t378 t384 w _ ?side1 ?side2 A5.out).mono ?_); (case side1 => exact bq2_); (case side2 => exact Kd.R_tight rfl HO380.out); rintro e w11 ⟨rfl, hy0, hb, hkp⟩; refine ⟨_, rfl, ?_⟩; replace HO380 := a0_ (Kd.R_reok rfl hy0 (fun k_ e_ => HO380.out.1 k_ e_)); replace HO383 := a0_ (Kd.R_mono (ok' := fun k_ => nw_ k_ Ao10 t378.length co10) (Kd.R_keptB (HO383.out) hkp (fun k_ hk_ hs_ => (hk_.2) hs_)) (fun k_ hk_ => hk_.1.2)); replace HB := a0_ (hb); clear hb; (try clear hkp); (try clear hy0); obtain ⟨Ao12, co12, eo12⟩ := Kd.R_slice HO383.out; subst eo12) | ((with_reducible refine gt_ 177 rfl ?_); refine gs_ 14 Tryz.func177 #[.slice Ao12 t381.length co12] ?_; (with_reducible refine (slices_Reverse_string_string.calls k (fun k_ => some k_ = (.slice Ao12 t381.length co12 : Value).ownBlock) (.slice Ao12 t381.length co12) t381 t385 w _ ?side1 ?side2 A6.out).mono ?_); (case side1 => exact bq2_); (case side2 => exact Kd.R_tight rfl HO383.out); rintro e w13 ⟨rfl, hy0, hb, hkp⟩; refine ⟨_, rfl, ?_⟩; replace HO380 := a0_ (Kd.R_mono (ok' := fun k_ => nw_ k_ Ao12 t381.length co12) (Kd.R_keptB (HO380.out) hkp (fun k_ hk_ hs_ => (hk_.2) hs_)) (fun k_ hk_ => hk_.1.2)); replace HO383 := a0_ (Kd.R_reok rfl hy0 (fun k_ e_ => HO383.out.1 k_ e_)); replace HB := a0_ (hb); clear hb; (try clear hkp); (try clear hy0)) | ((with_reducible refine gate_callee (f := 178) rfl ?_); refine goesL_ (some 17) rfl rfl Tryz.func178 (by kernel_rfl) rfl #[.slice Ao10 t384.length co10, .slice Ao12 t385.length co12] rfl (by (try simp only [List.map_toArray, List.map_cons, List.map_nil]); first | done | (rw [show t384.length = t378.length from (Kd.R_reads' HO380.out).1.symm, show t385.length = t381.length from (Kd.R_reads' HO383.out).1.symm] <;> rfl) | rfl | (simp only [List.length_drop, List.length_take]; rfl)) ?_; (with_reducible refine (slices_Compare_string_string.calls k _ _ t384 _ _ t385 t386 _ ?side1 ?side2 ?side3 ?side4 A7.out).mono ?_); (case side1 => exact kD_ (Kd.R_reads' HO380.out).2.2); (case side2 => rw [show t384.length = t378.length from (Kd.R_reads' HO380.out).1.symm]; exact (Kd.R_reads' HO380.out).2.1); (case side3 => exact kD_ (Kd.R_reads' HO383.out).2.2); (case side4 => rw [show t385.length = t381.length from (Kd.R_reads' HO383.out).1.symm]; exact (Kd.R_reads' HO383.out).2.1); rintro e w' ⟨rfl, ⟨nd, rfl⟩⟩; refine ⟨_, rfl, ?_⟩))
 go_ret
 exact ⟨rr_, bq0_⟩
def impl_GoodName_1.f (a0 : ByteArray) : Option (Bool) := (impl_isLabel.f a0).bind fun t1466 => (some (!t1466))
theorem impl_GoodName_1.calls (a0 : ByteArray) (r : Bool) (w : World) (h : impl_GoodName_1.f a0 = some r) :
 Calls Tryz.prog 146 #[.string a0] w fun e w' => e = .returned (.bool r) ∧ Below w.heap.size w w' := by
 have HB := a0_ (Below.refl w.heap.size w)
 have H := h
 clear h
 unfold impl_GoodName_1.f at H
 obtain ⟨t1466, A2, H⟩ := ob_ H
 obtain rfl := Option.some.inj H
 go_enter Tryz.func146, Tryz.ntmps146
 go_wp2_with (first | ((with_reducible refine gt_ 147 rfl ?_); refine gs_ 4 Tryz.func147 #[.string a0] ?_; (with_reducible refine (impl_isLabel.calls a0 t1466 _ A2.out).mono ?_); rintro e w3 ⟨rfl, hb⟩; refine ⟨_, rfl, ?_⟩; replace HB := a0_ (below_step bq0_ hb); clear hb))
 go_ret
 exact ⟨rr_, bq0_⟩
def spec_l1Cur_name.l0 : Nat → ByteArray → Int → List Int → Int → Int → Option (ByteArray × Int × Int)
 | 0, _, _, _, _, _ => none
 | k + 1, x3, x4, x1000, x1001, x1002 => if x4 > 0 then ((spec_l1Cur_of.f x1000 x1001 x1002 (([⟨#[97]⟩, ⟨#[98]⟩, ⟨#[119, 119, 119]⟩, ⟨#[115, 117, 98]⟩, ⟨#[42]⟩, ⟨#[120, 49]⟩, ⟨#[110, 115]⟩] : List ByteArray))).bind fun bt633 => (if bt633.1.size + 1 ≤ 9223372036854775807 then (if (bt633.1 ++ (⟨#[46]⟩ : ByteArray)).size + x3.size ≤ 9223372036854775807 then (spec_l1Cur_name.l0 k ((bt633.1 ++ (⟨#[46]⟩ : ByteArray)) ++ x3) (wrap64 (x4 - 1)) x1000 bt633.2.1 bt633.2.2) else (none)) else (none))) else (some (x3, x1001, x1002))
def spec_l1Cur_name.f (k : Nat) (s0_0 : List Int) (s0_1 : Int) (s0_2 : Int) : Option (ByteArray × Int × Int) := (spec_l1Cur_pick.f s0_0 s0_1 s0_2 40).bind fun bt606 => (if bt606.1 = 0 then ((spec_l1Cur_of.f s0_0 bt606.2.1 bt606.2.2 (([⟨#[]⟩, ⟨#[46]⟩, ⟨#[97, 46, 46, 98]⟩, ⟨#[65]⟩, ⟨#[97, 46]⟩, ⟨#[97, 42]⟩, ⟨#[97, 46, 98, 46, 99, 46, 100, 46, 101, 46, 102, 46, 103, 46, 104]⟩, ⟨#[97, 46, 98, 46, 99, 46, 100, 46, 101, 46, 102, 46, 103, 46, 104, 46, 105]⟩, ⟨#[97, 98, 99, 100, 101, 102, 103, 104, 105, 106, 107, 108, 109, 110, 111, 112, 113, 114, 115, 116]⟩, ⟨#[97, 98, 99, 100, 101, 102, 103, 104, 105, 106, 107, 108, 109, 110, 111, 112, 113, 114, 115, 116, 117]⟩] : List ByteArray))).bind fun bt612 => (some (bt612.1, bt612.2.1, bt612.2.2))) else (if bt606.1 = 1 then ((spec_l1Cur_of.f s0_0 bt606.2.1 bt606.2.2 (([⟨#[]⟩, ⟨#[99, 111, 109]⟩] : List ByteArray))).bind fun bt618 => (some (bt618.1, bt618.2.1, bt618.2.2))) else ((spec_l1Cur_of.f s0_0 bt606.2.1 bt606.2.2 (([⟨#[101, 120]⟩, ⟨#[99, 111, 109]⟩, ⟨#[101, 120, 46, 99, 111, 109]⟩, ⟨#[101, 120, 46, 99, 111, 109]⟩, ⟨#[101, 120, 46, 99, 111, 109]⟩] : List ByteArray))).bind fun bt624 => ((spec_l1Cur_pick.f s0_0 bt624.2.1 bt624.2.2 3).bind fun bt627 => (spec_l1Cur_name.l0 k bt624.1 bt627.1 s0_0 bt627.2.1 bt627.2.2)))))
theorem spec_l1Cur_name.mono_l : ∀ k, (∀ y0 y1 y2 y3 y4, LeO (spec_l1Cur_name.l0 k y0 y1 y2 y3 y4) (spec_l1Cur_name.l0 (k + 1) y0 y1 y2 y3 y4))
 | 0 => fun _ _ _ _ _ r h => by simp [spec_l1Cur_name.l0] at h
 | k + 1 => by
  have ih0 := spec_l1Cur_name.mono_l k
  · intro y0 y1 y2 y3 y4
    unfold spec_l1Cur_name.l0
    repeat' first | (with_reducible first | exact ih0 _ _ _ _ _ | exact LeO.refl _ | exact LeO.none _ | refine LeO.ite ?_ ?_ | refine LeO.bind ?_ (fun _ => ?_)) | exact LeO.none _ | refine LeO.ite ?_ ?_ | refine LeO.bind ?_ (fun _ => ?_)
theorem spec_l1Cur_name.mono : ∀ a0 a1 a2 k, LeO (spec_l1Cur_name.f k a0 a1 a2) (spec_l1Cur_name.f (k + 1) a0 a1 a2) := by
 intro a0 a1 a2 k
 have ih0 := spec_l1Cur_name.mono_l k
 unfold spec_l1Cur_name.f
 repeat' first | (with_reducible first | exact ih0 _ _ _ _ _ | exact LeO.refl _ | exact LeO.none _ | refine LeO.ite ?_ ?_ | refine LeO.bind ?_ (fun _ => ?_)) | exact LeO.none _ | refine LeO.ite ?_ ?_ | refine LeO.bind ?_ (fun _ => ?_)
theorem spec_l1Cur_name.calls (k : Nat) (g : Nat) (s0_0 : List Int) (s0_1 : Int) (s0_2 : Int) (r1 : ByteArray) (r2 : Int) (r3 : Int) (w0 w : World) (hI : IsS117 w0 w g s0_0 s0_1 s0_2) (hB : Below w0.heap.size w0 w) (h : spec_l1Cur_name.f k s0_0 s0_1 s0_2 = some (r1, r2, r3)) :
 Calls Tryz.prog 112 #[.pointer (some ⟨g, 0, none⟩)] w fun e w' => e = .returned (.string r1) ∧ IsS117 w0 w' g s0_0 r2 r3 ∧ Below w0.heap.size w0 w' ∧ KeepBut w w' g none := by
 have HI0 := a0_ hI
 have HK := a0_ (KeepBut.refl w g none)
 have HL := a0_ hB.size
 clear hI
 have HW0 := a0_ hB.size
 have HB := a0_ hB
 clear hB
 have H := h
 clear h
 unfold spec_l1Cur_name.f at H
 obtain ⟨⟨t606, t607, t608⟩, A2, H⟩ := ob_ H
 by_cases c3 : t606 = 0
 case pos =>
  rw [if_pos c3] at H
  have c3b0 := beq_iff_eq.mpr c3
  have c3b1 := bne_eq_false_iff_eq.mpr c3
  clear c3
  obtain ⟨y609, hy609⟩ : ∃ y_ : List ByteArray, y_ = (([⟨#[]⟩, ⟨#[46]⟩, ⟨#[97, 46, 46, 98]⟩, ⟨#[65]⟩, ⟨#[97, 46]⟩, ⟨#[97, 42]⟩, ⟨#[97, 46, 98, 46, 99, 46, 100, 46, 101, 46, 102, 46, 103, 46, 104]⟩, ⟨#[97, 46, 98, 46, 99, 46, 100, 46, 101, 46, 102, 46, 103, 46, 104, 46, 105]⟩, ⟨#[97, 98, 99, 100, 101, 102, 103, 104, 105, 106, 107, 108, 109, 110, 111, 112, 113, 114, 115, 116]⟩, ⟨#[97, 98, 99, 100, 101, 102, 103, 104, 105, 106, 107, 108, 109, 110, 111, 112, 113, 114, 115, 116, 117]⟩] : List ByteArray)) := ⟨_, rfl⟩
  rw [← hy609] at H
  have Ny609 := a0_ hy609
  clear hy609
  obtain ⟨⟨t612, t613, t614⟩, A4, H⟩ := ob_ H
  simp only [Option.some.injEq, Prod.mk.injEq] at H
  obtain ⟨rfl, rfl, rfl⟩ := H
  go_enter Tryz.func112, Tryz.ntmps112
  go_wp2_with (first | ((with_reducible refine gt_ 111 rfl ?_); refine gs_ 6 Tryz.func111 #[.pointer (some ⟨g, 0, none⟩), .int .i64 40] ?_; (with_reducible refine (spec_l1Cur_pick.calls g s0_0 s0_1 s0_2 40 t606 t607 t608 w0 _ ?side1 ?side2 A2.out).mono ?_); (case side1 => exact i117_); (case side2 => exact bq2_); rintro e w5 ⟨rfl, hi, hb, hk⟩; refine ⟨_, rfl, ?_⟩; replace HK := a0_ (kt_ HK hk (.inl rfl)); replace HB := a0_ (hb); replace HI0 := a0_ (hi); clear hb hk hi) | ((with_reducible refine gate_dst (N := 10) rfl ?_); refine ls_ 10 9 ([⟨#[]⟩, ⟨#[46]⟩, ⟨#[97, 46, 46, 98]⟩, ⟨#[65]⟩, ⟨#[97, 46]⟩, ⟨#[97, 42]⟩, ⟨#[97, 46, 98, 46, 99, 46, 100, 46, 101, 46, 102, 46, 103, 46, 104]⟩, ⟨#[97, 46, 98, 46, 99, 46, 100, 46, 101, 46, 102, 46, 103, 46, 104, 46, 105]⟩, ⟨#[97, 98, 99, 100, 101, 102, 103, 104, 105, 106, 107, 108, 109, 110, 111, 112, 113, 114, 115, 116]⟩, ⟨#[97, 98, 99, 100, 101, 102, 103, 104, 105, 106, 107, 108, 109, 110, 111, 112, 113, 114, 115, 116, 117]⟩] : List ByteArray) ?_; intro v610 w6 ho7 hb hg_ hnew_; clear hg_ hnew_; (first | rw [← Ny609.out] at ho7 | (simp only [Int.reduceToNat] at ho7; rw [← Ny609.out] at ho7)); have HO611 := a0_ (Kd.R_lower ho7 (keep_size (w := w) (g := g) (row := none) kq_)); replace HI0 := a0_ (IsS117.below i117_ hb); replace HK := a0_ (kt_ HK (KeepBut.of_below hb g none) (.inl rfl)); replace HB := a0_ (below_step bq2_ hb); clear hb ho7; obtain ⟨Ao8, co8, eo8⟩ := Kd.R_slice HO611.out; subst eo8) | ((with_reducible refine gt_ 154 rfl ?_); refine gs_ 11 Tryz.func154 #[.pointer (some ⟨g, 0, none⟩), .slice Ao8 y609.length co8] ?_; (with_reducible refine (spec_l1Cur_of.calls g s0_0 t607 t608 _ _ y609 t612 t613 t614 w0 _ ?side1 ?side2 ?side3 ?side4 ?side5 A4.out).mono ?_); (case side1 => exact i117_); (case side2 => exact bq2_); (case side3 => exact kD_ (Kd.R_reads' HO611.out).2.2); (case side4 => exact (Kd.R_reads' HO611.out).2.1); (case side5 => exact far_slice (IsS117.own_ne HI0.out HO611.out (by decide))); rintro e w9 ⟨rfl, hi, hb, hk⟩; refine ⟨_, rfl, ?_⟩; replace HO611 := a0_ (Kd.R_mono (Kd.R_keep (IsS117.apart (show IsS117 w0 _ g s0_0 t607 t608 from i117_) (kR_ HO611.out) (by decide)) hk (fun _ h => h.2)) (fun _ h => h.1)); replace HK := a0_ (kt_ HK hk (.inl rfl)); replace HB := a0_ (hb); replace HI0 := a0_ (hi); clear hb hk hi))
  go_ret
  exact ⟨rr_, i117_, bq2_, kq_⟩
 rw [if_neg c3] at H
 have c3b0 := beq_eq_false_iff_ne.mpr c3
 have c3b1 := bne_iff_ne.mpr c3
 by_cases c10 : t606 = 1
 case pos =>
  rw [if_pos c10] at H
  have c10b0 := beq_iff_eq.mpr c10
  have c10b1 := bne_eq_false_iff_eq.mpr c10
  clear c10
  obtain ⟨y615, hy615⟩ : ∃ y_ : List ByteArray, y_ = (([⟨#[]⟩, ⟨#[99, 111, 109]⟩] : List ByteArray)) := ⟨_, rfl⟩
  rw [← hy615] at H
  have Ny615 := a0_ hy615
  clear hy615
  obtain ⟨⟨t618, t619, t620⟩, A11, H⟩ := ob_ H
  simp only [Option.some.injEq, Prod.mk.injEq] at H
  obtain ⟨rfl, rfl, rfl⟩ := H
  go_enter Tryz.func112, Tryz.ntmps112
  go_wp2_with (first | ((with_reducible refine gt_ 111 rfl ?_); refine gs_ 6 Tryz.func111 #[.pointer (some ⟨g, 0, none⟩), .int .i64 40] ?_; (with_reducible refine (spec_l1Cur_pick.calls g s0_0 s0_1 s0_2 40 t606 t607 t608 w0 _ ?side1 ?side2 A2.out).mono ?_); (case side1 => exact i117_); (case side2 => exact bq2_); rintro e w12 ⟨rfl, hi, hb, hk⟩; refine ⟨_, rfl, ?_⟩; replace HK := a0_ (kt_ HK hk (.inl rfl)); replace HB := a0_ (hb); replace HI0 := a0_ (hi); clear hb hk hi) | ((with_reducible refine gate_dst (N := 15) rfl ?_); refine ls_ 15 9 ([⟨#[]⟩, ⟨#[99, 111, 109]⟩] : List ByteArray) ?_; intro v616 w13 ho14 hb hg_ hnew_; clear hg_ hnew_; (first | rw [← Ny615.out] at ho14 | (simp only [Int.reduceToNat] at ho14; rw [← Ny615.out] at ho14)); have HO617 := a0_ (Kd.R_lower ho14 (keep_size (w := w) (g := g) (row := none) kq_)); replace HI0 := a0_ (IsS117.below i117_ hb); replace HK := a0_ (kt_ HK (KeepBut.of_below hb g none) (.inl rfl)); replace HB := a0_ (below_step bq2_ hb); clear hb ho14; obtain ⟨Ao15, co15, eo15⟩ := Kd.R_slice HO617.out; subst eo15) | ((with_reducible refine gt_ 154 rfl ?_); refine gs_ 16 Tryz.func154 #[.pointer (some ⟨g, 0, none⟩), .slice Ao15 y615.length co15] ?_; (with_reducible refine (spec_l1Cur_of.calls g s0_0 t607 t608 _ _ y615 t618 t619 t620 w0 _ ?side1 ?side2 ?side3 ?side4 ?side5 A11.out).mono ?_); (case side1 => exact i117_); (case side2 => exact bq2_); (case side3 => exact kD_ (Kd.R_reads' HO617.out).2.2); (case side4 => exact (Kd.R_reads' HO617.out).2.1); (case side5 => exact far_slice (IsS117.own_ne HI0.out HO617.out (by decide))); rintro e w16 ⟨rfl, hi, hb, hk⟩; refine ⟨_, rfl, ?_⟩; replace HO617 := a0_ (Kd.R_mono (Kd.R_keep (IsS117.apart (show IsS117 w0 _ g s0_0 t607 t608 from i117_) (kR_ HO617.out) (by decide)) hk (fun _ h => h.2)) (fun _ h => h.1)); replace HK := a0_ (kt_ HK hk (.inl rfl)); replace HB := a0_ (hb); replace HI0 := a0_ (hi); clear hb hk hi))
  go_ret
  exact ⟨rr_, i117_, bq2_, kq_⟩
 rw [if_neg c10] at H
 have c10b0 := beq_eq_false_iff_ne.mpr c10
 have c10b1 := bne_iff_ne.mpr c10
 obtain ⟨y621, hy621⟩ : ∃ y_ : List ByteArray, y_ = (([⟨#[101, 120]⟩, ⟨#[99, 111, 109]⟩, ⟨#[101, 120, 46, 99, 111, 109]⟩, ⟨#[101, 120, 46, 99, 111, 109]⟩, ⟨#[101, 120, 46, 99, 111, 109]⟩] : List ByteArray)) := ⟨_, rfl⟩
 rw [← hy621] at H
 have Ny621 := a0_ hy621
 clear hy621
 obtain ⟨⟨t624, t625, t626⟩, A17, H⟩ := ob_ H
 obtain ⟨⟨t627, t628, t629⟩, A18, H⟩ := ob_ H
 have H' := a0_ H
 clear H
 go_enter Tryz.func112, Tryz.ntmps112
 go_wp2_with (first | ((with_reducible refine gt_ 111 rfl ?_); refine gs_ 6 Tryz.func111 #[.pointer (some ⟨g, 0, none⟩), .int .i64 40] ?_; (with_reducible refine (spec_l1Cur_pick.calls g s0_0 s0_1 s0_2 40 t606 t607 t608 w0 _ ?side1 ?side2 A2.out).mono ?_); (case side1 => exact i117_); (case side2 => exact bq2_); rintro e w19 ⟨rfl, hi, hb, hk⟩; refine ⟨_, rfl, ?_⟩; replace HK := a0_ (kt_ HK hk (.inl rfl)); replace HB := a0_ (hb); replace HI0 := a0_ (hi); clear hb hk hi) | ((with_reducible refine gate_dst (N := 18) rfl ?_); refine ls_ 18 9 ([⟨#[101, 120]⟩, ⟨#[99, 111, 109]⟩, ⟨#[101, 120, 46, 99, 111, 109]⟩, ⟨#[101, 120, 46, 99, 111, 109]⟩, ⟨#[101, 120, 46, 99, 111, 109]⟩] : List ByteArray) ?_; intro v622 w20 ho21 hb hg_ hnew_; clear hg_ hnew_; (first | rw [← Ny621.out] at ho21 | (simp only [Int.reduceToNat] at ho21; rw [← Ny621.out] at ho21)); have HO623 := a0_ (Kd.R_lower ho21 (keep_size (w := w) (g := g) (row := none) kq_)); replace HI0 := a0_ (IsS117.below i117_ hb); replace HK := a0_ (kt_ HK (KeepBut.of_below hb g none) (.inl rfl)); replace HB := a0_ (below_step bq2_ hb); clear hb ho21; obtain ⟨Ao22, co22, eo22⟩ := Kd.R_slice HO623.out; subst eo22) | ((with_reducible refine gt_ 154 rfl ?_); refine gs_ 19 Tryz.func154 #[.pointer (some ⟨g, 0, none⟩), .slice Ao22 y621.length co22] ?_; (with_reducible refine (spec_l1Cur_of.calls g s0_0 t607 t608 _ _ y621 t624 t625 t626 w0 _ ?side1 ?side2 ?side3 ?side4 ?side5 A17.out).mono ?_); (case side1 => exact i117_); (case side2 => exact bq2_); (case side3 => exact kD_ (Kd.R_reads' HO623.out).2.2); (case side4 => exact (Kd.R_reads' HO623.out).2.1); (case side5 => exact far_slice (IsS117.own_ne HI0.out HO623.out (by decide))); rintro e w23 ⟨rfl, hi, hb, hk⟩; refine ⟨_, rfl, ?_⟩; replace HO623 := a0_ (Kd.R_mono (Kd.R_keep (IsS117.apart (show IsS117 w0 _ g s0_0 t607 t608 from i117_) (kR_ HO623.out) (by decide)) hk (fun _ h => h.2)) (fun _ h => h.1)); replace HK := a0_ (kt_ HK hk (.inl rfl)); replace HB := a0_ (hb); replace HI0 := a0_ (hi); clear hb hk hi) | ((with_reducible refine gt_ 111 rfl ?_); refine gs_ 21 Tryz.func111 #[.pointer (some ⟨g, 0, none⟩), .int .i64 3] ?_; (with_reducible refine (spec_l1Cur_pick.calls g s0_0 t625 t626 3 t627 t628 t629 w0 _ ?side1 ?side2 A18.out).mono ?_); (case side1 => exact i117_); (case side2 => exact bq2_); rintro e w24 ⟨rfl, hi, hb, hk⟩; refine ⟨_, rfl, ?_⟩; replace HO623 := a0_ (Kd.R_mono (Kd.R_keep (IsS117.apart (show IsS117 w0 _ g s0_0 t625 t626 from i117_) (kR_ HO623.out) (by decide)) hk (fun _ h => h.2)) (fun _ h => h.1)); replace HK := a0_ (kt_ HK hk (.inl rfl)); replace HB := a0_ (hb); replace HI0 := a0_ (hi); clear hb hk hi))
 go_loopg [3, 4] k (fun kq v3 v4 w' => ∃ (x3_1 : ByteArray) (x4_1 : Int) (x1001_1 : Int) (x1002_1 : Int), v3 = .string x3_1 ∧ v4 = .int .i64 x4_1 ∧ Aside0 (spec_l1Cur_name.l0 kq x3_1 x4_1 s0_0 x1001_1 x1002_1 = some (r1, r2, r3)) ∧ Aside0 (kq ≤ k) ∧ Aside0 (IsS117 w0 w' g s0_0 x1001_1 x1002_1) ∧ Aside0 (KeepBut w w' g none) ∧ Aside0 (Below w0.heap.size w0 w'))
 case atStart => exact ⟨(t624), (t627), (t628), (t629), rs_, rs_, H', ⟨Nat.le_refl _⟩, ⟨i117_⟩, ⟨kq_⟩, ⟨bq2_⟩⟩
 case round =>
  clear H'
  try clear c3
  try clear c3b0
  try clear c3b1
  try clear c10
  try clear c10b0
  try clear c10b1
  obtain ⟨x3_1, x4_1, x1001_1, x1002_1, rfl, rfl, HA, HK1, HI0, HK, HB⟩ := hrel
  cases gk with
  | zero => exact absurd HA.out (by simp [spec_l1Cur_name.l0])
  | succ k1 =>
   have H := HA.out
   clear HA
   simp only [spec_l1Cur_name.l0] at H
   by_cases c25 : x4_1 > 0
   case neg =>
    rw [if_neg c25] at H
    have c25b0 := decide_eq_false c25
    clear c25
    simp only [Option.some.injEq, Prod.mk.injEq] at H
    obtain ⟨rfl, rfl, rfl⟩ := H
    go_wp2
    go_ret
    exact ⟨rr_, i117_, bq2_, kq_⟩
   rw [if_pos c25] at H
   have c25b0 := decide_eq_true c25
   clear c25
   obtain ⟨y630, hy630⟩ : ∃ y_ : List ByteArray, y_ = (([⟨#[97]⟩, ⟨#[98]⟩, ⟨#[119, 119, 119]⟩, ⟨#[115, 117, 98]⟩, ⟨#[42]⟩, ⟨#[120, 49]⟩, ⟨#[110, 115]⟩] : List ByteArray)) := ⟨_, rfl⟩
   rw [← hy630] at H
   have Ny630 := a0_ hy630
   clear hy630
   obtain ⟨⟨t633, t634, t635⟩, A26, H⟩ := ob_ H
   by_cases c27 : t633.size + 1 ≤ 9223372036854775807
   case neg =>
    rw [if_neg c27] at H
    exact absurd H (by simp)
   rw [if_pos c27] at H
   have c27b0 := eq_true c27
   have c27b1 := decide_eq_true c27
   try have c27b2 : (9223372036854775807 < t633.size + 1) = False := eq_false (Nat.not_lt.2 c27)
   by_cases c28 : (t633 ++ (⟨#[46]⟩ : ByteArray)).size + x3_1.size ≤ 9223372036854775807
   case neg =>
    rw [if_neg c28] at H
    exact absurd H (by simp)
   rw [if_pos c28] at H
   have c28b0 := eq_true c28
   have c28b1 := decide_eq_true c28
   try have c28b2 : (9223372036854775807 < (t633 ++ (⟨#[46]⟩ : ByteArray)).size + x3_1.size) = False := eq_false (Nat.not_lt.2 c28)
   have H' := a0_ H
   clear H
   go_wp2_with (first | ((with_reducible refine gate_dst (N := 27) rfl ?_); refine ls_ 27 9 ([⟨#[97]⟩, ⟨#[98]⟩, ⟨#[119, 119, 119]⟩, ⟨#[115, 117, 98]⟩, ⟨#[42]⟩, ⟨#[120, 49]⟩, ⟨#[110, 115]⟩] : List ByteArray) ?_; intro v631 w29 ho30 hb hg_ hnew_; clear hg_ hnew_; (first | rw [← Ny630.out] at ho30 | (simp only [Int.reduceToNat] at ho30; rw [← Ny630.out] at ho30)); have HO632 := a0_ (Kd.R_lower ho30 (keep_size (w := w) (g := g) (row := none) kq_)); replace HI0 := a0_ (IsS117.below i117_ hb); replace HK := a0_ (kt_ HK (KeepBut.of_below hb g none) (.inl rfl)); replace HB := a0_ (below_step bq2_ hb); clear hb ho30; obtain ⟨Ao31, co31, eo31⟩ := Kd.R_slice HO632.out; subst eo31) | ((with_reducible refine gt_ 154 rfl ?_); refine gs_ 28 Tryz.func154 #[.pointer (some ⟨g, 0, none⟩), .slice Ao31 y630.length co31] ?_; (with_reducible refine (spec_l1Cur_of.calls g s0_0 x1001_1 x1002_1 _ _ y630 t633 t634 t635 w0 _ ?side1 ?side2 ?side3 ?side4 ?side5 A26.out).mono ?_); (case side1 => exact i117_); (case side2 => exact bq2_); (case side3 => exact kD_ (Kd.R_reads' HO632.out).2.2); (case side4 => exact (Kd.R_reads' HO632.out).2.1); (case side5 => exact far_slice (IsS117.own_ne HI0.out HO632.out (by decide))); rintro e w32 ⟨rfl, hi, hb, hk⟩; refine ⟨_, rfl, ?_⟩; replace HO632 := a0_ (Kd.R_mono (Kd.R_keep (IsS117.apart (show IsS117 w0 _ g s0_0 x1001_1 x1002_1 from i117_) (kR_ HO632.out) (by decide)) hk (fun _ h => h.2)) (fun _ h => h.1)); replace HK := a0_ (kt_ HK hk (.inl rfl)); replace HB := a0_ (hb); replace HI0 := a0_ (hi); clear hb hk hi))
   go_roundg k1
   case measure => have := HK1.out; omega
   case rel => exact ⟨((t633 ++ (⟨#[46]⟩ : ByteArray)) ++ x3_1), (wrap64 (x4_1 - 1)), (t634), (t635), rs_, rs_, H', jl_ HK1, ⟨i117_⟩, ⟨kq_⟩, ⟨bq2_⟩⟩
def spec_l1Cur_target.f (s0_0 : List Int) (s0_1 : Int) (s0_2 : Int) : Option (ByteArray × Int × Int) := (spec_l1Cur_of.f s0_0 s0_1 s0_2 (([⟨#[97, 46, 101, 120, 46, 99, 111, 109]⟩, ⟨#[98, 46, 101, 120, 46, 99, 111, 109]⟩, ⟨#[110, 115, 46, 101, 120, 46, 99, 111, 109]⟩, ⟨#[119, 119, 119, 46, 99, 111, 109]⟩, ⟨#[120, 49, 46, 115, 117, 98, 46, 101, 120, 46, 99, 111, 109]⟩] : List ByteArray))).bind fun bt643 => (some (bt643.1, bt643.2.1, bt643.2.2))
theorem spec_l1Cur_target.calls (g : Nat) (s0_0 : List Int) (s0_1 : Int) (s0_2 : Int) (r1 : ByteArray) (r2 : Int) (r3 : Int) (w0 w : World) (hI : IsS117 w0 w g s0_0 s0_1 s0_2) (hB : Below w0.heap.size w0 w) (h : spec_l1Cur_target.f s0_0 s0_1 s0_2 = some (r1, r2, r3)) :
 Calls Tryz.prog 155 #[.pointer (some ⟨g, 0, none⟩)] w fun e w' => e = .returned (.string r1) ∧ IsS117 w0 w' g s0_0 r2 r3 ∧ Below w0.heap.size w0 w' ∧ KeepBut w w' g none := by
 have HI0 := a0_ hI
 have HK := a0_ (KeepBut.refl w g none)
 have HL := a0_ hB.size
 clear hI
 have HW0 := a0_ hB.size
 have HB := a0_ hB
 clear hB
 have H := h
 clear h
 unfold spec_l1Cur_target.f at H
 obtain ⟨y640, hy640⟩ : ∃ y_ : List ByteArray, y_ = (([⟨#[97, 46, 101, 120, 46, 99, 111, 109]⟩, ⟨#[98, 46, 101, 120, 46, 99, 111, 109]⟩, ⟨#[110, 115, 46, 101, 120, 46, 99, 111, 109]⟩, ⟨#[119, 119, 119, 46, 99, 111, 109]⟩, ⟨#[120, 49, 46, 115, 117, 98, 46, 101, 120, 46, 99, 111, 109]⟩] : List ByteArray)) := ⟨_, rfl⟩
 rw [← hy640] at H
 have Ny640 := a0_ hy640
 clear hy640
 obtain ⟨⟨t643, t644, t645⟩, A2, H⟩ := ob_ H
 simp only [Option.some.injEq, Prod.mk.injEq] at H
 obtain ⟨rfl, rfl, rfl⟩ := H
 go_enter Tryz.func155, Tryz.ntmps155
 go_wp2_with (first | ((with_reducible refine gate_dst (N := 4) rfl ?_); refine ls_ 4 9 ([⟨#[97, 46, 101, 120, 46, 99, 111, 109]⟩, ⟨#[98, 46, 101, 120, 46, 99, 111, 109]⟩, ⟨#[110, 115, 46, 101, 120, 46, 99, 111, 109]⟩, ⟨#[119, 119, 119, 46, 99, 111, 109]⟩, ⟨#[120, 49, 46, 115, 117, 98, 46, 101, 120, 46, 99, 111, 109]⟩] : List ByteArray) ?_; intro v641 w3 ho4 hb hg_ hnew_; clear hg_ hnew_; (first | rw [← Ny640.out] at ho4 | (simp only [Int.reduceToNat] at ho4; rw [← Ny640.out] at ho4)); have HO642 := a0_ (Kd.R_lower ho4 (keep_size (w := w) (g := g) (row := none) kq_)); replace HI0 := a0_ (IsS117.below i117_ hb); replace HK := a0_ (kt_ HK (KeepBut.of_below hb g none) (.inl rfl)); replace HB := a0_ (below_step bq2_ hb); clear hb ho4; obtain ⟨Ao5, co5, eo5⟩ := Kd.R_slice HO642.out; subst eo5) | ((with_reducible refine gt_ 154 rfl ?_); refine gs_ 5 Tryz.func154 #[.pointer (some ⟨g, 0, none⟩), .slice Ao5 y640.length co5] ?_; (with_reducible refine (spec_l1Cur_of.calls g s0_0 s0_1 s0_2 _ _ y640 t643 t644 t645 w0 _ ?side1 ?side2 ?side3 ?side4 ?side5 A2.out).mono ?_); (case side1 => exact i117_); (case side2 => exact bq2_); (case side3 => exact kD_ (Kd.R_reads' HO642.out).2.2); (case side4 => exact (Kd.R_reads' HO642.out).2.1); (case side5 => exact far_slice (IsS117.own_ne HI0.out HO642.out (by decide))); rintro e w6 ⟨rfl, hi, hb, hk⟩; refine ⟨_, rfl, ?_⟩; replace HO642 := a0_ (Kd.R_mono (Kd.R_keep (IsS117.apart (show IsS117 w0 _ g s0_0 s0_1 s0_2 from i117_) (kR_ HO642.out) (by decide)) hk (fun _ h => h.2)) (fun _ h => h.1)); replace HK := a0_ (kt_ HK hk (.inl rfl)); replace HB := a0_ (hb); replace HI0 := a0_ (hi); clear hb hk hi))
 go_ret
 exact ⟨rr_, i117_, bq2_, kq_⟩
end Go.Proofs.YtiegkjimpclmaaaGreatDoor.P
namespace Go.Proofs.YtiegkjimpclmaaaGreatDoor.P
abbrev SSet := S83
abbrev kSet := k83
section
variable {W w1 : World} {base g n cap : Nat} {ok oki : Nat → Prop} {xs : List SSet} {i : Int} {c : List Value}
end
end Go.Proofs.YtiegkjimpclmaaaGreatDoor.P
namespace Go.Proofs.YtiegkjimpclmaaaGreatDoor.P
open Go.Shelf
def strconv_Itoa.f (v : Int) : Option ByteArray :=
 if -9223372036854775808 ≤ v ∧ v ≤ 9223372036854775807 then some ⟨(Lib.itoa v).toArray⟩ else none
end Go.Proofs.YtiegkjimpclmaaaGreatDoor.P
namespace Go.Proofs.YtiegkjimpclmaaaGreatDoor.Pure
open Go.Proofs.YtiegkjimpclmaaaGreatDoor.P
theorem mS_rd (l : List ByteArray) (i : Nat) (h : i < l.length) : rdOf ByteArray.empty l (i : Int) = l[i] := by
 unfold rdOf
 rw [Int.toNat_natCast, List.getD_eq_getElem?_getD, List.getElem?_eq_getElem h]
 rfl
theorem markT_loop : ∀ (n : Nat) (x : Int) (acc : ByteArray), x ≤ n → acc.size + n < 1099511627776 → ∃ t, Ev (fun k => laws_markText.l0 k x acc) t
 | n, x, acc, hx, ha => by
  by_cases h : x > 0
  · have hw : wrap64 (Int.tdiv x 10) = x / 10 := by
     rw [Int.tdiv_eq_ediv_of_nonneg (by omega)]
     unfold wrap64
     omega
    have hs : ∀ v : Int, (strOfNums [v]).size = 1 := fun v => by rw [strOfNums_size]; rfl
    match n, hx, ha with
    | 0, hx, ha => omega
    | n + 1, hx, ha =>
     obtain ⟨t, ht⟩ := markT_loop n (x / 10) (strOfNums [(wrap64 (48 + (Int.tmod x 10))) % 256] ++ acc) (by omega) (by rw [ByteArray.size_append, hs]; omega)
     refine ⟨t, Ev.step (fun k => ?_) ht⟩
     show laws_markText.l0 (k + 1) x acc = _
     conv => lhs; unfold laws_markText.l0
     rw [if_pos h, Option.bind_some, if_pos (by rw [hs]; omega), hw]
  · refine ⟨(⟨#[109]⟩ : ByteArray) ++ acc, Ev.step (f := fun _ => some _) (fun k => ?_) (Ev.now _)⟩
    show laws_markText.l0 (k + 1) x acc = _
    unfold laws_markText.l0
    rw [if_neg h, if_pos (by omega)]
theorem markT_some (x : Int) (hx : x < 549755813888) : ∃ t, Ev (fun k => laws_markText.f k x) t := by
 by_cases h : x ≤ 0
 · refine ⟨(⟨#[109, 48]⟩ : ByteArray), Ev.congr (fun k => ?_) (Ev.now _)⟩
   unfold laws_markText.f
   rw [if_pos h]
 · obtain ⟨t, ht⟩ := markT_loop x.toNat x (⟨#[]⟩ : ByteArray) (by omega) (by show 0 + x.toNat < _; omega)
   refine ⟨t, Ev.congr (fun k => ?_) ht⟩
   unfold laws_markText.f
   rw [if_neg h]
noncomputable def markT (x : Int) : ByteArray := if h : x < 549755813888 then (markT_some x h).choose else ⟨#[]⟩
noncomputable def marks (a n : Nat) : List ByteArray := (List.range n).map fun j => markT ((a + j : Nat) : Int)
end Go.Proofs.YtiegkjimpclmaaaGreatDoor.Pure
namespace Go.Proofs.YtiegkjimpclmaaaGreatDoor.P
attribute [local go_sem] max2_int min2_int max_two min_two max_three min_three max_four min_four
def spec_GoodName.f (k : Nat) (a0 : ByteArray) : Option (Bool) := (spec_l1Labels.f k a0).bind fun bt120 => (some bt120.2)
theorem spec_GoodName.calls (k : Nat) (a0 : ByteArray) (r : Bool) (w : World) (h : spec_GoodName.f k a0 = some r) :
 Calls Tryz.prog 127 #[.string a0] w fun e w' => e = .returned (.bool r) ∧ Below w.heap.size w w' := by
 have HB := a0_ (Below.refl w.heap.size w)
 have H := h
 clear h
 unfold spec_GoodName.f at H
 obtain ⟨⟨t120, t121⟩, A2, H⟩ := ob_ H
 obtain rfl := Option.some.inj H
 go_enter Tryz.func127, Tryz.ntmps127
 go_wp2_with (first | ((with_reducible refine gt_ 171 rfl ?_); refine gs_ 7 Tryz.func171 #[.string a0] ?_; (with_reducible refine (spec_l1Labels.calls k a0 t120 t121 _ A2.out).mono ?_); rintro e w3 ⟨v122, rfl, ho0, hb⟩; refine ⟨_, rfl, ?_⟩; have HO123 := a0_ (Kd.R_lower ho0 (below_size bq0_)); replace HB := a0_ (below_step bq0_ hb); clear hb; (try clear ho0)))
 go_ret
 exact ⟨rr_, bq0_⟩
theorem isEmpty_bne (l : List UInt8) : l.isEmpty = !(l != []) := by cases l <;> rfl
def spec_l3Target.l0 : Nat → ByteArray → Bool → List ByteArray → Int → Int → Option (Bool)
 | 0, _, _, _, _, _ => none
 | k + 1, x0, x4, x12, x13, x14 => if x14 < x13 then (if 0 ≤ x14 then (if x14 < (x12.length : Int) then (if x4 = true then (spec_l3Target.l0 k x0 ((rdOf ByteArray.empty x12 x14).toList != ([42] : List UInt8)) x12 x13 (wrap64 (x14 + 1))) else (spec_l3Target.l0 k x0 false x12 x13 (wrap64 (x14 + 1)))) else (none)) else (none)) else (if x4 = true then (some (x0.toList != ([] : List UInt8))) else (some false))
def spec_l3Target.f (k : Nat) (a0 : ByteArray) : Option (Bool) := (spec_l1Labels.f k a0).bind fun bt148 => (spec_l3Target.l0 k a0 bt148.2 bt148.1 (bt148.1.length : Int) 0)
theorem spec_l3Target.mono_l : ∀ k, (∀ y0 y1 y2 y3 y4, LeO (spec_l3Target.l0 k y0 y1 y2 y3 y4) (spec_l3Target.l0 (k + 1) y0 y1 y2 y3 y4))
 | 0 => fun _ _ _ _ _ r h => by simp [spec_l3Target.l0] at h
 | k + 1 => by
  have ih0 := spec_l3Target.mono_l k
  · intro y0 y1 y2 y3 y4
    unfold spec_l3Target.l0
    repeat' first | (with_reducible first | exact ih0 _ _ _ _ _ | exact spec_l1Labels.mono _ _ | exact LeO.refl _ | exact LeO.none _ | refine LeO.ite ?_ ?_ | refine LeO.bind ?_ (fun _ => ?_)) | exact LeO.none _ | refine LeO.ite ?_ ?_ | refine LeO.bind ?_ (fun _ => ?_)
theorem spec_l3Target.mono : ∀ a0 k, LeO (spec_l3Target.f k a0) (spec_l3Target.f (k + 1) a0) := by
 intro a0 k
 have ih0 := spec_l3Target.mono_l k
 unfold spec_l3Target.f
 repeat' first | (with_reducible first | exact ih0 _ _ _ _ _ | exact spec_l1Labels.mono _ _ | exact LeO.refl _ | exact LeO.none _ | refine LeO.ite ?_ ?_ | refine LeO.bind ?_ (fun _ => ?_)) | exact LeO.none _ | refine LeO.ite ?_ ?_ | refine LeO.bind ?_ (fun _ => ?_)
theorem spec_l3Target.calls (k : Nat) (a0 : ByteArray) (r : Bool) (w : World) (h : spec_l3Target.f k a0 = some r) :
 Calls Tryz.prog 119 #[.string a0] w fun e w' => e = .returned (.bool r) ∧ Below w.heap.size w w' := by
 have HB := a0_ (Below.refl w.heap.size w)
 have H := h
 clear h
 unfold spec_l3Target.f at H
 obtain ⟨⟨t148, t149⟩, A2, H⟩ := ob_ H
 have H' := a0_ H
 clear H
 go_enter Tryz.func119, Tryz.ntmps119
 go_wp2_with (first | ((with_reducible refine gt_ 171 rfl ?_); refine gs_ 9 Tryz.func171 #[.string a0] ?_; (with_reducible refine (spec_l1Labels.calls k a0 t148 t149 _ A2.out).mono ?_); rintro e w3 ⟨v150, rfl, ho0, hb⟩; refine ⟨_, rfl, ?_⟩; have HO151 := a0_ (Kd.R_lower ho0 (below_size bq0_)); replace HB := a0_ (below_step bq0_ hb); clear hb; (try clear ho0); obtain ⟨Ao4, co4, eo4⟩ := Kd.R_slice HO151.out; subst eo4))
 go_loopg [4, 14] k (fun kq v4 v14 w' => ∃ (x4_1 : Bool) (x14_1 : Int), v4 = .bool x4_1 ∧ v14 = .int .i64 x14_1 ∧ Aside0 (spec_l3Target.l0 kq a0 x4_1 t148 (t148.length : Int) x14_1 = some r) ∧ Aside0 (kq ≤ k) ∧ Aside0 (Kd.R Kd.string 9 w' w.heap.size (fun _ => True) (.slice Ao4 t148.length co4) t148) ∧ Aside0 (Below w.heap.size w w'))
 case atStart => exact ⟨(t149), (0), rs_, rs_, H', ⟨Nat.le_refl _⟩, ⟨kR_ HO151.out⟩, ⟨bq0_⟩⟩
 case round =>
  clear H'
  obtain ⟨x4_1, x14_1, rfl, rfl, HA, HK1, HO_12, HB⟩ := hrel
  cases gk with
  | zero => exact absurd HA.out (by simp [spec_l3Target.l0])
  | succ k1 =>
   have H := HA.out
   clear HA
   simp only [spec_l3Target.l0] at H
   by_cases c5 : x14_1 < (t148.length : Int)
   case neg =>
    rw [if_neg c5] at H
    have c5b0 := decide_eq_false c5
    clear c5
    by_cases c9 : x4_1 = true
    case pos =>
     subst c9
     rw [if_pos rfl] at H
     obtain rfl := Option.some.inj H
     go_wp2
     go_ret
     exact ⟨by first | rfl | (simp [errW_none, errW_some] <;> rfl) | (simp [*, errW_none, errW_some] <;> rfl) | (simp [errW_none, errW_some]; exact isEmpty_bne _), bq0_⟩
    replace c9 := Bool.eq_false_iff.mpr c9
    subst c9
    rw [if_neg ff_] at H
    obtain rfl := Option.some.inj H
    go_wp2
    go_ret
    exact ⟨by first | rfl | (simp [errW_none, errW_some] <;> rfl) | (simp [*, errW_none, errW_some] <;> rfl) | (simp [errW_none, errW_some]; exact isEmpty_bne _), bq0_⟩
   rw [if_pos c5] at H
   have c5b0 := decide_eq_true c5
   clear c5
   by_cases c6 : 0 ≤ x14_1
   case neg =>
    rw [if_neg c6] at H
    exact absurd H (by simp)
   rw [if_pos c6] at H
   have c6b0 := decide_eq_true c6
   clear c6
   by_cases c7 : x14_1 < (t148.length : Int)
   case neg =>
    rw [if_neg c7] at H
    exact absurd H (by simp)
   rw [if_pos c7] at H
   have c7b0 := decide_eq_true c7
   clear c7
   by_cases c8 : x4_1 = true
   case pos =>
    subst c8
    rw [if_pos rfl] at H
    have H' := a0_ H
    clear H
    have p152 := t0_ (x14_1)
    have q152 := tl_ (x14_1) (t148.length)
    obtain ⟨ad152, e152, hx152_0⟩ := Kd.at_string (Kd.R_reads' HO_12.out).2.2 x14_1 (of_eq_true p152) (of_eq_true q152)
    cases e152
    go_wp2
    go_roundg k1
    case measure => have := HK1.out; omega
    case rel => exact ⟨(((rdOf ByteArray.empty t148 x14_1).toList != ([42] : List UInt8))), (wrap64 (x14_1 + 1)), rs_, rs_, H', jl_ HK1, ⟨kR_ HO_12.out⟩, ⟨bq0_⟩⟩
   replace c8 := Bool.eq_false_iff.mpr c8
   subst c8
   rw [if_neg ff_] at H
   have H' := a0_ H
   clear H
   have p152 := t0_ (x14_1)
   have q152 := tl_ (x14_1) (t148.length)
   obtain ⟨ad152, e152, hx152_0⟩ := Kd.at_string (Kd.R_reads' HO_12.out).2.2 x14_1 (of_eq_true p152) (of_eq_true q152)
   cases e152
   go_wp2
   go_roundg k1
   case measure => have := HK1.out; omega
   case rel => exact ⟨(false), (wrap64 (x14_1 + 1)), rs_, rs_, H', jl_ HK1, ⟨kR_ HO_12.out⟩, ⟨bq0_⟩⟩
def spec_l2Bytes.l0 : Nat → ByteArray → List ByteArray → Int → Int → Option (ByteArray)
 | 0, _, _, _, _ => none
 | k + 1, x5, x13, x14, x15 => if x15 < x14 then (if 0 ≤ x15 then (if x15 < (x13.length : Int) then ((some (([(((rdOf ByteArray.empty x13 x15).size : Int)) % 256] : List Int) : List Int)).bind fun y158 => (if (strOfNums y158).size + (rdOf ByteArray.empty x13 x15).size ≤ 9223372036854775807 then (if x5.size + ((strOfNums y158) ++ (rdOf ByteArray.empty x13 x15)).size ≤ 9223372036854775807 then (spec_l2Bytes.l0 k (x5 ++ ((strOfNums y158) ++ (rdOf ByteArray.empty x13 x15))) x13 x14 (wrap64 (x15 + 1))) else (none)) else (none))) else (none)) else (none)) else (if x5.size + 1 ≤ 9223372036854775807 then (some (x5 ++ (⟨#[0]⟩ : ByteArray))) else (none))
def spec_l2Bytes.f (k : Nat) (a0 : ByteArray) : Option (ByteArray) := (spec_l1Labels.f k a0).bind fun bt153 => (spec_l2Bytes.l0 k (⟨#[]⟩ : ByteArray) bt153.1 (bt153.1.length : Int) 0)
theorem spec_l2Bytes.mono_l : ∀ k, (∀ y0 y1 y2 y3, LeO (spec_l2Bytes.l0 k y0 y1 y2 y3) (spec_l2Bytes.l0 (k + 1) y0 y1 y2 y3))
 | 0 => fun _ _ _ _ r h => by simp [spec_l2Bytes.l0] at h
 | k + 1 => by
  have ih0 := spec_l2Bytes.mono_l k
  · intro y0 y1 y2 y3
    unfold spec_l2Bytes.l0
    repeat' first | (with_reducible first | exact ih0 _ _ _ _ | exact spec_l1Labels.mono _ _ | exact LeO.refl _ | exact LeO.none _ | refine LeO.ite ?_ ?_ | refine LeO.bind ?_ (fun _ => ?_)) | exact LeO.none _ | refine LeO.ite ?_ ?_ | refine LeO.bind ?_ (fun _ => ?_)
theorem spec_l2Bytes.mono : ∀ a0 k, LeO (spec_l2Bytes.f k a0) (spec_l2Bytes.f (k + 1) a0) := by
 intro a0 k
 have ih0 := spec_l2Bytes.mono_l k
 unfold spec_l2Bytes.f
 repeat' first | (with_reducible first | exact ih0 _ _ _ _ | exact spec_l1Labels.mono _ _ | exact LeO.refl _ | exact LeO.none _ | refine LeO.ite ?_ ?_ | refine LeO.bind ?_ (fun _ => ?_)) | exact LeO.none _ | refine LeO.ite ?_ ?_ | refine LeO.bind ?_ (fun _ => ?_)
theorem spec_l2Bytes.calls (k : Nat) (a0 : ByteArray) (r : ByteArray) (w : World) (h : spec_l2Bytes.f k a0 = some r) :
 Calls Tryz.prog 120 #[.string a0] w fun e w' => e = .returned (.string r) ∧ Below w.heap.size w w' := by
 have HB := a0_ (Below.refl w.heap.size w)
 have H := h
 clear h
 unfold spec_l2Bytes.f at H
 obtain ⟨⟨t153, t154⟩, A2, H⟩ := ob_ H
 have H' := a0_ H
 clear H
 go_enter Tryz.func120, Tryz.ntmps120
 go_wp2_with (first | ((with_reducible refine gt_ 171 rfl ?_); refine gs_ 10 Tryz.func171 #[.string a0] ?_; (with_reducible refine (spec_l1Labels.calls k a0 t153 t154 _ A2.out).mono ?_); rintro e w3 ⟨v155, rfl, ho0, hb⟩; refine ⟨_, rfl, ?_⟩; have HO156 := a0_ (Kd.R_lower ho0 (below_size bq0_)); replace HB := a0_ (below_step bq0_ hb); clear hb; (try clear ho0); obtain ⟨Ao4, co4, eo4⟩ := Kd.R_slice HO156.out; subst eo4))
 go_loopg [5, 15] k (fun kq v5 v15 w' => ∃ (x5_1 : ByteArray) (x15_1 : Int), v5 = .string x5_1 ∧ v15 = .int .i64 x15_1 ∧ Aside0 (spec_l2Bytes.l0 kq x5_1 t153 (t153.length : Int) x15_1 = some r) ∧ Aside0 (kq ≤ k) ∧ Aside0 (Kd.R Kd.string 9 w' w.heap.size (fun _ => True) (.slice Ao4 t153.length co4) t153) ∧ Aside0 (Below w.heap.size w w'))
 case atStart => exact ⟨((⟨#[]⟩ : ByteArray)), (0), rs_, rs_, H', ⟨Nat.le_refl _⟩, ⟨kR_ HO156.out⟩, ⟨bq0_⟩⟩
 case round =>
  clear H'
  obtain ⟨x5_1, x15_1, rfl, rfl, HA, HK1, HO_13, HB⟩ := hrel
  cases gk with
  | zero => exact absurd HA.out (by simp [spec_l2Bytes.l0])
  | succ k1 =>
   have H := HA.out
   clear HA
   simp only [spec_l2Bytes.l0] at H
   by_cases c5 : x15_1 < (t153.length : Int)
   case neg =>
    rw [if_neg c5] at H
    have c5b0 := decide_eq_false c5
    clear c5
    by_cases c13 : x5_1.size + 1 ≤ 9223372036854775807
    case neg =>
     rw [if_neg c13] at H
     exact absurd H (by simp)
    rw [if_pos c13] at H
    have c13b0 := eq_true c13
    have c13b1 := decide_eq_true c13
    try have c13b2 : (9223372036854775807 < x5_1.size + 1) = False := eq_false (Nat.not_lt.2 c13)
    obtain rfl := Option.some.inj H
    go_wp2
    go_ret
    exact ⟨rr_, bq0_⟩
   rw [if_pos c5] at H
   have c5b0 := decide_eq_true c5
   clear c5
   by_cases c6 : 0 ≤ x15_1
   case neg =>
    rw [if_neg c6] at H
    exact absurd H (by simp)
   rw [if_pos c6] at H
   have c6b0 := decide_eq_true c6
   clear c6
   by_cases c7 : x15_1 < (t153.length : Int)
   case neg =>
    rw [if_neg c7] at H
    exact absurd H (by simp)
   rw [if_pos c7] at H
   have c7b0 := decide_eq_true c7
   clear c7
   obtain ⟨y158, hy158⟩ : ∃ y_ : List Int, y_ = (([(((rdOf ByteArray.empty t153 x15_1).size : Int)) % 256] : List Int)) := ⟨_, rfl⟩
   replace H := by_ hy158 H
   have Ny158 := a0_ hy158
   clear hy158
   by_cases c8 : (strOfNums y158).size + (rdOf ByteArray.empty t153 x15_1).size ≤ 9223372036854775807
   case neg =>
    rw [if_neg c8] at H
    exact absurd H (by simp)
   rw [if_pos c8] at H
   have c8b0 := eq_true c8
   have c8b1 := decide_eq_true c8
   try have c8b2 : (9223372036854775807 < (strOfNums y158).size + (rdOf ByteArray.empty t153 x15_1).size) = False := eq_false (Nat.not_lt.2 c8)
   by_cases c9 : x5_1.size + ((strOfNums y158) ++ (rdOf ByteArray.empty t153 x15_1)).size ≤ 9223372036854775807
   case neg =>
    rw [if_neg c9] at H
    exact absurd H (by simp)
   rw [if_pos c9] at H
   have c9b0 := eq_true c9
   have c9b1 := decide_eq_true c9
   try have c9b2 : (9223372036854775807 < x5_1.size + ((strOfNums y158) ++ (rdOf ByteArray.empty t153 x15_1)).size) = False := eq_false (Nat.not_lt.2 c9)
   have H' := a0_ H
   clear H
   have p157 := t0_ (x15_1)
   have q157 := tl_ (x15_1) (t153.length)
   obtain ⟨ad157, e157, hx157_0⟩ := Kd.at_string (Kd.R_reads' HO_13.out).2.2 x15_1 (of_eq_true p157) (of_eq_true q157)
   cases e157
   go_wp2_with (first | ((with_reducible refine gate_dst (N := 23) rfl ?_); refine Kd.R_lit (Kd.int .u8) _ 5 ?hg (N := 23) ?hd (xs := ([(((rdOf ByteArray.empty t153 x15_1).size : Int)) % 256] : List Int)) (inner := [.int .u8 ((((rdOf ByteArray.empty t153 x15_1).size : Int)) % 256)]) (ok := fun _ => True) (okp := fun _ => True) ?hr ?hp (fun _ hk => hk) trivial (Below.refl _ _) (Nat.le_refl _) (by simp) ?_; (case hd => rfl); (case hg => rfl); (case hr => first | (go_simp; done) | (go_simp; rfl)); (case hp => exact (Reps.one (show Kd.M (Kd.int .u8) _ _ _ ((((rdOf ByteArray.empty t153 x15_1).size : Int)) % 256) [.int .u8 ((((rdOf ByteArray.empty t153 x15_1).size : Int)) % 256)] from rfl) (Reps.none _ _))); intro v159 w10 ho11 hb hg_ hnew_; clear hg_ hnew_; (first | rw [← Ny158.out] at ho11 | (simp only [Int.reduceToNat] at ho11; rw [← Ny158.out] at ho11)); replace HO_13 := a0_ (Kd.R_below (kR_ HO_13.out) hb); have HO160 := a0_ (Kd.R_lower ho11 (below_size bq0_)); replace HB := a0_ (below_step bq0_ hb); clear hb ho11; have hcv12 := own_string (P := Tryz.prog) Tryz.underlying43 Tryz.underlying5 Tryz.underlying9 (Kd.own_of_R HO160.out)))
   go_roundg k1
   case measure => have := HK1.out; omega
   case rel => exact ⟨(x5_1 ++ ((strOfNums y158) ++ (rdOf ByteArray.empty t153 x15_1))), (wrap64 (x15_1 + 1)), rs_, rs_, H', jl_ HK1, ⟨kR_ HO_13.out⟩, ⟨bq0_⟩⟩
end Go.Proofs.YtiegkjimpclmaaaGreatDoor.P
namespace Go.Proofs.YtiegkjimpclmaaaGreatDoor.P
attribute [local go_sem] max2_int min2_int max_two min_two max_three min_three max_four min_four
attribute [local go_sem] gtr_less
mutual
def spec_l1Compare.l0 : Nat → List ByteArray → List ByteArray → Int → Option (Int)
 | 0, _, _, _ => none
 | k + 1, x5, x7, x9 => if x9 ≤ (x5.length : Int) then (spec_l1Compare.j1 k x5 x7 x9 (decide (x9 ≤ (x7.length : Int)))) else (spec_l1Compare.j1 k x5 x7 x9 false)
def spec_l1Compare.j1 : Nat → List ByteArray → List ByteArray → Int → Bool → Option (Int)
 | 0, _, _, _, _ => none
 | k + 1, x5, x7, x9, x31 => if x31 = true then (if 0 ≤ (wrap64 ((x5.length : Int) - x9)) then (if (wrap64 ((x5.length : Int) - x9)) < (x5.length : Int) then (if 0 ≤ (wrap64 ((x7.length : Int) - x9)) then (if (wrap64 ((x7.length : Int) - x9)) < (x7.length : Int) then (if (Op.bytesLess ((rdOf ByteArray.empty x5 (wrap64 ((x5.length : Int) - x9))).toList) ((rdOf ByteArray.empty x7 (wrap64 ((x7.length : Int) - x9))).toList)) = true then (some (-1)) else (if (Op.bytesLess ((rdOf ByteArray.empty x7 (wrap64 ((x7.length : Int) - x9))).toList) ((rdOf ByteArray.empty x5 (wrap64 ((x5.length : Int) - x9))).toList)) = true then (some 1) else (spec_l1Compare.l0 k x5 x7 (wrap64 (x9 + 1))))) else (none)) else (none)) else (none)) else (none)) else (if (x5.length : Int) < (x7.length : Int) then (some (-1)) else (if (x5.length : Int) > (x7.length : Int) then (some 1) else (some 0)))
end
def spec_l1Compare.f (k : Nat) (a0 : ByteArray) (a1 : ByteArray) : Option (Int) := (spec_l1Labels.f k a0).bind fun bt296 => ((spec_l1Labels.f k a1).bind fun bt300 => (spec_l1Compare.l0 k bt296.1 bt300.1 1))
theorem spec_l1Compare.calls (k : Nat) (a0 : ByteArray) (a1 : ByteArray) (r : Int) (w : World) (h : spec_l1Compare.f k a0 a1 = some r) :
 Calls Tryz.prog 128 #[.string a0, .string a1] w fun e w' => e = .returned (.int .i64 r) ∧ Below w.heap.size w w' := by
 have HB := a0_ (Below.refl w.heap.size w)
 have H := h
 clear h
 unfold spec_l1Compare.f at H
 obtain ⟨⟨t296, t297⟩, A3, H⟩ := ob_ H
 obtain ⟨⟨t300, t301⟩, A4, H⟩ := ob_ H
 have H' := a0_ H
 clear H
 go_enter Tryz.func128, Tryz.ntmps128
 go_wp2_with (first | ((with_reducible refine gt_ 171 rfl ?_); refine gs_ 14 Tryz.func171 #[.string a0] ?_; (with_reducible refine (spec_l1Labels.calls k a0 t296 t297 _ A3.out).mono ?_); rintro e w5 ⟨v298, rfl, ho0, hb⟩; refine ⟨_, rfl, ?_⟩; have HO299 := a0_ (Kd.R_lower ho0 (below_size bq0_)); replace HB := a0_ (below_step bq0_ hb); clear hb; (try clear ho0)) | ((with_reducible refine gt_ 171 rfl ?_); refine gs_ 19 Tryz.func171 #[.string a1] ?_; (with_reducible refine (spec_l1Labels.calls k a1 t300 t301 _ A4.out).mono ?_); rintro e w6 ⟨v302, rfl, ho0, hb⟩; refine ⟨_, rfl, ?_⟩; have HO303 := a0_ (Kd.R_lower (Kd.R_new' ho0 (Kd.R_lt (kR_ HO299.out))) (below_size bq0_)); replace HO299 := a0_ (Kd.R_elder' (kR_ HO299.out) (Kd.R_base ho0) hb); replace HB := a0_ (below_step bq0_ hb); clear hb; (try clear ho0)))
 go_loopg [9] k (fun kq v9 w' => ∃ (x9_1 : Int), v9 = .int .i64 x9_1 ∧ Aside0 (spec_l1Compare.l0 kq t296 t300 x9_1 = some r) ∧ Aside0 (kq ≤ k) ∧ Aside0 (Kd.R Kd.string 9 w' w.heap.size (fun k_ => some k_ ≠ (v302 : Value).ownBlock) v298 t296) ∧ Aside0 (Kd.R Kd.string 9 w' w.heap.size (fun k_ => some k_ ≠ (v298 : Value).ownBlock) v302 t300) ∧ Aside0 (Below w.heap.size w w'))
 case atStart => exact ⟨(1), rs_, H', ⟨Nat.le_refl _⟩, ⟨kR_ (Kd.R_mono HO299.out (fun _ hk => hk.2))⟩, ⟨kR_ (Kd.R_mono HO303.out (fun _ hk => hk.2))⟩, ⟨bq0_⟩⟩
 case round =>
  clear H'
  obtain ⟨x9_1, rfl, HA, HK1, HO_5, HO_7, HB⟩ := hrel
  cases gk with
  | zero => exact absurd HA.out (by simp [spec_l1Compare.l0])
  | succ k1 =>
   have H := HA.out
   clear HA
   simp only [spec_l1Compare.l0] at H
   have HC7 := a0_ H
   clear H
   go_upto_region 4 with (fail)
   go_cut [31] (fun v31 wc => ∃ (kq : Nat) (x31_6 : Bool), v31 = .bool x31_6 ∧ Aside0 (spec_l1Compare.j1 kq t296 t300 x9_1 x31_6 = some r) ∧ Aside0 (kq ≤ k1) ∧ Aside0 (Kd.R Kd.string 9 wc w.heap.size (fun k_ => some k_ ≠ (v302 : Value).ownBlock) v298 t296) ∧ Aside0 (Kd.R Kd.string 9 wc w.heap.size (fun k_ => some k_ ≠ (v298 : Value).ownBlock) v302 t300) ∧ Aside0 (Below w.heap.size w wc))
   case first =>
    have H := HC7.out
    clear HC7
    by_cases c8 : x9_1 ≤ (t296.length : Int)
    case neg =>
     rw [if_neg c8] at H
     have c8b0 := decide_eq_false c8
     clear c8
     (first | rw [c8b0] | (simp only [i64_w, i32_w]; rw [c8b0]) | skip)
     have H' := a0_ H
     clear H
     obtain ⟨Ao11, co11, eo11⟩ := Kd.R_slice HO_5.out
     subst eo11
     go_wp2
     go_meet
     case rel => exact ⟨_, (false), rs_, H', jl_ HK1, ⟨kR_ HO_5.out⟩, ⟨kR_ HO_7.out⟩, ⟨bq0_⟩⟩
    rw [if_pos c8] at H
    have c8b0 := decide_eq_true c8
    clear c8
    (first | rw [c8b0] | (simp only [i64_w, i32_w]; rw [c8b0]) | skip)
    have H' := a0_ H
    clear H
    obtain ⟨Ao9, co9, eo9⟩ := Kd.R_slice HO_5.out
    subst eo9
    obtain ⟨Ao10, co10, eo10⟩ := Kd.R_slice HO_7.out
    subst eo10
    go_wp2
    go_meet
    case rel => exact ⟨_, (decide (x9_1 ≤ (t300.length : Int))), rs_, H', jl_ HK1, ⟨kR_ HO_5.out⟩, ⟨kR_ HO_7.out⟩, ⟨bq0_⟩⟩
   case rest =>
    clear HC7
    try clear c1
    try clear p2
    try clear p2
    obtain ⟨kq, x31_6, rfl, HA, HJ6, HO_5, HO_7, HB⟩ := hcut
    cases kq with
    | zero => exact absurd HA.out (by simp [spec_l1Compare.j1])
    | succ kj6 =>
     have H := HA.out
     clear HA
     simp only [spec_l1Compare.j1] at H
     by_cases c12 : x31_6 = true
     case neg =>
      replace c12 := Bool.eq_false_iff.mpr c12
      subst c12
      rw [if_neg ff_] at H
      by_cases c27 : (t296.length : Int) < (t300.length : Int)
      case pos =>
       rw [if_pos c27] at H
       have c27b0 := decide_eq_true c27
       have c27b1 : decide (t296.length < t300.length) = true := decide_eq_true (Int.ofNat_lt.mp c27)
       clear c27
       obtain rfl := Option.some.inj H
       obtain ⟨Ao28, co28, eo28⟩ := Kd.R_slice HO_5.out
       subst eo28
       obtain ⟨Ao29, co29, eo29⟩ := Kd.R_slice HO_7.out
       subst eo29
       go_wp2
       go_ret
       exact ⟨rr_, bq0_⟩
      rw [if_neg c27] at H
      have c27b0 := decide_eq_false c27
      have c27b1 : decide (t296.length < t300.length) = false := decide_eq_false (fun h => c27 (Int.ofNat_lt.mpr h))
      clear c27
      by_cases c30 : (t296.length : Int) > (t300.length : Int)
      case neg =>
       rw [if_neg c30] at H
       have c30b0 := decide_eq_false c30
       have c30b1 : decide (t300.length < t296.length) = false := decide_eq_false (fun h => c30 (Int.ofNat_lt.mpr h))
       clear c30
       obtain rfl := Option.some.inj H
       obtain ⟨Ao33, co33, eo33⟩ := Kd.R_slice HO_5.out
       subst eo33
       obtain ⟨Ao34, co34, eo34⟩ := Kd.R_slice HO_7.out
       subst eo34
       go_wp2
       go_ret
       exact ⟨rr_, bq0_⟩
      rw [if_pos c30] at H
      have c30b0 := decide_eq_true c30
      have c30b1 : decide (t300.length < t296.length) = true := decide_eq_true (Int.ofNat_lt.mp c30)
      clear c30
      obtain rfl := Option.some.inj H
      obtain ⟨Ao31, co31, eo31⟩ := Kd.R_slice HO_5.out
      subst eo31
      obtain ⟨Ao32, co32, eo32⟩ := Kd.R_slice HO_7.out
      subst eo32
      go_wp2
      go_ret
      exact ⟨rr_, bq0_⟩
     subst c12
     rw [if_pos rfl] at H
     obtain ⟨ji13, hji13⟩ : ∃ j_ : Int, (wrap64 ((t296.length : Int) - x9_1)) = j_ := ⟨_, rfl⟩
     (first | rw [hji13] at H | simp only [hji13] at H)
     have hji13w : (IntKind.i64.wrap ((t296.length : Int) - x9_1)) = ji13 := (i64_w _).trans hji13
     by_cases c14 : 0 ≤ (ji13)
     case neg =>
      rw [if_neg c14] at H
      exact absurd H (by simp)
     rw [if_pos c14] at H
     have c14b0 := decide_eq_true c14
     clear c14
     by_cases c15 : (ji13) < (t296.length : Int)
     case neg =>
      rw [if_neg c15] at H
      exact absurd H (by simp)
     rw [if_pos c15] at H
     have c15b0 := decide_eq_true c15
     clear c15
     obtain ⟨ji16, hji16⟩ : ∃ j_ : Int, (wrap64 ((t300.length : Int) - x9_1)) = j_ := ⟨_, rfl⟩
     (first | rw [hji16] at H | simp only [hji16] at H)
     have hji16w : (IntKind.i64.wrap ((t300.length : Int) - x9_1)) = ji16 := (i64_w _).trans hji16
     by_cases c17 : 0 ≤ (ji16)
     case neg =>
      rw [if_neg c17] at H
      exact absurd H (by simp)
     rw [if_pos c17] at H
     have c17b0 := decide_eq_true c17
     clear c17
     by_cases c18 : (ji16) < (t300.length : Int)
     case neg =>
      rw [if_neg c18] at H
      exact absurd H (by simp)
     rw [if_pos c18] at H
     have c18b0 := decide_eq_true c18
     clear c18
     by_cases c19 : (Op.bytesLess ((rdOf ByteArray.empty t296 (ji13)).toList) ((rdOf ByteArray.empty t300 (ji16)).toList)) = true
     case pos =>
      rw [if_pos c19] at H
      have c19b0 : (Op.bytesLess ((rdOf ByteArray.empty t296 (ji13)).toList) ((rdOf ByteArray.empty t300 (ji16)).toList)) = true := c19
      clear c19
      obtain rfl := Option.some.inj H
      obtain ⟨Ao20, co20, eo20⟩ := Kd.R_slice HO_5.out
      subst eo20
      have p304 := t0_ ((ji13))
      have q304 := tl_ ((ji13)) (t296.length)
      obtain ⟨ad304, e304, hx304_0⟩ := Kd.at_string (Kd.R_reads' HO_5.out).2.2 (ji13) (of_eq_true p304) (of_eq_true q304)
      cases e304
      obtain ⟨Ao21, co21, eo21⟩ := Kd.R_slice HO_7.out
      subst eo21
      have p305 := t0_ ((ji16))
      have q305 := tl_ ((ji16)) (t300.length)
      obtain ⟨ad305, e305, hx305_0⟩ := Kd.at_string (Kd.R_reads' HO_7.out).2.2 (ji16) (of_eq_true p305) (of_eq_true q305)
      cases e305
      go_wp2
      go_ret
      exact ⟨by first | rfl | (simp [errW_none, errW_some] <;> rfl) | (simp only [← hji13, ← hji16]; first | rfl | (simp [errW_none, errW_some] <;> rfl)) | (simp [*, errW_none, errW_some] <;> rfl), bq0_⟩
     rw [if_neg c19] at H
     have c19b0 : (Op.bytesLess ((rdOf ByteArray.empty t296 (ji13)).toList) ((rdOf ByteArray.empty t300 (ji16)).toList)) = false := by simpa using c19
     clear c19
     by_cases c22 : (Op.bytesLess ((rdOf ByteArray.empty t300 (ji16)).toList) ((rdOf ByteArray.empty t296 (ji13)).toList)) = true
     case pos =>
      rw [if_pos c22] at H
      have c22b0 : (Op.bytesLess ((rdOf ByteArray.empty t300 (ji16)).toList) ((rdOf ByteArray.empty t296 (ji13)).toList)) = true := c22
      clear c22
      obtain rfl := Option.some.inj H
      obtain ⟨Ao23, co23, eo23⟩ := Kd.R_slice HO_5.out
      subst eo23
      have p304 := t0_ ((ji13))
      have q304 := tl_ ((ji13)) (t296.length)
      obtain ⟨ad304, e304, hx304_0⟩ := Kd.at_string (Kd.R_reads' HO_5.out).2.2 (ji13) (of_eq_true p304) (of_eq_true q304)
      cases e304
      obtain ⟨Ao24, co24, eo24⟩ := Kd.R_slice HO_7.out
      subst eo24
      have p305 := t0_ ((ji16))
      have q305 := tl_ ((ji16)) (t300.length)
      obtain ⟨ad305, e305, hx305_0⟩ := Kd.at_string (Kd.R_reads' HO_7.out).2.2 (ji16) (of_eq_true p305) (of_eq_true q305)
      cases e305
      go_wp2
      go_ret
      exact ⟨by first | rfl | (simp [errW_none, errW_some] <;> rfl) | (simp only [← hji13, ← hji16]; first | rfl | (simp [errW_none, errW_some] <;> rfl)) | (simp [*, errW_none, errW_some] <;> rfl), bq0_⟩
     rw [if_neg c22] at H
     have c22b0 : (Op.bytesLess ((rdOf ByteArray.empty t300 (ji16)).toList) ((rdOf ByteArray.empty t296 (ji13)).toList)) = false := by simpa using c22
     clear c22
     have H' := a0_ H
     clear H
     obtain ⟨Ao25, co25, eo25⟩ := Kd.R_slice HO_5.out
     subst eo25
     have p304 := t0_ ((ji13))
     have q304 := tl_ ((ji13)) (t296.length)
     obtain ⟨ad304, e304, hx304_0⟩ := Kd.at_string (Kd.R_reads' HO_5.out).2.2 (ji13) (of_eq_true p304) (of_eq_true q304)
     cases e304
     obtain ⟨Ao26, co26, eo26⟩ := Kd.R_slice HO_7.out
     subst eo26
     have p305 := t0_ ((ji16))
     have q305 := tl_ ((ji16)) (t300.length)
     obtain ⟨ad305, e305, hx305_0⟩ := Kd.at_string (Kd.R_reads' HO_7.out).2.2 (ji16) (of_eq_true p305) (of_eq_true q305)
     cases e305
     go_wp2
     go_roundg kj6
     case measure => have := HK1.out; have := HJ6.out; omega
     case rel => exact ⟨(wrap64 (x9_1 + 1)), rs_, H', jm_ HK1 HJ6, ⟨kR_ HO_5.out⟩, ⟨kR_ HO_7.out⟩, ⟨bq0_⟩⟩
end Go.Proofs.YtiegkjimpclmaaaGreatDoor.P
namespace Go.Proofs.YtiegkjimpclmaaaGreatDoor.P
attribute [local go_sem] max2_int min2_int max_two min_two max_three min_three max_four min_four
def impl_compareKeys.f (k : Nat) (a0_0 : ByteArray) (a0_1 : Int) (a0_2 : Int) (a0_3 : ByteArray) (a1_0 : ByteArray) (a1_1 : Int) (a1_2 : Int) (a1_3 : ByteArray) : Option (Int) := (impl_compareNames.f k a0_0 a1_0).bind fun t391 => ((cmp_Compare_int.f a0_1 a1_1).bind fun t392 => ((cmp_Or_int.f k (([t391, t392] : List Int))).bind fun t396 => (some t396)))
def impl_compareKeys.T1 : Bool × List (List Nat × List Nat) := (true, [([], []), ([0], [0]), ([], []), ([2], [2]), ([1, 3], [1, 3]), ([], []), ([5], [5]), ([], []), ([7], [7]), ([6, 8, 4], [6, 8]), ([4, 9], [4, 9]), ([10, 9], [10]), ([11, 11, 0, 1, 2, 3, 4, 5, 6, 7, 8, 9, 10, 11], [11])])
def impl_compareKeys.B1 : List Nat := [0, 1, 0, 4, 15, 0, 32, 0, 128, 511, 1023, 2047, 4095]
theorem impl_compareKeys.tab1 : rtab .any (opsOf Tryz.f65 1) = impl_compareKeys.T1 := by kernel_rfl
theorem impl_compareKeys.bits1 : waitsOk impl_compareKeys.T1.2 impl_compareKeys.B1 = true := by kernel_rfl
theorem impl_compareKeys.calls (k : Nat) (a0_0 : ByteArray) (a0_1 : Int) (a0_2 : Int) (a0_3 : ByteArray) (a1_0 : ByteArray) (a1_1 : Int) (a1_2 : Int) (a1_3 : ByteArray) (r : Int) (w : World) (h : impl_compareKeys.f k a0_0 a0_1 a0_2 a0_3 a1_0 a1_1 a1_2 a1_3 = some r) :
 Calls Tryz.prog 65 #[.agg #[.string a0_0, .int .i64 a0_1, .int .i64 a0_2, .string a0_3], .agg #[.string a1_0, .int .i64 a1_1, .int .i64 a1_2, .string a1_3]] w fun e w' => e = .returned (.int .i64 r) ∧ Below w.heap.size w w' := by
 have hu45 := Tryz.underlying45
 have HB := a0_ (Below.refl w.heap.size w)
 have H := h
 clear h
 unfold impl_compareKeys.f at H
 obtain ⟨t391, A3, H⟩ := ob_ H
 obtain ⟨t392, A4, H⟩ := ob_ H
 obtain ⟨y393, hy393⟩ : ∃ y_ : List Int, y_ = (([t391, t392] : List Int)) := ⟨_, rfl⟩
 rw [← hy393] at H
 have Ny393 := a0_ hy393
 clear hy393
 obtain ⟨t396, A5, H⟩ := ob_ H
 obtain rfl := Option.some.inj H
 go_enter Tryz.func65, Tryz.ntmps65
 try go_wp2_with (first | ((with_reducible refine gate_dst (N := 2) rfl ?_); refine boxS_ 2 #[.string a0_0, .int .i64 a0_1, .int .i64 a0_2, .string a0_3] 45 (fun gb389 hg w6 hbox hb => ?_); have BK389 := a0_ (hbox); have GW389 := a0_ (gw_ hg : w.heap.size ≤ gb389); replace HB := a0_ (below_step bq0_ hb); have GE389 := GW389; clear hb hbox hg) | ((with_reducible refine gate_dst (N := 3) rfl ?_); refine boxS_ 3 #[.string a1_0, .int .i64 a1_1, .int .i64 a1_2, .string a1_3] 45 (fun gb390 hg w7 hbox hb => ?_); have BK390 := a0_ (hbox); have GW390 := a0_ (gw_ hg (below_size bq1_) : w.heap.size ≤ gb390); replace HB := a0_ (below_step bq1_ hb); have NB389_390 := a0_ ((by rw [hg]; exact Nat.ne_of_lt (blk_lt (g := gb389) (o := .cells #[.string a0_0, .int .i64 a0_1, .int .i64 a0_2, .string a0_3] 45 (0, 0)) (kB_ BK389.out)) : gb389 ≠ gb390)); have NB390_389 := a0_ ((by rw [hg]; exact Nat.ne_of_gt (blk_lt (g := gb389) (o := .cells #[.string a0_0, .int .i64 a0_1, .int .i64 a0_2, .string a0_3] 45 (0, 0)) (kB_ BK389.out)) : gb390 ≠ gb389)); replace BK389 := a0_ (bkB_ BK389 hb); have GE390 := GW390; clear hb hbox hg))
 replace BK389 := a0_ (blk_drew BK389.out)
 replace BK390 := a0_ (blk_drew BK390.out)
 replace HB := a0_ (below_drew1 HB.out)
 refine stH_ 13 [] (cb_ BK389.out (eb_ BK390.out)) (fun hHeld => ?_); refine with_tabW impl_compareKeys.tab1 impl_compareKeys.bits1 (fun HT_ HW_ => ?_)
 generalize w7.drew = w8 at BK389 BK390 HB hHeld ⊢
 refine p_ 0 5 ?_
 refine p_ 2 7 ?_
 refine p_ 5 10 ?_
 refine p_ 7 12 ?_
 refine t_ 1 6 ?_
 refine t_ 3 8 ?_
 refine t_ 6 11 ?_
 refine t_ 8 13 ?_
 refine oneS_ 4 (some 9) (fun K hK => ?_)
 refine goes_ Tryz.func132 (by kernel_rfl) rfl #[.string a0_0, .string a1_0] (by rfl) rfl rfl argsS_ ?_
 with_reducible refine (impl_compareNames.calls k a0_0 a1_0 t391 _ A3.out).mono ?_
 rintro e w9 ⟨rfl, hb⟩
 refine ⟨_, rfl, ?_⟩
 replace BK389 := a0_ (bkB_ BK389 hb)
 replace BK390 := a0_ (bkB_ BK390 hb)
 replace HB := a0_ (below_step bq1_ hb)
 (try clear hb)
 (try clear hb2)
 (try clear hk)
 (try clear hi)
 refine hK.out _ _ (cb_ BK389.out (eb_ BK390.out)).out (fun hHeld => ?_)
 clear hK K
 refine normS_ ?_
 refine oneS_ 9 (some 14) (fun K hK => ?_)
 refine goes_ Tryz.func133 (by kernel_rfl) rfl #[.int .i64 a0_1, .int .i64 a1_1] (by rfl) rfl rfl argsS_ ?_
 with_reducible refine (cmp_Compare_int.calls a0_1 a1_1 t392 _ A4.out).mono ?_
 rintro e w' ⟨rfl, ⟨nd, rfl⟩⟩
 refine ⟨_, rfl, ?_⟩
 refine hK.out _ _ (cb_ BK389.out (eb_ BK390.out)).out (fun hHeld => ?_)
 clear hK K
 refine normS_ ?_
 refine oneS_ 10 (some 15) (fun K hK => ?_)
 refine Kd.R_lit_step (Kd.int .i64) _ 3 ?hg (N := 15) ?hd (xs := ([t391, t392] : List Int)) (inner := [.int .i64 t391, .int .i64 t392]) (ok := fun _ => True) (okp := fun _ => True) ?hr ?hp (fun _ hk => hk) trivial (Below.refl _ _) (Nat.le_refl _) (by simp) ?_; (case hd => rfl); (case hg => rfl); (case hr => first | (go_simp; done) | (go_simp; rfl)); (case hp => exact (Reps.one (show Kd.M (Kd.int .i64) _ _ _ t391 [.int .i64 t391] from rfl) (Reps.one (show Kd.M (Kd.int .i64) _ _ _ t392 [.int .i64 t392] from rfl) (Reps.none _ _))))
 intro v394 w10 ho11 hb hg_ hnew_
 clear hg_ hnew_
 (first | rw [← Ny393.out] at ho11 | (simp only [Int.reduceToNat] at ho11; rw [← Ny393.out] at ho11))
 have HO395 := a0_ (Kd.R_lower ho11 (below_size bq1_))
 replace BK389 := a0_ (bkB_ BK389 hb)
 replace BK390 := a0_ (bkB_ BK390 hb)
 replace HB := a0_ (below_step bq1_ hb)
 clear hb ho11
 obtain ⟨Ao12, co12, eo12⟩ := Kd.R_slice HO395.out
 (first | subst eo12 | (injection eo12 with f1_ f2_ f3_; have f4_ := f1_.symm; have f5_ := f3_.symm; clear f1_ f2_ f3_; subst f4_; subst f5_))
 refine hK.out _ _ (cb_ BK389.out (eb_ BK390.out)).out (fun hHeld => ?_)
 clear hK K
 refine normS_ ?_
 refine oneS_ 11 (some 16) (fun K hK => ?_)
 refine goes_ Tryz.func131 (by kernel_rfl) rfl #[.slice Ao12 y393.length co12] (by rfl) rfl rfl argsS_ ?_
 with_reducible refine (cmp_Or_int.calls k _ _ y393 t396 _ ?side1 ?side2 A5.out).mono ?_
 (case side1 => exact kD_ (Kd.R_reads' HO395.out).2.2)
 (case side2 => exact (Kd.R_reads' HO395.out).2.1)
 rintro e w' ⟨rfl, ⟨nd, rfl⟩⟩
 refine ⟨_, rfl, ?_⟩
 refine hK.out _ _ (cb_ BK389.out (eb_ BK390.out)).out (fun hHeld => ?_)
 clear hK K
 refine normS_ ?_
 refine p_ 12 4 ?_
 refine done_ (done_of HT_.out (by kernel_rfl)) ?_
 try go_wp2
 go_ret
 exact ⟨rr_, bq1_⟩
end Go.Proofs.YtiegkjimpclmaaaGreatDoor.P
