/- FnExactSetsOf: part 8 of 28 of my texts for this claim, joined; the theorem stands in the last. Conditions: none beyond the statement's. -/
import Derived.Test.YtiegkjimpclmaaaGreatDoorMFnExactSetsOfx5
namespace Go.Proofs.YtiegkjimpclmaaaGreatDoor.P
open Go.RowKit Go.Proofs.YtiegkjimpclmaaaGreatDoorW.PrintWords Go.Proofs.YtiegkjimpclmaaaGreatDoorW.PrintLast Go.Proofs.YtiegkjimpclmaaaGreatDoorW.PrintMore
attribute [local go_sem] max2_int min2_int max_two min_two max_three min_three max_four min_four
set_option linter.unusedVariables false
set_option linter.unusedSimpArgs false
mutual
def spec_l3Sets.l0 : Nat → List (S83) → List (S45) → Int → Int → Option ((List (S83)) × Bool)
 | 0, _, _, _, _ => none
 | k + 1, x4, x8, x9, x10 => if x10 < x9 then (if 0 ≤ x10 then (if x10 < (x8.length : Int) then (if (wrap64 ((x4.length : Int) - 1)) ≥ 0 then (if 0 ≤ (wrap64 ((x4.length : Int) - 1)) then (if (wrap64 ((x4.length : Int) - 1)) < (x4.length : Int) then (if ((rd_T83 x4 (wrap64 ((x4.length : Int) - 1))).f0).toList = ((rd_T45 x8 x10).f0).toList then (spec_l3Sets.j1 k x4 (wrap64 ((x4.length : Int) - 1)) x8 x9 x10 (((rd_T83 x4 (wrap64 ((x4.length : Int) - 1))).f1) == ((rd_T45 x8 x10).f1)) ((rd_T45 x8 x10).f0) ((rd_T45 x8 x10).f1) ((rd_T45 x8 x10).f2) ((rd_T45 x8 x10).f3)) else (spec_l3Sets.j1 k x4 (wrap64 ((x4.length : Int) - 1)) x8 x9 x10 false ((rd_T45 x8 x10).f0) ((rd_T45 x8 x10).f1) ((rd_T45 x8 x10).f2) ((rd_T45 x8 x10).f3))) else (none)) else (none)) else (spec_l3Sets.j1 k x4 (wrap64 ((x4.length : Int) - 1)) x8 x9 x10 false ((rd_T45 x8 x10).f0) ((rd_T45 x8 x10).f1) ((rd_T45 x8 x10).f2) ((rd_T45 x8 x10).f3))) else (none)) else (none)) else (some (x4, decide ((x4.length : Int) ≤ 40)))
def spec_l3Sets.j1 : Nat → List (S83) → Int → List (S45) → Int → Int → Bool → ByteArray → Int → Int → ByteArray → Option ((List (S83)) × Bool)
 | 0, _, _, _, _, _, _, _, _, _, _ => none
 | k + 1, x4, x7, x8, x9, x10, x38, x318000, x318001, x318002, x318003 => if x38 = true then (if 0 ≤ x7 then (if x7 < (x4.length : Int) then (if ((rd_T83 x4 x7).f2) = x318002 then (if ((rd_T83 x4 x7).f3).length < 8796093022208 then (spec_l3Sets.l0 k (x4.set (x7 : Int).toNat (⟨(rd_T83 x4 x7).f0, (rd_T83 x4 x7).f1, (rd_T83 x4 x7).f2, (((rd_T83 x4 x7).f3) ++ [x318003])⟩ : S83)) x8 x9 (wrap64 (x10 + 1))) else (none)) else (some (([] : List (S83)), false))) else (none)) else (none)) else (if x4.length < 2513169434916 then (spec_l3Sets.l0 k (x4 ++ [(⟨x318000, x318001, x318002, (([x318003] : List ByteArray))⟩ : S83)]) x8 x9 (wrap64 (x10 + 1))) else (none))
end
def spec_l3Sets.f (k : Nat) (l0 : List (S45)) : Option ((List (S83)) × Bool) := spec_l3Sets.l0 k ([] : List (S83)) l0 (l0.length : Int) 0
def spec_l3Sets.T6 : Bool × List (List Nat × List Nat) := (true, [([], []), ([0], [0]), ([1], [1]), ([2], [2]), ([2], [2]), ([3, 4, 2], [2, 3, 4]), ([5, 2], [2, 5]), ([6, 2], [2, 6]), ([2], [2]), ([8, 2], [2, 8]), ([7, 9, 2], [2, 7, 9]), ([2, 10], [2, 10]), ([11, 2], [11]), ([12], [12]), ([12], [12]), ([13, 14, 12], [12, 13, 14]), ([15, 12], [12, 15]), ([16, 12], [12, 16]), ([12], [12]), ([18, 12], [12, 18]), ([17, 19, 12], [12, 17, 19]), ([12, 20], [12, 20])])
def spec_l3Sets.B6 : List Nat := [0, 1, 3, 7, 7, 31, 63, 127, 7, 263, 1023, 2047, 4095, 8191, 8191, 32767, 65535, 131071, 8191, 270335, 1048575, 2097151]
theorem spec_l3Sets.tab6 : rtab .any (opsOf Tryz.f63 6) = spec_l3Sets.T6 := by kernel_rfl
theorem spec_l3Sets.bits6 : waitsOk spec_l3Sets.T6.2 spec_l3Sets.B6 = true := by kernel_rfl
def spec_l3Sets.T7 : Bool × List (List Nat × List Nat) := (true, [([], []), ([], []), ([0, 1], [0, 1]), ([2], [2]), ([3], [3]), ([], []), ([5], [5]), ([4, 6], [4, 6])])
def spec_l3Sets.B7 : List Nat := [0, 0, 3, 7, 15, 0, 32, 127]
theorem spec_l3Sets.tab7 : rtab .any (opsOf Tryz.f63 7) = spec_l3Sets.T7 := by kernel_rfl
theorem spec_l3Sets.bits7 : waitsOk spec_l3Sets.T7.2 spec_l3Sets.B7 = true := by kernel_rfl
def spec_l3Sets.T9 : Bool × List (List Nat × List Nat) := (true, [([], []), ([], []), ([], []), ([], []), ([2, 3], [2, 3]), ([4], [4]), ([5], [5]), ([], []), ([7], [7]), ([8], [8]), ([6, 9], [6, 9]), ([0, 1, 0, 1, 2, 3, 4, 5, 6, 7, 8, 9, 10], [0, 1]), ([11, 0, 1, 2, 3, 4, 5, 6, 7, 8, 9, 10], [11]), ([12, 10, 10, 0, 1, 2, 3, 4, 5, 6, 7, 8, 9, 10], [10, 12])])
def spec_l3Sets.B9 : List Nat := [0, 0, 0, 0, 12, 28, 60, 0, 128, 384, 1020, 2047, 4095, 8191]
theorem spec_l3Sets.tab9 : rtab .any (opsOf Tryz.f63 9) = spec_l3Sets.T9 := by kernel_rfl
theorem spec_l3Sets.bits9 : waitsOk spec_l3Sets.T9.2 spec_l3Sets.B9 = true := by kernel_rfl
set_option maxHeartbeats 8000000 in
set_option maxRecDepth 100000 in
theorem spec_l3Sets.calls (k : Nat) (A0 : Option Addr) (c0 : Nat) (l0 : List (S45)) (r1 : List (S83)) (r2 : Bool) (w : World) (hr0 : Kd.C k45 w A0 l0.length l0) (hc0 : l0.length ≤ c0) (h : spec_l3Sets.f k l0 = some (r1, r2)) :
 Calls Tryz.prog 63 #[.slice A0 l0.length c0] w fun e w' => ∃ v0_ : Value, e = .returned (.tuple #[v0_, .bool r2]) ∧ Kd.S k83 83 w' w.heap.size (fun _ => True) v0_ r1 ∧ Below w.heap.size w w' := by
 have hu45 := Tryz.underlying45
 have hu83 := Tryz.underlying83
 have HR0 := a0_ hr0
 have HC0 := a0_ hc0
 clear hr0 hc0
 have HB := a0_ (Below.refl w.heap.size w)
 have H := h
 clear h
 unfold spec_l3Sets.f at H
 have H' := a0_ H
 clear H
 go_enter Tryz.func63, Tryz.ntmps63
 go_wp2
 go_loopg [4, 10] k (fun kq v4 v10 w' => ∃ (x4_1 : List (S83)) (x10_1 : Int), v10 = .int .i64 x10_1 ∧ Aside0 (spec_l3Sets.l0 kq x4_1 l0 (l0.length : Int) x10_1 = some (r1, r2)) ∧ Aside0 (kq ≤ k) ∧ Aside0 (Kd.S k83 83 w' w.heap.size (fun _ => True) v4 x4_1) ∧ Aside0 (Below w.heap.size w w'))
 case atStart => exact ⟨(([] : List (S83))), (0), rs_, H', ⟨Nat.le_refl _⟩, ⟨by first | exact Kd.S_nil _ _ _ _ _ | exact Kd.N_nil _ _ _ _ _ | exact Kd.V_nil _ _ _ _ _ | exact Kd.Q_nil _ _ _ _ _ | exact Kd.R_nil _ _ _ _ _⟩, ⟨bq0_⟩⟩
 case round =>
  clear H'
  obtain ⟨x4_1, x10_1, rfl, HA, HK1, HO_4, HB⟩ := hrel
  cases gk with
  | zero => exact absurd HA.out (by simp [spec_l3Sets.l0])
  | succ k1 =>
   have H := HA.out
   clear HA
   simp only [spec_l3Sets.l0] at H
   by_cases c2 : x10_1 < (l0.length : Int)
   case neg =>
    rw [if_neg c2] at H
    have c2b0 := decide_eq_false c2
    clear c2
    simp only [Option.some.injEq, Prod.mk.injEq] at H
    obtain ⟨rfl, rfl⟩ := H
    obtain ⟨Ao41, co41, eo41⟩ := Kd.S_slice HO_4.out
    subst eo41
    go_wp2
    go_ret2
    exact ⟨_, rr_, by (with_reducible repeat (first | apply Kd.S_alloc | apply Kd.S_drewN | apply Kd.S_drew)); exact HO_4.out, bq0_⟩
   rw [if_pos c2] at H
   have c2b0 := decide_eq_true c2
   clear c2
   by_cases c3 : 0 ≤ x10_1
   case neg =>
    rw [if_neg c3] at H
    exact absurd H (by simp)
   rw [if_pos c3] at H
   have c3b0 := decide_eq_true c3
   clear c3
   by_cases c4 : x10_1 < (l0.length : Int)
   case neg =>
    rw [if_neg c4] at H
    exact absurd H (by simp)
   rw [if_pos c4] at H
   have c4b0 := decide_eq_true c4
   clear c4
   have HC5 := a0_ H
   clear H
   have p316 : 0 ≤ (x10_1 : Int) := dec_
   have q316 : x10_1 < (l0.length : Int) := dec_
   obtain ⟨ad316, e316, hx316_0, hx316_1, hx316_2, hx316_3⟩ := at_T45 HR0.out x10_1 p316 q316
   cases e316
   obtain ⟨hx316_0, hx316_1, hx316_2, hx316_3⟩ := up4_ HB.out hx316_0 hx316_1 hx316_2 hx316_3
   replace p316 := eq_true p316
   replace q316 := eq_true q316
   go_upto_region 6 with (first | ((with_reducible refine gate_dst (N := 6) rfl ?_); refine boxS_ 6 #[.string (⟨#[]⟩ : ByteArray), .int .i64 0, .int .i64 0, .string (⟨#[]⟩ : ByteArray)] 45 (fun gb317 hg w6 hbox hb => ?_); have n0_ := a0_ (Kd.S_below (by (with_reducible repeat (first | apply Kd.S_alloc | apply Kd.S_drewN | apply Kd.S_drew)); exact HO_4.out) hb); have n1_ := a0_ (below_step bq0_ hb); have n2_ := a0_ (hbox); have n3_ := a0_ (gw_ hg : w.heap.size ≤ gb317); have n4_ := n3_; clear HO_4; clear HB; have HO_4 := n0_; have HB := n1_; have BK317 := n2_; have GW317 := n3_; have GE317 := n4_; clear n0_ n1_ n2_ n3_ n4_; clear hb hbox hg; obtain ⟨z7_0, z7_1, z7_2, z7_3, q7_0, q7_1, q7_2, q7_3⟩ := bk4_ BK317.out; obtain ⟨Ao8, co8, eo8⟩ := Kd.S_slice HO_4.out; subst eo8))
   (try simp only [Act.put, List.setIfInBounds_toArray, List.set_cons_zero, List.set_cons_succ])
   go_cut [38] (fun v38 wc => ∃ (kq : Nat) (x38_4 : Bool), v38 = .bool x38_4 ∧ Aside0 (spec_l3Sets.j1 kq x4_1 (wrap64 ((x4_1.length : Int) - 1)) l0 (l0.length : Int) x10_1 x38_4 ((rd_T45 l0 x10_1).f0) ((rd_T45 l0 x10_1).f1) ((rd_T45 l0 x10_1).f2) ((rd_T45 l0 x10_1).f3) = some (r1, r2)) ∧ Aside0 (kq ≤ k1) ∧ Aside0 (Kd.S k83 83 wc w.heap.size (fun _ => True) (.slice Ao8 x4_1.length co8) x4_1) ∧ Aside0 (wc.heap[gb317]? = some (.cells #[.string ((rd_T45 l0 x10_1).f0), .int .i64 ((rd_T45 l0 x10_1).f1), .int .i64 ((rd_T45 l0 x10_1).f2), .string ((rd_T45 l0 x10_1).f3)] 45 (0, 0))) ∧ Aside0 (Below w.heap.size w wc))
   case first =>
    have H := HC5.out
    clear HC5
    by_cases c9 : (wrap64 ((x4_1.length : Int) - 1)) ≥ 0
    case neg =>
     rw [if_neg c9] at H
     have c9b0 := decide_eq_false c9
     clear c9
     (first | rw [c9b0] | (simp only [i64_w, i32_w]; rw [c9b0]) | skip)
     have H' := a0_ H
     clear H
     try go_wp2
     have n0_ : Aside0 (Kd.S k83 83 ((((w6.setCell ⟨gb317, 0, none⟩ (.string ((rd_T45 l0 x10_1).f0))).setCell ⟨gb317, 1, none⟩ (.int .i64 ((rd_T45 l0 x10_1).f1))).setCell ⟨gb317, 2, none⟩ (.int .i64 ((rd_T45 l0 x10_1).f2))).setCell ⟨gb317, 3, none⟩ (.string ((rd_T45 l0 x10_1).f3))) w.heap.size (fun _ => True) (.slice Ao8 x4_1.length co8) x4_1) := ⟨by (with_reducible repeat (first | apply Kd.S_alloc | apply Kd.S_drewN | apply Kd.S_drew)); exact Kd.S_mono (Kd.S_far (p := ⟨gb317, 3, none⟩) (Kd.S_far (p := ⟨gb317, 2, none⟩) (Kd.S_far (p := ⟨gb317, 1, none⟩) (Kd.S_far (p := ⟨gb317, 0, none⟩) (Kd.S_types HO_4.out BK317.out (by decide)) (fun _ hk => hk.2) (.string ((rd_T45 l0 x10_1).f0))) (fun _ hk => hk.2) (.int .i64 ((rd_T45 l0 x10_1).f1))) (fun _ hk => hk.2) (.int .i64 ((rd_T45 l0 x10_1).f2))) (fun _ hk => hk.2) (.string ((rd_T45 l0 x10_1).f3))) (fun _ hk => trivial)⟩
     have n1_ : Aside0 (((((w6.setCell ⟨gb317, 0, none⟩ (.string ((rd_T45 l0 x10_1).f0))).setCell ⟨gb317, 1, none⟩ (.int .i64 ((rd_T45 l0 x10_1).f1))).setCell ⟨gb317, 2, none⟩ (.int .i64 ((rd_T45 l0 x10_1).f2))).setCell ⟨gb317, 3, none⟩ (.string ((rd_T45 l0 x10_1).f3))).heap[gb317]? = some (.cells #[.string ((rd_T45 l0 x10_1).f0), .int .i64 ((rd_T45 l0 x10_1).f1), .int .i64 ((rd_T45 l0 x10_1).f2), .string ((rd_T45 l0 x10_1).f3)] 45 (0, 0))) := ⟨put4_ BK317.out⟩
     have n2_ : Aside0 (Below w.heap.size w ((((w6.setCell ⟨gb317, 0, none⟩ (.string ((rd_T45 l0 x10_1).f0))).setCell ⟨gb317, 1, none⟩ (.int .i64 ((rd_T45 l0 x10_1).f1))).setCell ⟨gb317, 2, none⟩ (.int .i64 ((rd_T45 l0 x10_1).f2))).setCell ⟨gb317, 3, none⟩ (.string ((rd_T45 l0 x10_1).f3)))) := ⟨bq1_⟩
     (try clear HO_4)
     (try clear BK317)
     (try clear HB)
     generalize ((((w6.setCell ⟨gb317, 0, none⟩ (.string ((rd_T45 l0 x10_1).f0))).setCell ⟨gb317, 1, none⟩ (.int .i64 ((rd_T45 l0 x10_1).f1))).setCell ⟨gb317, 2, none⟩ (.int .i64 ((rd_T45 l0 x10_1).f2))).setCell ⟨gb317, 3, none⟩ (.string ((rd_T45 l0 x10_1).f3))) = w18 at n0_ n1_ n2_ ⊢
     have HO_4 := n0_
     have BK317 := n1_
     have HB := n2_
     clear n0_ n1_ n2_
     replace HO_4 := a0_ (Kd.S_drew HO_4.out)
     replace BK317 := a0_ (blk_drew BK317.out)
     replace HB := a0_ (below_drew1 HB.out)
     refine start_ (n := 22) (S := fun w' => True) (ds := []) #[false, false, false, false, false, false, false, false, false, false, false, false, false, false, false, false, false, false, false, false, false, false] (by kernel_rfl) rfl rfl trivial (fun hHeld => ?_); refine with_tabW spec_l3Sets.tab6 spec_l3Sets.bits6 (fun HT_ HW_ => ?_)
     generalize w18.drew = w19 at HO_4 BK317 HB hHeld ⊢
     refine pureS_ 0 (some 17) ?_
     refine pureS_ 1 (some 18) ?_
     refine pureS_ 2 (some 19) ?_
     refine skipS_ 3 (some 20) ?_
     refine skipS_ 4 (some 21) ?_
     refine skipS_ 5 (some 22) ?_
     refine skipS_ 6 (some 23) ?_
     refine skipS_ 7 (some 24) ?_
     refine skipS_ 8 (some 25) ?_
     refine skipS_ 9 (some 26) ?_
     refine skipS_ 10 (some 27) ?_
     refine pureS_ 11 (some 28) ?_
     refine pureS_ 12 (some 29) ?_
     refine skipS_ 13 (some 30) ?_
     refine skipS_ 14 (some 31) ?_
     refine skipS_ 15 (some 32) ?_
     refine skipS_ 16 (some 33) ?_
     refine skipS_ 17 (some 34) ?_
     refine skipS_ 18 (some 35) ?_
     refine skipS_ 19 (some 36) ?_
     refine skipS_ 20 (some 37) ?_
     refine pureS_ 21 (some 38) ?_
     refine done_ (done_of HT_.out (by kernel_rfl)) ?_
     try go_wp2
     (try rw [← hji10]); (try rw [← hji21]); skip
     go_meet
     case rel => exact ⟨_, (false), rs_, (by first | exact H' | (rw [hji10]; exact H') | (rw [hji21]; exact H')), ⟨by have := HK1.out; first | omega | exact Nat.le_refl _⟩, ⟨by (with_reducible repeat (first | apply Kd.S_alloc | apply Kd.S_drewN | apply Kd.S_drew)); exact HO_4.out⟩, ⟨bz_⟩, ⟨bq1_⟩⟩
    rw [if_pos c9] at H
    have c9b0 := decide_eq_true c9
    clear c9
    (first | rw [c9b0] | (simp only [i64_w, i32_w]; rw [c9b0]) | skip)
    obtain ⟨ji10, hji10⟩ : ∃ j_ : Int, (wrap64 ((x4_1.length : Int) - 1)) = j_ := ⟨_, rfl⟩
    (first | rw [hji10] at H | simp only [hji10] at H)
    (try rw [hji10] at c9b0)
    have hji10w : (IntKind.i64.wrap ((x4_1.length : Int) - 1)) = ji10 := (i64_w _).trans hji10
    by_cases c11 : 0 ≤ (ji10)
    case neg =>
     rw [if_neg c11] at H
     exact absurd H (by simp)
    rw [if_pos c11] at H
    have c11b0 := decide_eq_true c11
    clear c11
    by_cases c12 : (ji10) < (x4_1.length : Int)
    case neg =>
     rw [if_neg c12] at H
     exact absurd H (by simp)
    rw [if_pos c12] at H
    have c12b0 := decide_eq_true c12
    clear c12
    by_cases c13 : ((rd_T83 x4_1 (ji10)).f0).toList = ((rd_T45 l0 x10_1).f0).toList
    case neg =>
     rw [if_neg c13] at H
     have c13b0 := beq_eq_false_iff_ne.mpr c13
     have c13b1 := bne_iff_ne.mpr c13
     have H' := a0_ H
     clear H
     try go_wp2
     have n0_ : Aside0 (Kd.S k83 83 ((((w6.setCell ⟨gb317, 0, none⟩ (.string ((rd_T45 l0 x10_1).f0))).setCell ⟨gb317, 1, none⟩ (.int .i64 ((rd_T45 l0 x10_1).f1))).setCell ⟨gb317, 2, none⟩ (.int .i64 ((rd_T45 l0 x10_1).f2))).setCell ⟨gb317, 3, none⟩ (.string ((rd_T45 l0 x10_1).f3))) w.heap.size (fun _ => True) (.slice Ao8 x4_1.length co8) x4_1) := ⟨by (with_reducible repeat (first | apply Kd.S_alloc | apply Kd.S_drewN | apply Kd.S_drew)); exact Kd.S_mono (Kd.S_far (p := ⟨gb317, 3, none⟩) (Kd.S_far (p := ⟨gb317, 2, none⟩) (Kd.S_far (p := ⟨gb317, 1, none⟩) (Kd.S_far (p := ⟨gb317, 0, none⟩) (Kd.S_types HO_4.out BK317.out (by decide)) (fun _ hk => hk.2) (.string ((rd_T45 l0 x10_1).f0))) (fun _ hk => hk.2) (.int .i64 ((rd_T45 l0 x10_1).f1))) (fun _ hk => hk.2) (.int .i64 ((rd_T45 l0 x10_1).f2))) (fun _ hk => hk.2) (.string ((rd_T45 l0 x10_1).f3))) (fun _ hk => trivial)⟩
     have n1_ : Aside0 (((((w6.setCell ⟨gb317, 0, none⟩ (.string ((rd_T45 l0 x10_1).f0))).setCell ⟨gb317, 1, none⟩ (.int .i64 ((rd_T45 l0 x10_1).f1))).setCell ⟨gb317, 2, none⟩ (.int .i64 ((rd_T45 l0 x10_1).f2))).setCell ⟨gb317, 3, none⟩ (.string ((rd_T45 l0 x10_1).f3))).heap[gb317]? = some (.cells #[.string ((rd_T45 l0 x10_1).f0), .int .i64 ((rd_T45 l0 x10_1).f1), .int .i64 ((rd_T45 l0 x10_1).f2), .string ((rd_T45 l0 x10_1).f3)] 45 (0, 0))) := ⟨put4_ BK317.out⟩
     have n2_ : Aside0 (Below w.heap.size w ((((w6.setCell ⟨gb317, 0, none⟩ (.string ((rd_T45 l0 x10_1).f0))).setCell ⟨gb317, 1, none⟩ (.int .i64 ((rd_T45 l0 x10_1).f1))).setCell ⟨gb317, 2, none⟩ (.int .i64 ((rd_T45 l0 x10_1).f2))).setCell ⟨gb317, 3, none⟩ (.string ((rd_T45 l0 x10_1).f3)))) := ⟨bq1_⟩
     (try clear HO_4)
     (try clear BK317)
     (try clear HB)
     generalize ((((w6.setCell ⟨gb317, 0, none⟩ (.string ((rd_T45 l0 x10_1).f0))).setCell ⟨gb317, 1, none⟩ (.int .i64 ((rd_T45 l0 x10_1).f1))).setCell ⟨gb317, 2, none⟩ (.int .i64 ((rd_T45 l0 x10_1).f2))).setCell ⟨gb317, 3, none⟩ (.string ((rd_T45 l0 x10_1).f3))) = w16 at n0_ n1_ n2_ ⊢
     have HO_4 := n0_
     have BK317 := n1_
     have HB := n2_
     clear n0_ n1_ n2_
     replace HO_4 := a0_ (Kd.S_drew HO_4.out)
     replace BK317 := a0_ (blk_drew BK317.out)
     replace HB := a0_ (below_drew1 HB.out)
     have p318 : 0 ≤ ((ji10) : Int) := dec_
     have q318 : (ji10) < (x4_1.length : Int) := dec_
     obtain ⟨ad318, A318_3, c318_3, e318, hx318_0, hx318_1, hx318_2, hx318_3, hl318_3, hi318_3⟩ := at_T83 (Kd.S_reads' HO_4.out).2.2 (ji10) p318 q318
     cases e318
     obtain ⟨ce318, hce318, hMe318, hcc318⟩ := Kd.S_get HO_4.out z83 (ji10) p318 (by first | exact q318 | exact dec_ | (have e_ := (Kd.S_reads' HO_4.out).1; omega))
     obtain ⟨ve318_3, rfl, ge318_3⟩ := k83_openM hMe318
     have hv318_3 := hcc318 3 _ rfl
     rw [add_field _ _ 3 (by omega)] at hv318_3
     replace hv318_3 := Option.some.inj (hv318_3.symm.trans hx318_3)
     rw [hv318_3] at ge318_3
     have HL318_3 := a0_ (show Kd.R Kd.string 9 _ _ _ _ ((rd_T83 x4_1 (ji10)).f3) from ge318_3)
     clear hv318_3 ge318_3
     have HX318_3 := a0_ hx318_3
     clear hcc318 hce318
     have HR318_3 := a0_ hi318_3
     have HC318_3 := a0_ hl318_3
     clear hi318_3 hl318_3
     replace p318 := eq_true p318
     replace q318 := eq_true q318
     refine start_ (n := 22) (S := fun w' => w'.cell? ⟨gb317, 0, none⟩ = some (.string ((rd_T45 l0 x10_1).f0)) ∧ w'.cell? ⟨gb317, 1, none⟩ = some (.int .i64 ((rd_T45 l0 x10_1).f1)) ∧ w'.cell? ⟨gb317, 2, none⟩ = some (.int .i64 ((rd_T45 l0 x10_1).f2)) ∧ w'.cell? ⟨gb317, 3, none⟩ = some (.string ((rd_T45 l0 x10_1).f3)) ∧ w'.cell? (ad318.add (((ji10)).toNat * 4)) = some (.string ((rd_T83 x4_1 (ji10)).f0)) ∧ w'.cell? ⟨(ad318.add (((ji10)).toNat * 4)).block, (ad318.add (((ji10)).toNat * 4)).off + 1, none⟩ = some (.int .i64 ((rd_T83 x4_1 (ji10)).f1)) ∧ w'.cell? ⟨(ad318.add (((ji10)).toNat * 4)).block, (ad318.add (((ji10)).toNat * 4)).off + 2, none⟩ = some (.int .i64 ((rd_T83 x4_1 (ji10)).f2)) ∧ w'.cell? ⟨(ad318.add (((ji10)).toNat * 4)).block, (ad318.add (((ji10)).toNat * 4)).off + 3, none⟩ = some (.slice A318_3 ((rd_T83 x4_1 (ji10)).f3).length c318_3)) (ds := []) #[false, false, false, false, false, false, false, false, false, false, false, false, false, false, false, false, false, false, false, false, false, false] (by kernel_rfl) rfl rfl ⟨(blk_cell BK317.out 0).trans rfl, (blk_cell BK317.out 1).trans rfl, (blk_cell BK317.out 2).trans rfl, (blk_cell BK317.out 3).trans rfl, hx318_0, hx318_1, hx318_2, hx318_3⟩ (fun hHeld => ?_); refine with_tabW spec_l3Sets.tab6 spec_l3Sets.bits6 (fun HT_ HW_ => ?_)
     generalize w16.drew = w17 at HO_4 BK317 HB HL318_3 HR318_3 HX318_3 hx318_0 hx318_1 hx318_2 hx318_3 hHeld ⊢
     refine pureS_ 0 (some 17) ?_
     refine pureS_ 1 (some 18) ?_
     refine pureS_ 2 (some 19) ?_
     refine pureS_ 3 (some 20) ?_
     refine pureS_ 4 (some 21) ?_
     refine pureS_ 5 (some 22) ?_
     refine pureS_ 6 (some 23) ?_
     refine pureS_ 8 (some 25) ?_
     refine takeS_ 7 (some 24) ?_
     refine takeS_ 9 (some 26) ?_
     refine pureS_ 10 (some 27) ?_
     refine pureS_ 11 (some 28) ?_
     refine pureS_ 12 (some 29) ?_
     refine skipS_ 13 (some 30) ?_
     refine skipS_ 14 (some 31) ?_
     refine skipS_ 15 (some 32) ?_
     refine skipS_ 16 (some 33) ?_
     refine skipS_ 17 (some 34) ?_
     refine skipS_ 18 (some 35) ?_
     refine skipS_ 19 (some 36) ?_
     refine skipS_ 20 (some 37) ?_
     refine pureS_ 21 (some 38) ?_
     refine done_ (done_of HT_.out (by kernel_rfl)) ?_
     try go_wp2
     (try rw [← hji10]); (try rw [← hji21]); skip
     go_meet
     case rel => exact ⟨_, (false), rs_, (by first | exact H' | (rw [hji10]; exact H') | (rw [hji21]; exact H')), ⟨by have := HK1.out; first | omega | exact Nat.le_refl _⟩, ⟨by (with_reducible repeat (first | apply Kd.S_alloc | apply Kd.S_drewN | apply Kd.S_drew)); exact HO_4.out⟩, ⟨bz_⟩, ⟨bq1_⟩⟩
    rw [if_pos c13] at H
    have c13b0 := beq_iff_eq.mpr c13
    have c13b1 := bne_eq_false_iff_eq.mpr c13
    clear c13
    have H' := a0_ H
    clear H
    try go_wp2
    have n0_ : Aside0 (Kd.S k83 83 ((((w6.setCell ⟨gb317, 0, none⟩ (.string ((rd_T45 l0 x10_1).f0))).setCell ⟨gb317, 1, none⟩ (.int .i64 ((rd_T45 l0 x10_1).f1))).setCell ⟨gb317, 2, none⟩ (.int .i64 ((rd_T45 l0 x10_1).f2))).setCell ⟨gb317, 3, none⟩ (.string ((rd_T45 l0 x10_1).f3))) w.heap.size (fun _ => True) (.slice Ao8 x4_1.length co8) x4_1) := ⟨by (with_reducible repeat (first | apply Kd.S_alloc | apply Kd.S_drewN | apply Kd.S_drew)); exact Kd.S_mono (Kd.S_far (p := ⟨gb317, 3, none⟩) (Kd.S_far (p := ⟨gb317, 2, none⟩) (Kd.S_far (p := ⟨gb317, 1, none⟩) (Kd.S_far (p := ⟨gb317, 0, none⟩) (Kd.S_types HO_4.out BK317.out (by decide)) (fun _ hk => hk.2) (.string ((rd_T45 l0 x10_1).f0))) (fun _ hk => hk.2) (.int .i64 ((rd_T45 l0 x10_1).f1))) (fun _ hk => hk.2) (.int .i64 ((rd_T45 l0 x10_1).f2))) (fun _ hk => hk.2) (.string ((rd_T45 l0 x10_1).f3))) (fun _ hk => trivial)⟩
    have n1_ : Aside0 (((((w6.setCell ⟨gb317, 0, none⟩ (.string ((rd_T45 l0 x10_1).f0))).setCell ⟨gb317, 1, none⟩ (.int .i64 ((rd_T45 l0 x10_1).f1))).setCell ⟨gb317, 2, none⟩ (.int .i64 ((rd_T45 l0 x10_1).f2))).setCell ⟨gb317, 3, none⟩ (.string ((rd_T45 l0 x10_1).f3))).heap[gb317]? = some (.cells #[.string ((rd_T45 l0 x10_1).f0), .int .i64 ((rd_T45 l0 x10_1).f1), .int .i64 ((rd_T45 l0 x10_1).f2), .string ((rd_T45 l0 x10_1).f3)] 45 (0, 0))) := ⟨put4_ BK317.out⟩
    have n2_ : Aside0 (Below w.heap.size w ((((w6.setCell ⟨gb317, 0, none⟩ (.string ((rd_T45 l0 x10_1).f0))).setCell ⟨gb317, 1, none⟩ (.int .i64 ((rd_T45 l0 x10_1).f1))).setCell ⟨gb317, 2, none⟩ (.int .i64 ((rd_T45 l0 x10_1).f2))).setCell ⟨gb317, 3, none⟩ (.string ((rd_T45 l0 x10_1).f3)))) := ⟨bq1_⟩
    (try clear HO_4)
    (try clear BK317)
    (try clear HB)
    generalize ((((w6.setCell ⟨gb317, 0, none⟩ (.string ((rd_T45 l0 x10_1).f0))).setCell ⟨gb317, 1, none⟩ (.int .i64 ((rd_T45 l0 x10_1).f1))).setCell ⟨gb317, 2, none⟩ (.int .i64 ((rd_T45 l0 x10_1).f2))).setCell ⟨gb317, 3, none⟩ (.string ((rd_T45 l0 x10_1).f3))) = w14 at n0_ n1_ n2_ ⊢
    have HO_4 := n0_
    have BK317 := n1_
    have HB := n2_
    clear n0_ n1_ n2_
    replace HO_4 := a0_ (Kd.S_drew HO_4.out)
    replace BK317 := a0_ (blk_drew BK317.out)
    replace HB := a0_ (below_drew1 HB.out)
    have p318 : 0 ≤ ((ji10) : Int) := dec_
    have q318 : (ji10) < (x4_1.length : Int) := dec_
    obtain ⟨ad318, A318_3, c318_3, e318, hx318_0, hx318_1, hx318_2, hx318_3, hl318_3, hi318_3⟩ := at_T83 (Kd.S_reads' HO_4.out).2.2 (ji10) p318 q318
    cases e318
    obtain ⟨ce318, hce318, hMe318, hcc318⟩ := Kd.S_get HO_4.out z83 (ji10) p318 (by first | exact q318 | exact dec_ | (have e_ := (Kd.S_reads' HO_4.out).1; omega))
    obtain ⟨ve318_3, rfl, ge318_3⟩ := k83_openM hMe318
    have hv318_3 := hcc318 3 _ rfl
    rw [add_field _ _ 3 (by omega)] at hv318_3
    replace hv318_3 := Option.some.inj (hv318_3.symm.trans hx318_3)
    rw [hv318_3] at ge318_3
    have HL318_3 := a0_ (show Kd.R Kd.string 9 _ _ _ _ ((rd_T83 x4_1 (ji10)).f3) from ge318_3)
    clear hv318_3 ge318_3
    have HX318_3 := a0_ hx318_3
    clear hcc318 hce318
    have HR318_3 := a0_ hi318_3
    have HC318_3 := a0_ hl318_3
    clear hi318_3 hl318_3
    replace p318 := eq_true p318
    replace q318 := eq_true q318
    have p319 : 0 ≤ ((ji10) : Int) := dec_
    have q319 : (ji10) < (x4_1.length : Int) := dec_
    obtain ⟨ad319, A319_3, c319_3, e319, hx319_0, hx319_1, hx319_2, hx319_3, hl319_3, hi319_3⟩ := at_T83 (Kd.S_reads' HO_4.out).2.2 (ji10) p319 q319
    obtain rfl : ad318 = ad319 := (by injection e319)
    obtain ⟨ce319, hce319, hMe319, hcc319⟩ := Kd.S_get HO_4.out z83 (ji10) p319 (by first | exact q319 | exact dec_ | (have e_ := (Kd.S_reads' HO_4.out).1; omega))
    obtain ⟨ve319_3, rfl, ge319_3⟩ := k83_openM hMe319
    have hv319_3 := hcc319 3 _ rfl
    rw [add_field _ _ 3 (by omega)] at hv319_3
    replace hv319_3 := Option.some.inj (hv319_3.symm.trans hx319_3)
    rw [hv319_3] at ge319_3
    have HL319_3 := a0_ (show Kd.R Kd.string 9 _ _ _ _ ((rd_T83 x4_1 (ji10)).f3) from ge319_3)
    clear hv319_3 ge319_3
    have HX319_3 := a0_ hx319_3
    clear hcc319 hce319
    have HR319_3 := a0_ hi319_3
    have HC319_3 := a0_ hl319_3
    clear hi319_3 hl319_3
    replace p319 := eq_true p319
    replace q319 := eq_true q319
    have ea_ := Option.some.inj (hx318_3.symm.trans hx319_3)
    injection ea_ with ea_ en_ ec_
    subst ea_
    subst ec_
    clear en_
    refine start_ (n := 22) (S := fun w' => w'.cell? ⟨gb317, 0, none⟩ = some (.string ((rd_T45 l0 x10_1).f0)) ∧ w'.cell? ⟨gb317, 1, none⟩ = some (.int .i64 ((rd_T45 l0 x10_1).f1)) ∧ w'.cell? ⟨gb317, 2, none⟩ = some (.int .i64 ((rd_T45 l0 x10_1).f2)) ∧ w'.cell? ⟨gb317, 3, none⟩ = some (.string ((rd_T45 l0 x10_1).f3)) ∧ w'.cell? (ad318.add (((ji10)).toNat * 4)) = some (.string ((rd_T83 x4_1 (ji10)).f0)) ∧ w'.cell? ⟨(ad318.add (((ji10)).toNat * 4)).block, (ad318.add (((ji10)).toNat * 4)).off + 1, none⟩ = some (.int .i64 ((rd_T83 x4_1 (ji10)).f1)) ∧ w'.cell? ⟨(ad318.add (((ji10)).toNat * 4)).block, (ad318.add (((ji10)).toNat * 4)).off + 2, none⟩ = some (.int .i64 ((rd_T83 x4_1 (ji10)).f2)) ∧ w'.cell? ⟨(ad318.add (((ji10)).toNat * 4)).block, (ad318.add (((ji10)).toNat * 4)).off + 3, none⟩ = some (.slice A318_3 ((rd_T83 x4_1 (ji10)).f3).length c318_3) ∧ w'.cell? (ad318.add (((ji10)).toNat * 4)) = some (.string ((rd_T83 x4_1 (ji10)).f0)) ∧ w'.cell? ⟨(ad318.add (((ji10)).toNat * 4)).block, (ad318.add (((ji10)).toNat * 4)).off + 1, none⟩ = some (.int .i64 ((rd_T83 x4_1 (ji10)).f1)) ∧ w'.cell? ⟨(ad318.add (((ji10)).toNat * 4)).block, (ad318.add (((ji10)).toNat * 4)).off + 2, none⟩ = some (.int .i64 ((rd_T83 x4_1 (ji10)).f2)) ∧ w'.cell? ⟨(ad318.add (((ji10)).toNat * 4)).block, (ad318.add (((ji10)).toNat * 4)).off + 3, none⟩ = some (.slice A318_3 ((rd_T83 x4_1 (ji10)).f3).length c318_3)) (ds := []) #[false, false, false, false, false, false, false, false, false, false, false, false, false, false, false, false, false, false, false, false, false, false] (by kernel_rfl) rfl rfl ⟨(blk_cell BK317.out 0).trans rfl, (blk_cell BK317.out 1).trans rfl, (blk_cell BK317.out 2).trans rfl, (blk_cell BK317.out 3).trans rfl, hx318_0, hx318_1, hx318_2, hx318_3, hx319_0, hx319_1, hx319_2, hx319_3⟩ (fun hHeld => ?_); refine with_tabW spec_l3Sets.tab6 spec_l3Sets.bits6 (fun HT_ HW_ => ?_)
    generalize w14.drew = w15 at HO_4 BK317 HB HL318_3 HL319_3 HR318_3 HR319_3 HX318_3 HX319_3 hx318_0 hx318_1 hx318_2 hx318_3 hx319_0 hx319_1 hx319_2 hx319_3 hHeld ⊢
    refine pureS_ 0 (some 17) ?_
    refine pureS_ 1 (some 18) ?_
    refine pureS_ 2 (some 19) ?_
    refine pureS_ 3 (some 20) ?_
    refine pureS_ 4 (some 21) ?_
    refine pureS_ 5 (some 22) ?_
    refine pureS_ 6 (some 23) ?_
    refine pureS_ 8 (some 25) ?_
    refine takeS_ 7 (some 24) ?_
    refine takeS_ 9 (some 26) ?_
    refine pureS_ 10 (some 27) ?_
    refine pureS_ 11 (some 28) ?_
    refine pureS_ 12 (some 29) ?_
    refine pureS_ 13 (some 30) ?_
    refine pureS_ 14 (some 31) ?_
    refine pureS_ 15 (some 32) ?_
    refine pureS_ 16 (some 33) ?_
    refine pureS_ 18 (some 35) ?_
    refine takeS_ 17 (some 34) ?_
    refine takeS_ 19 (some 36) ?_
    refine pureS_ 20 (some 37) ?_
    refine pureS_ 21 (some 38) ?_
    refine done_ (done_of HT_.out (by kernel_rfl)) ?_
    try go_wp2
    (try rw [← hji10]); (try rw [← hji21]); skip
    go_meet
    case rel => exact ⟨_, ((((rd_T83 x4_1 (ji10)).f1) == ((rd_T45 l0 x10_1).f1))), (by first | rfl | (simp; done) | (simp only [← hji10] <;> (first | rfl | simp)) | (simp [*]; done)), (by first | exact H' | (rw [hji10]; exact H') | (rw [hji21]; exact H')), ⟨by have := HK1.out; first | omega | exact Nat.le_refl _⟩, ⟨by (with_reducible repeat (first | apply Kd.S_alloc | apply Kd.S_drewN | apply Kd.S_drew)); exact HO_4.out⟩, ⟨bz_⟩, ⟨bq1_⟩⟩
   case rest =>
    clear HC5
    try clear c3
    obtain ⟨kq, x38_4, rfl, HA, HJ4, HO_4, BK317, HB⟩ := hcut
    cases kq with
    | zero => exact absurd HA.out (by simp [spec_l3Sets.j1])
    | succ kj4 =>
     have H := HA.out
     clear HA
     simp only [spec_l3Sets.j1] at H
     by_cases c20 : x38_4 = true
     case neg =>
      replace c20 := Bool.eq_false_iff.mpr c20
      subst c20
      rw [if_neg (show ¬ (false = true) by decide)] at H
      obtain ⟨y326, hy326⟩ : ∃ y_ : List ByteArray, y_ = (([((rd_T45 l0 x10_1).f3)] : List ByteArray)) := ⟨_, rfl⟩
      replace H : (if x4_1.length < 2513169434916 then (spec_l3Sets.l0 kj4 (x4_1 ++ [(⟨((rd_T45 l0 x10_1).f0), ((rd_T45 l0 x10_1).f1), ((rd_T45 l0 x10_1).f2), y326⟩ : S83)]) l0 (l0.length : Int) (wrap64 (x10_1 + 1))) else (none)) = some (r1, r2) := by first | (rw [hy326]; with_reducible exact H) | (have H2_ := (Option.bind_some _ _).symm.trans H; rw [hy326]; with_reducible exact H2_) | (have H2_ := (Option.bind_some _ _).symm.trans H; with_reducible exact H2_) | with_reducible exact H | (rw [hy326]; exact H) | exact H
      have Ny326 := a0_ hy326
      clear hy326
      by_cases c35 : x4_1.length < 2513169434916
      case neg =>
       rw [if_neg c35] at H
       exact absurd H (by simp)
      rw [if_pos c35] at H
      have LMc35 := a0_ c35
      clear c35
      obtain ⟨y329, hy329⟩ : ∃ y_ : List (S83), y_ = (x4_1 ++ [(⟨((rd_T45 l0 x10_1).f0), ((rd_T45 l0 x10_1).f1), ((rd_T45 l0 x10_1).f2), y326⟩ : S83)]) := ⟨_, rfl⟩
      replace H : (spec_l3Sets.l0 kj4 y329 l0 (l0.length : Int) (wrap64 (x10_1 + 1))) = some (r1, r2) := by first | (rw [hy329]; with_reducible exact H) | (have H2_ := (Option.bind_some _ _).symm.trans H; rw [hy329]; with_reducible exact H2_) | (have H2_ := (Option.bind_some _ _).symm.trans H; with_reducible exact H2_) | with_reducible exact H | (rw [hy329]; exact H) | exact H
      have Ny329 := a0_ hy329
      clear hy329
      have H' := a0_ H
      clear H
      obtain ⟨z36_0, z36_1, z36_2, z36_3, q36_0, q36_1, q36_2, q36_3⟩ := bk4_ BK317.out
      go_wp2_with (first | ((with_reducible refine gate_dst (N := 69) rfl ?_); refine Kd.R_lit Kd.string _ 9 ?hg (N := 69) ?hd (xs := ([((rd_T45 l0 x10_1).f3)] : List ByteArray)) (inner := [.string ((rd_T45 l0 x10_1).f3)]) (ok := fun _ => True) (okp := fun _ => True) ?hr ?hp (fun _ hk => hk) trivial (Below.refl _ _) (Nat.le_refl _) (by simp) ?_; (case hd => rfl); (case hg => rfl); (case hr => first | (go_simp; done) | (go_simp; rfl)); (case hp => exact (Reps.one (show Kd.M Kd.string _ _ _ ((rd_T45 l0 x10_1).f3) [.string ((rd_T45 l0 x10_1).f3)] from rfl) (Reps.none _ _))); intro v327 w37 ho38 hb hg_ hnew_; clear hg_ hnew_; (first | rw [← Ny326.out] at ho38 | (simp only [Int.reduceToNat] at ho38; rw [← Ny326.out] at ho38)); replace HO_4 := a0_ (Kd.S_elder' (by (with_reducible repeat (first | apply Kd.S_alloc | apply Kd.S_drewN | apply Kd.S_drew)); exact HO_4.out) (Kd.R_base ho38) hb); have HO328 := a0_ (Kd.R_lower ho38 (below_size bq1_)); replace BK317 := a0_ (bkB_ BK317 hb); replace HB := a0_ (below_step bq1_ hb); clear hb ho38; obtain ⟨Ao39, co39, eo39⟩ := Kd.R_slice HO328.out; subst eo39) | ((with_reducible refine gate_builtin (b := .append) (xs := #[.tmp 60, .tmp 71]) rfl ?_); at_builtin; refine Kd.S_append k83 (w0 := w) w.heap.size rfl (.tmp 60) (.tmp 71) 30 83 (.agg #[(.string ⟨#[]⟩), (.int .i64 0), (.int .i64 0), (.slice none 0 0)]) 56 rfl Tryz.underlying30 info83 rfl (by decide) (by omega) (.slice Ao8 x4_1.length co8) x4_1 (⟨((rd_T45 l0 x10_1).f0), ((rd_T45 l0 x10_1).f1), ((rd_T45 l0 x10_1).f2), y326⟩ : S83) [.string ((rd_T45 l0 x10_1).f0), .int .i64 ((rd_T45 l0 x10_1).f1), .int .i64 ((rd_T45 l0 x10_1).f2), .slice Ao39 y326.length co39] (fun _ => True) (fun k_ => some k_ = (.slice Ao39 y326.length co39 : Value).ownBlock) rfl rfl ?aP (fun k_ hk_ => ((Kd.R_mono (ok' := fun k_ => ((fun _ => True)) k_ ∧ nw_ k_ Ao8 x4_1.length co8) (Kd.R_apart' (HO328.out) (Kd.S_typed HO_4.out) (by decide)) (fun k_ hk => ⟨trivial, hk.2⟩))).1 k_ hk_.symm) ?aF ?aO ?aB ?aS ?aL ?_; (case aP => exact k83_mkM _ _ _ (⟨((rd_T45 l0 x10_1).f0), ((rd_T45 l0 x10_1).f1), ((rd_T45 l0 x10_1).f2), y326⟩ : S83) (Kd.R_mono (Kd.R_tight rfl (Kd.R_mono (ok' := fun k_ => ((fun _ => True)) k_ ∧ nw_ k_ Ao8 x4_1.length co8) (Kd.R_apart' (HO328.out) (Kd.S_typed HO_4.out) (by decide)) (fun k_ hk => ⟨trivial, hk.2⟩))) (fun _ h_ => h_))); (case aB => exact bq1_); (case aF => exact (fun _ _ => trivial)); (case aO => exact (by (with_reducible repeat (first | apply Kd.S_alloc | apply Kd.S_drewN | apply Kd.S_drew)); exact Kd.S_mono HO_4.out (fun k_ hk => ⟨trivial, fun e_ => hk.2 e_⟩))); (case aS => exact (below_size bq1_)); (case aL => have := LMc35.out; omega); intro v330 w40 ho hb hg hat; rw [← Ny329.out] at ho; have n0_ := a0_ (blk_grown (g := gb317) (o := .cells #[.string ((rd_T45 l0 x10_1).f0), .int .i64 ((rd_T45 l0 x10_1).f1), .int .i64 ((rd_T45 l0 x10_1).f2), .string ((rd_T45 l0 x10_1).f3)] 45 (0, 0)) (kB_ BK317.out) hg (Kd.S_ne HO_4.out BK317.out (by decide))); have n1_ := a0_ (hb); have n2_ := a0_ (ho); clear BK317; clear HB; clear HO_4; clear HO328; have BK317 := n0_; have HB := n1_; have HO331 := n2_; clear n0_ n1_ n2_; clear ho hb hg hat))
      go_roundg kj4
      case measure => have := HK1.out; have := HJ4.out; omega
      case rel => exact ⟨(y329), (wrap64 (x10_1 + 1)), rs_, H', ⟨by have := HK1.out; have := HJ4.out; omega⟩, ⟨by (with_reducible repeat (first | apply Kd.S_alloc | apply Kd.S_drewN | apply Kd.S_drew)); exact HO331.out⟩, ⟨bq1_⟩⟩
     subst c20
     rw [if_pos rfl] at H
     obtain ⟨ji21, hji21⟩ : ∃ j_ : Int, (wrap64 ((x4_1.length : Int) - 1)) = j_ := ⟨_, rfl⟩
     (first | rw [hji21] at H | simp only [hji21] at H)
     have hji21w : (IntKind.i64.wrap ((x4_1.length : Int) - 1)) = ji21 := (i64_w _).trans hji21
     by_cases c22 : 0 ≤ (ji21)
     case neg =>
      rw [if_neg c22] at H
      exact absurd H (by simp)
     rw [if_pos c22] at H
     have c22b0 := decide_eq_true c22
     clear c22
     by_cases c23 : (ji21) < (x4_1.length : Int)
     case neg =>
      rw [if_neg c23] at H
      exact absurd H (by simp)
     rw [if_pos c23] at H
     have c23b0 := decide_eq_true c23
     clear c23
     by_cases c24 : ((rd_T83 x4_1 (ji21)).f2) = ((rd_T45 l0 x10_1).f2)
     case neg =>
      rw [if_neg c24] at H
      have c24b0 := beq_eq_false_iff_ne.mpr c24
      have c24b1 := bne_iff_ne.mpr c24
      simp only [Option.some.injEq, Prod.mk.injEq] at H
      obtain ⟨rfl, rfl⟩ := H
      try go_wp2
      replace HO_4 := a0_ (Kd.S_drew HO_4.out)
      replace BK317 := a0_ (blk_drew BK317.out)
      replace HB := a0_ (below_drew1 HB.out)
      have p320 : 0 ≤ ((ji21) : Int) := dec_
      have q320 : (ji21) < (x4_1.length : Int) := dec_
      obtain ⟨ad320, A320_3, c320_3, e320, hx320_0, hx320_1, hx320_2, hx320_3, hl320_3, hi320_3⟩ := at_T83 (Kd.S_reads' HO_4.out).2.2 (ji21) p320 q320
      cases e320
      obtain ⟨ce320, hce320, hMe320, hcc320⟩ := Kd.S_get HO_4.out z83 (ji21) p320 (by first | exact q320 | exact dec_ | (have e_ := (Kd.S_reads' HO_4.out).1; omega))
      obtain ⟨ve320_3, rfl, ge320_3⟩ := k83_openM hMe320
      have hv320_3 := hcc320 3 _ rfl
      rw [add_field _ _ 3 (by omega)] at hv320_3
      replace hv320_3 := Option.some.inj (hv320_3.symm.trans hx320_3)
      rw [hv320_3] at ge320_3
      have HL320_3 := a0_ (show Kd.R Kd.string 9 _ _ _ _ ((rd_T83 x4_1 (ji21)).f3) from ge320_3)
      clear hv320_3 ge320_3
      have HX320_3 := a0_ hx320_3
      clear hcc320 hce320
      have HR320_3 := a0_ hi320_3
      have HC320_3 := a0_ hl320_3
      clear hi320_3 hl320_3
      replace p320 := eq_true p320
      replace q320 := eq_true q320
      refine start_ (n := 8) (S := fun w' => w'.cell? ⟨gb317, 0, none⟩ = some (.string ((rd_T45 l0 x10_1).f0)) ∧ w'.cell? ⟨gb317, 1, none⟩ = some (.int .i64 ((rd_T45 l0 x10_1).f1)) ∧ w'.cell? ⟨gb317, 2, none⟩ = some (.int .i64 ((rd_T45 l0 x10_1).f2)) ∧ w'.cell? ⟨gb317, 3, none⟩ = some (.string ((rd_T45 l0 x10_1).f3)) ∧ w'.cell? (ad320.add (((ji21)).toNat * 4)) = some (.string ((rd_T83 x4_1 (ji21)).f0)) ∧ w'.cell? ⟨(ad320.add (((ji21)).toNat * 4)).block, (ad320.add (((ji21)).toNat * 4)).off + 1, none⟩ = some (.int .i64 ((rd_T83 x4_1 (ji21)).f1)) ∧ w'.cell? ⟨(ad320.add (((ji21)).toNat * 4)).block, (ad320.add (((ji21)).toNat * 4)).off + 2, none⟩ = some (.int .i64 ((rd_T83 x4_1 (ji21)).f2)) ∧ w'.cell? ⟨(ad320.add (((ji21)).toNat * 4)).block, (ad320.add (((ji21)).toNat * 4)).off + 3, none⟩ = some (.slice A320_3 ((rd_T83 x4_1 (ji21)).f3).length c320_3)) (ds := []) #[false, false, false, false, false, false, false, false] (by kernel_rfl) rfl rfl ⟨(blk_cell BK317.out 0).trans rfl, (blk_cell BK317.out 1).trans rfl, (blk_cell BK317.out 2).trans rfl, (blk_cell BK317.out 3).trans rfl, hx320_0, hx320_1, hx320_2, hx320_3⟩ (fun hHeld => ?_); refine with_tabW spec_l3Sets.tab7 spec_l3Sets.bits7 (fun HT_ HW_ => ?_)
      generalize wc.drew = w34 at HO_4 BK317 HB HL320_3 HR320_3 HX320_3 hx320_0 hx320_1 hx320_2 hx320_3 hHeld ⊢
      refine pureS_ 0 (some 39) ?_
      refine pureS_ 1 (some 40) ?_
      refine pureS_ 2 (some 41) ?_
      refine pureS_ 3 (some 42) ?_
      refine pureS_ 5 (some 44) ?_
      refine takeS_ 4 (some 43) ?_
      refine takeS_ 6 (some 45) ?_
      refine pureS_ 7 (some 46) ?_
      refine done_ (done_of HT_.out (by kernel_rfl)) ?_
      try go_wp2
      go_ret2
      exact ⟨_, by first | rfl | (simp [errW_none, errW_some] <;> rfl) | (simp only [← hji21]; first | rfl | (simp [errW_none, errW_some] <;> rfl)) | (simp [*, errW_none, errW_some] <;> rfl), by first | exact Kd.S_nil _ _ _ _ _ | exact Kd.N_nil _ _ _ _ _ | exact Kd.V_nil _ _ _ _ _ | exact Kd.Q_nil _ _ _ _ _ | exact Kd.R_nil _ _ _ _ _, bq1_⟩
     rw [if_pos c24] at H
     have c24b0 := beq_iff_eq.mpr c24
     have c24b1 := bne_eq_false_iff_eq.mpr c24
     clear c24
     by_cases c25 : ((rd_T83 x4_1 (ji21)).f3).length < 8796093022208
     case neg =>
      rw [if_neg c25] at H
      exact absurd H (by simp)
     rw [if_pos c25] at H
     have LMc25 := a0_ c25
     clear c25
     obtain ⟨y322, hy322⟩ : ∃ y_ : List ByteArray, y_ = (((rd_T83 x4_1 (ji21)).f3) ++ [((rd_T45 l0 x10_1).f3)]) := ⟨_, rfl⟩
     replace H : (spec_l3Sets.l0 kj4 (x4_1.set ((ji21) : Int).toNat (⟨(rd_T83 x4_1 (ji21)).f0, (rd_T83 x4_1 (ji21)).f1, (rd_T83 x4_1 (ji21)).f2, y322⟩ : S83)) l0 (l0.length : Int) (wrap64 (x10_1 + 1))) = some (r1, r2) := by first | (rw [hy322]; with_reducible exact H) | (have H2_ := (Option.bind_some _ _).symm.trans H; rw [hy322]; with_reducible exact H2_) | (have H2_ := (Option.bind_some _ _).symm.trans H; with_reducible exact H2_) | with_reducible exact H | (rw [hy322]; exact H) | exact H
     have Ny322 := a0_ hy322
     clear hy322
     obtain ⟨y325, hy325⟩ : ∃ y_ : List (S83), y_ = (x4_1.set ((ji21) : Int).toNat (⟨(rd_T83 x4_1 (ji21)).f0, (rd_T83 x4_1 (ji21)).f1, (rd_T83 x4_1 (ji21)).f2, y322⟩ : S83)) := ⟨_, rfl⟩
     replace H : (spec_l3Sets.l0 kj4 y325 l0 (l0.length : Int) (wrap64 (x10_1 + 1))) = some (r1, r2) := by first | (rw [hy325]; with_reducible exact H) | (have H2_ := (Option.bind_some _ _).symm.trans H; rw [hy325]; with_reducible exact H2_) | (have H2_ := (Option.bind_some _ _).symm.trans H; with_reducible exact H2_) | with_reducible exact H | (rw [hy325]; exact H) | exact H
     have Ny325 := a0_ hy325
     clear hy325
     have H' := a0_ H
     clear H
     try go_wp2
     replace HO_4 := a0_ (Kd.S_drew HO_4.out)
     replace BK317 := a0_ (blk_drew BK317.out)
     replace HB := a0_ (below_drew1 HB.out)
     have p320 : 0 ≤ ((ji21) : Int) := dec_
     have q320 : (ji21) < (x4_1.length : Int) := dec_
     obtain ⟨ad320, A320_3, c320_3, e320, hx320_0, hx320_1, hx320_2, hx320_3, hl320_3, hi320_3⟩ := at_T83 (Kd.S_reads' HO_4.out).2.2 (ji21) p320 q320
     cases e320
     obtain ⟨ce320, hce320, hMe320, hcc320⟩ := Kd.S_get HO_4.out z83 (ji21) p320 (by first | exact q320 | exact dec_ | (have e_ := (Kd.S_reads' HO_4.out).1; omega))
     obtain ⟨ve320_3, rfl, ge320_3⟩ := k83_openM hMe320
     have hv320_3 := hcc320 3 _ rfl
     rw [add_field _ _ 3 (by omega)] at hv320_3
     replace hv320_3 := Option.some.inj (hv320_3.symm.trans hx320_3)
     rw [hv320_3] at ge320_3
     have HL320_3 := a0_ (show Kd.R Kd.string 9 _ _ _ _ ((rd_T83 x4_1 (ji21)).f3) from ge320_3)
     clear hv320_3 ge320_3
     have HX320_3 := a0_ hx320_3
     clear hcc320 hce320
     have HR320_3 := a0_ hi320_3
     have HC320_3 := a0_ hl320_3
     clear hi320_3 hl320_3
     replace p320 := eq_true p320
     replace q320 := eq_true q320
     refine start_ (n := 8) (S := fun w' => w'.cell? ⟨gb317, 0, none⟩ = some (.string ((rd_T45 l0 x10_1).f0)) ∧ w'.cell? ⟨gb317, 1, none⟩ = some (.int .i64 ((rd_T45 l0 x10_1).f1)) ∧ w'.cell? ⟨gb317, 2, none⟩ = some (.int .i64 ((rd_T45 l0 x10_1).f2)) ∧ w'.cell? ⟨gb317, 3, none⟩ = some (.string ((rd_T45 l0 x10_1).f3)) ∧ w'.cell? (ad320.add (((ji21)).toNat * 4)) = some (.string ((rd_T83 x4_1 (ji21)).f0)) ∧ w'.cell? ⟨(ad320.add (((ji21)).toNat * 4)).block, (ad320.add (((ji21)).toNat * 4)).off + 1, none⟩ = some (.int .i64 ((rd_T83 x4_1 (ji21)).f1)) ∧ w'.cell? ⟨(ad320.add (((ji21)).toNat * 4)).block, (ad320.add (((ji21)).toNat * 4)).off + 2, none⟩ = some (.int .i64 ((rd_T83 x4_1 (ji21)).f2)) ∧ w'.cell? ⟨(ad320.add (((ji21)).toNat * 4)).block, (ad320.add (((ji21)).toNat * 4)).off + 3, none⟩ = some (.slice A320_3 ((rd_T83 x4_1 (ji21)).f3).length c320_3)) (ds := []) #[false, false, false, false, false, false, false, false] (by kernel_rfl) rfl rfl ⟨(blk_cell BK317.out 0).trans rfl, (blk_cell BK317.out 1).trans rfl, (blk_cell BK317.out 2).trans rfl, (blk_cell BK317.out 3).trans rfl, hx320_0, hx320_1, hx320_2, hx320_3⟩ (fun hHeld => ?_); refine with_tabW spec_l3Sets.tab7 spec_l3Sets.bits7 (fun HT_ HW_ => ?_)
     generalize wc.drew = w27 at HO_4 BK317 HB HL320_3 HR320_3 HX320_3 hx320_0 hx320_1 hx320_2 hx320_3 hHeld ⊢
     refine pureS_ 0 (some 39) ?_
     refine pureS_ 1 (some 40) ?_
     refine pureS_ 2 (some 41) ?_
     refine pureS_ 3 (some 42) ?_
     refine pureS_ 5 (some 44) ?_
     refine takeS_ 4 (some 43) ?_
     refine takeS_ 6 (some 45) ?_
     refine pureS_ 7 (some 46) ?_
     refine done_ (done_of HT_.out (by kernel_rfl)) ?_
     try go_wp2
     replace HO_4 := a0_ (Kd.S_drew HO_4.out)
     replace HL320_3 := a0_ (Kd.R_drew HL320_3.out)
     replace BK317 := a0_ (blk_drew BK317.out)
     replace HR320_3 := a0_ (Kd.C_drew HR320_3.out)
     replace HB := a0_ (below_drew1 HB.out)
     have p321 : 0 ≤ ((ji21) : Int) := dec_
     have q321 : (ji21) < (x4_1.length : Int) := dec_
     obtain ⟨ad321, A321_3, c321_3, e321, hx321_0, hx321_1, hx321_2, hx321_3, hl321_3, hi321_3⟩ := at_T83 (Kd.S_reads' HO_4.out).2.2 (ji21) p321 q321
     obtain rfl : ad320 = ad321 := (by injection e321)
     obtain ⟨ce321, hce321, hMe321, hcc321⟩ := Kd.S_get HO_4.out z83 (ji21) p321 (by first | exact q321 | exact dec_ | (have e_ := (Kd.S_reads' HO_4.out).1; omega))
     obtain ⟨ve321_3, rfl, ge321_3⟩ := k83_openM hMe321
     have hv321_3 := hcc321 3 _ rfl
     rw [add_field _ _ 3 (by omega)] at hv321_3
     replace hv321_3 := Option.some.inj (hv321_3.symm.trans hx321_3)
     rw [hv321_3] at ge321_3
     have HL321_3 := a0_ (show Kd.R Kd.string 9 _ _ _ _ ((rd_T83 x4_1 (ji21)).f3) from ge321_3)
     clear hv321_3 ge321_3
     have HX321_3 := a0_ hx321_3
     clear hcc321 hce321
     have HR321_3 := a0_ hi321_3
     have HC321_3 := a0_ hl321_3
     clear hi321_3 hl321_3
     replace p321 := eq_true p321
     replace q321 := eq_true q321
     obtain ⟨go29, co29, eo29, gb29, gl29, cl29, HG29⟩ := Kd.S_form HO_4.out (by have h_ : ((ji21) : Int) < ((x4_1.length : Int) : Int) := dec_; have h2_ : 0 ≤ ((ji21) : Int) := (dec_); omega)
     (first | cases eo29 | (injection eo29 with ea_ en_ ec_; (first | subst ea_ | (injection ea_ with ea_; subst ea_)); subst ec_; clear en_))
     have GB29 := a0_ gb29
     have GG29 := a0_ HG29
     clear gb29 gl29 HG29
     (first | simp only [add_plain] at hx320_0 | skip)
     (first | simp only [add_plain] at hx320_1 | skip)
     (first | simp only [add_plain] at hx320_2 | skip)
     (first | simp only [add_plain] at hx320_3 | skip)
     (first | simp only [add_plain] at hx321_0 | skip)
     (first | simp only [add_plain] at hx321_1 | skip)
     (first | simp only [add_plain] at hx321_2 | skip)
     (first | simp only [add_plain] at hx321_3 | skip)
     obtain ⟨oki29, ce29, hcl29, hM29, hcc29, _, _, hH29⟩ := Kd.S_elem HO_4.out z83 ((ji21) : Int) (dec_) (by have h_ : ((ji21) : Int) < ((x4_1.length : Int) : Int) := dec_; first | exact h_ | (have e_ := (Kd.S_reads' HO_4.out).1; omega) | simpa using h_)
     obtain ⟨ve29_3, rfl, ge29_3⟩ := k83_openM hM29
     have hv29 := hcc29 3 _ rfl
     have hX29 := HX321_3.out
     (try simp only [add_plain] at hX29)
     (try simp only [Nat.add_zero] at hv29)
     replace hv29 := Option.some.inj (hv29.symm.trans hX29)
     subst hv29
     clear hX29 hcc29 hcl29
     have UU29 := a0_ (show Kd.R Kd.string 9 _ w.heap.size oki29 (.slice A321_3 ((rd_T83 x4_1 (ji21)).f3).length c321_3) ((rd_T83 x4_1 (ji21)).f3) from ge29_3)
     have HH29 := a0_ hH29
     have HN29 := a0_ (Kd.S_reads' HO_4.out).1
     clear hH29 ge29_3
     refine start_ (n := 14) (S := fun w' => w'.cell? ⟨gb317, 0, none⟩ = some (.string ((rd_T45 l0 x10_1).f0)) ∧ w'.cell? ⟨gb317, 1, none⟩ = some (.int .i64 ((rd_T45 l0 x10_1).f1)) ∧ w'.cell? ⟨gb317, 2, none⟩ = some (.int .i64 ((rd_T45 l0 x10_1).f2)) ∧ w'.cell? ⟨gb317, 3, none⟩ = some (.string ((rd_T45 l0 x10_1).f3)) ∧ w'.cell? ⟨go29, (((ji21)).toNat * 4), none⟩ = some (.string ((rd_T83 x4_1 (ji21)).f0)) ∧ w'.cell? ⟨go29, (((ji21)).toNat * 4) + 1, none⟩ = some (.int .i64 ((rd_T83 x4_1 (ji21)).f1)) ∧ w'.cell? ⟨go29, (((ji21)).toNat * 4) + 2, none⟩ = some (.int .i64 ((rd_T83 x4_1 (ji21)).f2)) ∧ w'.cell? ⟨go29, (((ji21)).toNat * 4) + 3, none⟩ = some (.slice A321_3 ((rd_T83 x4_1 (ji21)).f3).length c321_3)) (ds := [13]) #[false, false, false, false, false, false, false, false, false, false, false, false, false, false] (by kernel_rfl) rfl rfl ⟨(blk_cell BK317.out 0).trans rfl, (blk_cell BK317.out 1).trans rfl, (blk_cell BK317.out 2).trans rfl, (blk_cell BK317.out 3).trans rfl, hx321_0, hx321_1, hx321_2, hx321_3⟩ (fun hHeld => ?_); refine with_tabW spec_l3Sets.tab9 spec_l3Sets.bits9 (fun HT_ HW_ => ?_)
     generalize w27.drew = w28 at HO_4 HL320_3 BK317 HR320_3 HB GG29 HH29 HL321_3 HR321_3 HX321_3 UU29 hx320_0 hx320_1 hx320_2 hx320_3 hx321_0 hx321_1 hx321_2 hx321_3 hHeld ⊢
     refine pureS_ 0 (some 47) ?_
     refine pureS_ 1 (some 48) ?_
     refine pureS_ 2 (some 49) ?_
     refine pureS_ 3 (some 50) ?_
     refine pureS_ 4 (some 51) ?_
     refine pureS_ 5 (some 52) ?_
     refine pureS_ 7 (some 54) ?_
     refine takeS_ 6 (some 53) ?_
     refine takeS_ 8 (some 55) ?_
     refine oneS_ 9 (some 56) (fun K hK => ?_)
     refine value_ (w1 := ?_) (v := ?_) (by rfl) rfl ?_ ?_
     rotate_left 2
     · go_simp
       constructor
       · rfl
       · rfl
     refine hK.out _ _ ⟨(blk_cell (blk_alloc BK317.out _) 0).trans rfl, (blk_cell (blk_alloc BK317.out _) 1).trans rfl, (blk_cell (blk_alloc BK317.out _) 2).trans rfl, (blk_cell (blk_alloc BK317.out _) 3).trans rfl, (World.cell?_alloc_lt _ _ _ (World.block_lt_of_cell? _ _ (hHeld.2.2.2.2.1))).trans (hHeld.2.2.2.2.1), (World.cell?_alloc_lt _ _ _ (World.block_lt_of_cell? _ _ (hHeld.2.2.2.2.2.1))).trans (hHeld.2.2.2.2.2.1), (World.cell?_alloc_lt _ _ _ (World.block_lt_of_cell? _ _ (hHeld.2.2.2.2.2.2.1))).trans (hHeld.2.2.2.2.2.2.1), (World.cell?_alloc_lt _ _ _ (World.block_lt_of_cell? _ _ (hHeld.2.2.2.2.2.2.2))).trans (hHeld.2.2.2.2.2.2.2)⟩ (fun hHeld => ?_)
     clear hK K
     refine normS_ ?_
     refine oneS_ 10 (some 57) (fun K hK => ?_)
     refine Kd.R_append_step Kd.string (w0 := w) w.heap.size (by rfl) (.tmp 53) (.tmp 56) 78 9 (.string ⟨#[]⟩) 16 rfl Tryz.underlying78 info9 rfl (by decide) (by omega) (.slice A321_3 ((rd_T83 x4_1 (ji21)).f3).length c321_3) ((rd_T83 x4_1 (ji21)).f3) ((rd_T45 l0 x10_1).f3) [.string ((rd_T45 l0 x10_1).f3)] (fun k_ => oki29 k_ ∨ ((fun _ => True)) k_ ∧ w28.heap.size ≤ k_) (fun _ => False) rfl rfl ?aP (fun _ hk => hk.elim) ?aF ?aO ?aB ?aS ?aL ?_
     (case aP => exact rfl)
     (case aB => exact bq1_)
     (case aF => exact (fun k_ hk => .inr ⟨trivial, hk⟩))
     (case aO => exact (kR_ (Kd.R_mono UU29.out (fun _ hk => .inl hk))))
     (case aS => exact (below_size bq1_))
     (case aL => have := LMc25.out; omega)
     intro v323 w30 ho hb hg hat
     (first | have HS4_ := Go.Proofs.YtiegkjimpclmaaaGreatDoorW.PrintWords.cell_grown hg (hHeld.2.2.2.2.1) (by first | (rw [add_block]; exact (fun e_ => ((HL321_3.out.1 _ e_.symm).2) rfl)) | (show some (Addr.add _ _).block ≠ _; rw [add_block]; exact (fun e_ => ((HL321_3.out.1 _ e_.symm).2) rfl)) | exact (fun e_ => ((HL321_3.out.1 _ e_.symm).2) rfl)) | have HS4_ := Go.Proofs.YtiegkjimpclmaaaGreatDoorW.PrintWords.cell_grown hg (cell_unalloc (hHeld.2.2.2.2.1) (by first | (rw [add_block]; exact Kd.S_lt HO_4.out _ rfl) | (show (Addr.add _ _).block < _; rw [add_block]; exact Kd.S_lt HO_4.out _ rfl) | exact Kd.S_lt HO_4.out _ rfl)) (by first | (rw [add_block]; exact (fun e_ => ((HL321_3.out.1 _ e_.symm).2) rfl)) | (show some (Addr.add _ _).block ≠ _; rw [add_block]; exact (fun e_ => ((HL321_3.out.1 _ e_.symm).2) rfl)) | exact (fun e_ => ((HL321_3.out.1 _ e_.symm).2) rfl)))
     (first | have HS5_ := Go.Proofs.YtiegkjimpclmaaaGreatDoorW.PrintWords.cell_grown hg (hHeld.2.2.2.2.2.1) (by first | (rw [add_block]; exact (fun e_ => ((HL321_3.out.1 _ e_.symm).2) rfl)) | (show some (Addr.add _ _).block ≠ _; rw [add_block]; exact (fun e_ => ((HL321_3.out.1 _ e_.symm).2) rfl)) | exact (fun e_ => ((HL321_3.out.1 _ e_.symm).2) rfl)) | have HS5_ := Go.Proofs.YtiegkjimpclmaaaGreatDoorW.PrintWords.cell_grown hg (cell_unalloc (hHeld.2.2.2.2.2.1) (by first | (rw [add_block]; exact Kd.S_lt HO_4.out _ rfl) | (show (Addr.add _ _).block < _; rw [add_block]; exact Kd.S_lt HO_4.out _ rfl) | exact Kd.S_lt HO_4.out _ rfl)) (by first | (rw [add_block]; exact (fun e_ => ((HL321_3.out.1 _ e_.symm).2) rfl)) | (show some (Addr.add _ _).block ≠ _; rw [add_block]; exact (fun e_ => ((HL321_3.out.1 _ e_.symm).2) rfl)) | exact (fun e_ => ((HL321_3.out.1 _ e_.symm).2) rfl)))
     (first | have HS6_ := Go.Proofs.YtiegkjimpclmaaaGreatDoorW.PrintWords.cell_grown hg (hHeld.2.2.2.2.2.2.1) (by first | (rw [add_block]; exact (fun e_ => ((HL321_3.out.1 _ e_.symm).2) rfl)) | (show some (Addr.add _ _).block ≠ _; rw [add_block]; exact (fun e_ => ((HL321_3.out.1 _ e_.symm).2) rfl)) | exact (fun e_ => ((HL321_3.out.1 _ e_.symm).2) rfl)) | have HS6_ := Go.Proofs.YtiegkjimpclmaaaGreatDoorW.PrintWords.cell_grown hg (cell_unalloc (hHeld.2.2.2.2.2.2.1) (by first | (rw [add_block]; exact Kd.S_lt HO_4.out _ rfl) | (show (Addr.add _ _).block < _; rw [add_block]; exact Kd.S_lt HO_4.out _ rfl) | exact Kd.S_lt HO_4.out _ rfl)) (by first | (rw [add_block]; exact (fun e_ => ((HL321_3.out.1 _ e_.symm).2) rfl)) | (show some (Addr.add _ _).block ≠ _; rw [add_block]; exact (fun e_ => ((HL321_3.out.1 _ e_.symm).2) rfl)) | exact (fun e_ => ((HL321_3.out.1 _ e_.symm).2) rfl)))
     (first | have HS7_ := Go.Proofs.YtiegkjimpclmaaaGreatDoorW.PrintWords.cell_grown hg (hHeld.2.2.2.2.2.2.2) (by first | (rw [add_block]; exact (fun e_ => ((HL321_3.out.1 _ e_.symm).2) rfl)) | (show some (Addr.add _ _).block ≠ _; rw [add_block]; exact (fun e_ => ((HL321_3.out.1 _ e_.symm).2) rfl)) | exact (fun e_ => ((HL321_3.out.1 _ e_.symm).2) rfl)) | have HS7_ := Go.Proofs.YtiegkjimpclmaaaGreatDoorW.PrintWords.cell_grown hg (cell_unalloc (hHeld.2.2.2.2.2.2.2) (by first | (rw [add_block]; exact Kd.S_lt HO_4.out _ rfl) | (show (Addr.add _ _).block < _; rw [add_block]; exact Kd.S_lt HO_4.out _ rfl) | exact Kd.S_lt HO_4.out _ rfl)) (by first | (rw [add_block]; exact (fun e_ => ((HL321_3.out.1 _ e_.symm).2) rfl)) | (show some (Addr.add _ _).block ≠ _; rw [add_block]; exact (fun e_ => ((HL321_3.out.1 _ e_.symm).2) rfl)) | exact (fun e_ => ((HL321_3.out.1 _ e_.symm).2) rfl)))
     rw [← Ny322.out] at ho
     have n0_ := a0_ (blk_grown (g := gb317) (o := .cells #[.string ((rd_T45 l0 x10_1).f0), .int .i64 ((rd_T45 l0 x10_1).f1), .int .i64 ((rd_T45 l0 x10_1).f2), .string ((rd_T45 l0 x10_1).f3)] 45 (0, 0)) (kB_ BK317.out) hg (Kd.R_ne HL321_3.out BK317.out (by decide)))
     have n1_ := a0_ (hb)
     have n2_ := a0_ (Kd.H_grown (Kd.H_widen (by repeat (first | exact HH29.out | refine Kd.H_alloc ?_ _ | refine Kd.H_drewN ?_ _ | refine Kd.H_drew ?_))) hg (fun k_ e_ => .inl (UU29.out.1 k_ e_)))
     have n3_ := a0_ (ho)
     clear BK317
     clear HB
     clear HH29
     clear HO_4
     clear UU29
     clear HL320_3
     clear HL321_3
     have BK317 := n0_
     have HB := n1_
     have HH29 := n2_
     have HO324 := n3_
     clear n0_ n1_ n2_ n3_
     clear ho hb hg hat
     have p26 : 0 ≤ ((ji21) : Int) := dec_
     have q26 : ((ji21) : Int) < ((x4_1.length : Int) : Int) := dec_
     replace p26 := eq_true p26
     replace q26 := eq_true q26
     obtain ⟨Ao33, co33, eo33⟩ := Kd.R_slice HO324.out
     (first | subst eo33 | (injection eo33 with f1_ f2_ f3_; have f4_ := f1_.symm; have f5_ := f3_.symm; clear f1_ f2_ f3_; subst f4_; subst f5_))
     obtain ⟨_, _, hraw31, _, _, hcc31, _⟩ := Kd.H_raw HH29.out (dec_) (by have h_ : ((ji21) : Int) < ((x4_1.length : Int) : Int) := dec_; first | exact h_ | (have e_ := (HN29.out); omega) | simpa using h_)
     obtain ⟨_, hfr31⟩ := Kd.H_at HH29.out (dec_) (by have h_ : ((ji21) : Int) < ((x4_1.length : Int) : Int) := dec_; first | exact h_ | (have e_ := (HN29.out); omega) | simpa using h_)
     have hx31_0 := hcc31 3 _ rfl
     have hf31_0 := hfr31 3
     (try rw [show (k83).sz = 4 from rfl] at hx31_0)
     (try rw [show (k83).sz = 4 from rfl] at hf31_0)
     have HP31 := Kd.S_seg0 HH29.out (dec_) (by have h_ : ((ji21) : Int) < ((x4_1.length : Int) : Int) := dec_; first | exact h_ | (have e_ := (HN29.out); omega) | simpa using h_) (seg := [.slice Ao33 y322.length co33]) (j := 3) (show 4 ≤ 4 from by decide) (x' := (⟨(rd_T83 x4_1 (ji21)).f0, (rd_T83 x4_1 (ji21)).f1, (rd_T83 x4_1 (ji21)).f2, y322⟩ : S83)) (k83_mkM _ _ _ (⟨(rd_T83 x4_1 (ji21)).f0, (rd_T83 x4_1 (ji21)).f1, (rd_T83 x4_1 (ji21)).f2, y322⟩ : S83) HO324.out) (fun _ hk => hk)
     clear hcc31 hfr31
     have HNB317_go29 := a0_ (show gb317 ≠ go29 from by have h_ := Kd.R_ne hraw31 BK317.out (by decide); intro e_; exact h_ (by rw [e_]; rfl))
     have HS31 := HP31.1
     rw [← Ny325.out] at HS31
     have HQ31 := a0_ HS31
     obtain ⟨_, hgg31⟩ := Kd.R_typed hraw31 go29 rfl
     have GG31_ := a0_ hgg31
     clear HP31 HS31 hgg31
     refine hK.out _ _ ⟨(blk_cell BK317.out 0).trans rfl, (blk_cell BK317.out 1).trans rfl, (blk_cell BK317.out 2).trans rfl, (blk_cell BK317.out 3).trans rfl, HS4_, HS5_, HS6_, HS7_⟩ (fun hHeld => ?_)
     clear hK K
     refine normS_ ?_
     refine pureS_ 11 (some 58) ?_
     refine pureS_ 12 (some 59) ?_
     refine last_ (i := 13) (N := none) #[true, true, true, true, true, true, true, true, true, true, true, true, true, true] rfl rfl (one_of HT_.out (by kernel_rfl)) (by decide) (fun K hK => ?_)
     refine skip_ (w1 := ?_) (by rfl) rfl ?_ ?_
     rotate_left
     · go_simp
       rfl
     refine hK.out _ _ ?_
     clear hK K
     refine done_ (done_of HT_.out (by kernel_rfl)) ?_
     try go_wp2
     go_roundg kj4
     case measure => have := HK1.out; have := HJ4.out; omega
     case rel => exact ⟨(y325), (wrap64 (x10_1 + 1)), rs_, H', ⟨by have := HK1.out; have := HJ4.out; omega⟩, ⟨by (with_reducible repeat (first | apply Kd.S_alloc | apply Kd.S_drewN | apply Kd.S_drew)); exact HQ31.out⟩, ⟨bq2_⟩⟩
end Go.Proofs.YtiegkjimpclmaaaGreatDoor.P
