/- FnExactSetsOf: part 14 of 28 of my texts for this claim, joined; the theorem stands in the last. Conditions: none beyond the statement's. -/
import Derived.Test.YtiegkjimpclmaaaGreatDoorMFnExactSetsOfx10
import Derived.Test.YtiegkjimpclmaaaGreatDoorMFnExactSetsOfx6
import Derived.Test.YtiegkjimpclmaaaGreatDoorMFnExactSetsOfx11
import Derived.Test.YtiegkjimpclmaaaGreatDoorMFnExactSetsOfx9
namespace Go.Proofs.YtiegkjimpclmaaaGreatDoor.P
open Go.RowKit Go.Proofs.YtiegkjimpclmaaaGreatDoorW.PrintWords Go.Proofs.YtiegkjimpclmaaaGreatDoorW.PrintLast Go.Proofs.YtiegkjimpclmaaaGreatDoorW.PrintMore
attribute [local go_sem] max2_int min2_int max_two min_two max_three min_three max_four min_four
set_option linter.unusedVariables false
set_option linter.unusedSimpArgs false
def laws_heldSetS.l0 : Nat → List (S83) → Int → Int → Option (Int)
 | 0, _, _, _ => none
 | k + 1, x0, x1, x5 => if x5 < (x0.length : Int) then (if 0 ≤ x5 then ((laws_markText.f k x1).bind fun t567 => (if ((rd_T83 x0 x5).f0).toList = t567.toList then (if ((rd_T83 x0 x5).f1) = (wrap64 (x1 + 1)) then (if ((rd_T83 x0 x5).f2) = (wrap64 ((wrap64 (x1 + 1)) + 1)) then ((laws_heldStringS.f k ((rd_T83 x0 x5).f3) (wrap64 ((wrap64 ((wrap64 (x1 + 1)) + 1)) + 1))).bind fun t571 => (if t571 < 0 then (some (-1)) else (laws_heldSetS.l0 k x0 t571 (wrap64 (x5 + 1))))) else (some (-1))) else (some (-1))) else (some (-1)))) else (none)) else (some x1)
def laws_heldSetS.f (k : Nat) (l0 : List (S83)) (a1 : Int) : Option (Int) := laws_heldSetS.l0 k l0 a1 0
def laws_heldSetS.T4 : Bool × List (List Nat × List Nat) := (true, [([], []), ([], []), ([0, 1], [0, 1]), ([2], [2]), ([3], [3]), ([], []), ([5], [5]), ([4, 6], [4, 6])])
def laws_heldSetS.B4 : List Nat := [0, 0, 3, 7, 15, 0, 32, 127]
theorem laws_heldSetS.tab4 : rtab .any (opsOf Tryz.f25 4) = laws_heldSetS.T4 := by kernel_rfl
theorem laws_heldSetS.bits4 : waitsOk laws_heldSetS.T4.2 laws_heldSetS.B4 = true := by kernel_rfl
set_option maxHeartbeats 8000000 in
set_option maxRecDepth 100000 in
theorem laws_heldSetS.calls (k : Nat) (A0 : Option Addr) (c0 : Nat) (l0 : List (S83)) (a1 : Int) (r : Int) (w : World) (hr0 : Kd.C k83 w A0 l0.length l0) (hc0 : l0.length ≤ c0) (h : laws_heldSetS.f k l0 a1 = some r) :
 Calls Tryz.prog 25 #[.slice A0 l0.length c0, .int .i64 a1] w fun e w' => e = .returned (.int .i64 r) ∧ Below w.heap.size w w' := by
 have HR0 := a0_ hr0
 have HC0 := a0_ hc0
 clear hr0 hc0
 have HB := a0_ (Below.refl w.heap.size w)
 have H : (laws_heldSetS.l0 k l0 a1 0) = some r := h
 clear h
 have H' := a0_ H
 clear H
 go_enter Tryz.func25, Tryz.ntmps25
 go_wp2
 go_loopg [1, 5] k (fun kq v1 v5 w' => ∃ (x1_1 : Int) (x5_1 : Int), v1 = .int .i64 x1_1 ∧ v5 = .int .i64 x5_1 ∧ Aside0 (laws_heldSetS.l0 kq l0 x1_1 x5_1 = some r) ∧ Aside0 (kq ≤ k) ∧ Aside0 (Below w.heap.size w w'))
 case atStart => exact ⟨(a1), (0), rs_, rs_, H', ⟨Nat.le_refl _⟩, ⟨bq0_⟩⟩
 case round =>
  clear H'
  obtain ⟨x1_1, x5_1, rfl, rfl, HA, HK1, HB⟩ := hrel
  cases gk with
  | zero => exact absurd HA.out (by simp [laws_heldSetS.l0])
  | succ k1 =>
   have H := HA.out
   clear HA
   simp only [laws_heldSetS.l0] at H
   by_cases c3 : x5_1 < (l0.length : Int)
   case neg =>
    rw [if_neg c3] at H
    have c3b0 := decide_eq_false c3
    clear c3
    obtain rfl := Option.some.inj H
    go_wp2
    go_ret
    exact ⟨rr_, bq0_⟩
   rw [if_pos c3] at H
   have c3b0 := decide_eq_true c3
   clear c3
   by_cases c4 : 0 ≤ x5_1
   case neg =>
    rw [if_neg c4] at H
    exact absurd H (by simp)
   rw [if_pos c4] at H
   have c4b0 := decide_eq_true c4
   clear c4
   obtain ⟨t567, A50, H⟩ := Option.bind_eq_some_iff.mp H
   have A5 := a0_ A50
   clear A50
   by_cases c6 : ((rd_T83 l0 x5_1).f0).toList = t567.toList
   case neg =>
    rw [if_neg c6] at H
    have c6b0 := beq_eq_false_iff_ne.mpr c6
    have c6b1 := bne_iff_ne.mpr c6
    obtain rfl := Option.some.inj H
    try go_wp2
    replace HB := a0_ (below_drew1 HB.out)
    have p566 : 0 ≤ (x5_1 : Int) := dec_
    have q566 : x5_1 < (l0.length : Int) := dec_
    obtain ⟨ad566, A566_3, c566_3, e566, hx566_0, hx566_1, hx566_2, hx566_3, hl566_3, hi566_3⟩ := at_T83 HR0.out x5_1 p566 q566
    have hw566_3 := hx566_3
    have hw566_2 := hx566_2
    have hw566_1 := hx566_1
    have hw566_0 := hx566_0
    cases e566
    obtain ⟨hx566_0, hx566_1, hx566_2, hx566_3⟩ := up4_ HB.out hx566_0 hx566_1 hx566_2 hx566_3
    have HR566_3 := a0_ hi566_3
    have HC566_3 := a0_ hl566_3
    clear hi566_3 hl566_3
    replace p566 := eq_true p566
    replace q566 := eq_true q566
    refine start_ (n := 8) (S := fun w' => w'.cell? (ad566.add ((x5_1).toNat * 4)) = some (.string ((rd_T83 l0 x5_1).f0)) ∧ w'.cell? ⟨(ad566.add ((x5_1).toNat * 4)).block, (ad566.add ((x5_1).toNat * 4)).off + 1, none⟩ = some (.int .i64 ((rd_T83 l0 x5_1).f1)) ∧ w'.cell? ⟨(ad566.add ((x5_1).toNat * 4)).block, (ad566.add ((x5_1).toNat * 4)).off + 2, none⟩ = some (.int .i64 ((rd_T83 l0 x5_1).f2)) ∧ w'.cell? ⟨(ad566.add ((x5_1).toNat * 4)).block, (ad566.add ((x5_1).toNat * 4)).off + 3, none⟩ = some (.slice A566_3 ((rd_T83 l0 x5_1).f3).length c566_3)) (ds := []) #[false, false, false, false, false, false, false, false] (by kernel_rfl) rfl rfl ⟨((HB.out.cell (World.block_lt_of_cell? w _ hw566_0)).trans hw566_0), ((HB.out.cell (World.block_lt_of_cell? w _ hw566_1)).trans hw566_1), ((HB.out.cell (World.block_lt_of_cell? w _ hw566_2)).trans hw566_2), ((HB.out.cell (World.block_lt_of_cell? w _ hw566_3)).trans hw566_3)⟩ (fun hHeld => ?_); refine with_tabW laws_heldSetS.tab4 laws_heldSetS.bits4 (fun HT_ HW_ => ?_)
    generalize wr.drew = w21 at HB HR566_3 hx566_0 hx566_1 hx566_2 hx566_3 hHeld ⊢
    refine pureS_ 0 (some 12) ?_
    refine pureS_ 1 (some 13) ?_
    refine pureS_ 2 (some 14) ?_
    refine pureS_ 3 (some 15) ?_
    refine pureS_ 5 (some 17) ?_
    refine takeS_ 4 (some 16) ?_
    refine oneS_ 6 (some 18) (fun K hK => ?_)
    refine goes_ Tryz.func69 (by kernel_rfl) rfl #[.int .i64 x1_1] (by rfl) rfl rfl argsS_ ?_
    with_reducible refine (laws_markText.calls k1 x1_1 t567 _ A5.out).mono ?_
    rintro e w22 ⟨rfl, hb⟩
    refine ⟨_, rfl, ?_⟩
    replace HB := a0_ (below_step bq0_ hb)
    (try clear hb)
    (try clear hb2)
    (try clear hk)
    (try clear hi)
    refine hK.out _ _ ⟨((HB.out.cell (World.block_lt_of_cell? w _ hw566_0)).trans hw566_0), ((HB.out.cell (World.block_lt_of_cell? w _ hw566_1)).trans hw566_1), ((HB.out.cell (World.block_lt_of_cell? w _ hw566_2)).trans hw566_2), ((HB.out.cell (World.block_lt_of_cell? w _ hw566_3)).trans hw566_3)⟩ (fun hHeld => ?_)
    clear hK K
    refine normS_ ?_
    refine pureS_ 7 (some 19) ?_
    refine done_ (done_of HT_.out (by kernel_rfl)) ?_
    try go_wp2
    go_ret
    exact ⟨rr_, bq0_⟩
   rw [if_pos c6] at H
   have c6b0 := beq_iff_eq.mpr c6
   have c6b1 := bne_eq_false_iff_eq.mpr c6
   clear c6
   by_cases c7 : ((rd_T83 l0 x5_1).f1) = (wrap64 (x1_1 + 1))
   case neg =>
    rw [if_neg c7] at H
    have c7b0 := beq_eq_false_iff_ne.mpr c7
    have c7b1 := bne_iff_ne.mpr c7
    obtain rfl := Option.some.inj H
    try go_wp2
    replace HB := a0_ (below_drew1 HB.out)
    have p566 : 0 ≤ (x5_1 : Int) := dec_
    have q566 : x5_1 < (l0.length : Int) := dec_
    obtain ⟨ad566, A566_3, c566_3, e566, hx566_0, hx566_1, hx566_2, hx566_3, hl566_3, hi566_3⟩ := at_T83 HR0.out x5_1 p566 q566
    have hw566_3 := hx566_3
    have hw566_2 := hx566_2
    have hw566_1 := hx566_1
    have hw566_0 := hx566_0
    cases e566
    obtain ⟨hx566_0, hx566_1, hx566_2, hx566_3⟩ := up4_ HB.out hx566_0 hx566_1 hx566_2 hx566_3
    have HR566_3 := a0_ hi566_3
    have HC566_3 := a0_ hl566_3
    clear hi566_3 hl566_3
    replace p566 := eq_true p566
    replace q566 := eq_true q566
    refine start_ (n := 8) (S := fun w' => w'.cell? (ad566.add ((x5_1).toNat * 4)) = some (.string ((rd_T83 l0 x5_1).f0)) ∧ w'.cell? ⟨(ad566.add ((x5_1).toNat * 4)).block, (ad566.add ((x5_1).toNat * 4)).off + 1, none⟩ = some (.int .i64 ((rd_T83 l0 x5_1).f1)) ∧ w'.cell? ⟨(ad566.add ((x5_1).toNat * 4)).block, (ad566.add ((x5_1).toNat * 4)).off + 2, none⟩ = some (.int .i64 ((rd_T83 l0 x5_1).f2)) ∧ w'.cell? ⟨(ad566.add ((x5_1).toNat * 4)).block, (ad566.add ((x5_1).toNat * 4)).off + 3, none⟩ = some (.slice A566_3 ((rd_T83 l0 x5_1).f3).length c566_3)) (ds := []) #[false, false, false, false, false, false, false, false] (by kernel_rfl) rfl rfl ⟨((HB.out.cell (World.block_lt_of_cell? w _ hw566_0)).trans hw566_0), ((HB.out.cell (World.block_lt_of_cell? w _ hw566_1)).trans hw566_1), ((HB.out.cell (World.block_lt_of_cell? w _ hw566_2)).trans hw566_2), ((HB.out.cell (World.block_lt_of_cell? w _ hw566_3)).trans hw566_3)⟩ (fun hHeld => ?_); refine with_tabW laws_heldSetS.tab4 laws_heldSetS.bits4 (fun HT_ HW_ => ?_)
    generalize wr.drew = w19 at HB HR566_3 hx566_0 hx566_1 hx566_2 hx566_3 hHeld ⊢
    refine pureS_ 0 (some 12) ?_
    refine pureS_ 1 (some 13) ?_
    refine pureS_ 2 (some 14) ?_
    refine pureS_ 3 (some 15) ?_
    refine pureS_ 5 (some 17) ?_
    refine takeS_ 4 (some 16) ?_
    refine oneS_ 6 (some 18) (fun K hK => ?_)
    refine goes_ Tryz.func69 (by kernel_rfl) rfl #[.int .i64 x1_1] (by rfl) rfl rfl argsS_ ?_
    with_reducible refine (laws_markText.calls k1 x1_1 t567 _ A5.out).mono ?_
    rintro e w20 ⟨rfl, hb⟩
    refine ⟨_, rfl, ?_⟩
    replace HB := a0_ (below_step bq0_ hb)
    (try clear hb)
    (try clear hb2)
    (try clear hk)
    (try clear hi)
    refine hK.out _ _ ⟨((HB.out.cell (World.block_lt_of_cell? w _ hw566_0)).trans hw566_0), ((HB.out.cell (World.block_lt_of_cell? w _ hw566_1)).trans hw566_1), ((HB.out.cell (World.block_lt_of_cell? w _ hw566_2)).trans hw566_2), ((HB.out.cell (World.block_lt_of_cell? w _ hw566_3)).trans hw566_3)⟩ (fun hHeld => ?_)
    clear hK K
    refine normS_ ?_
    refine pureS_ 7 (some 19) ?_
    refine done_ (done_of HT_.out (by kernel_rfl)) ?_
    have p568 : 0 ≤ (x5_1 : Int) := dec_
    have q568 : x5_1 < (l0.length : Int) := dec_
    obtain ⟨ad568, A568_3, c568_3, e568, hx568_0, hx568_1, hx568_2, hx568_3, hl568_3, hi568_3⟩ := at_T83 HR0.out x5_1 p568 q568
    obtain rfl : ad566 = ad568 := (by injection e568)
    have eb_ := Option.some.inj (hw566_3.symm.trans hx568_3)
    injection eb_ with eb_ en_ ec_
    subst eb_
    subst ec_
    clear en_
    obtain ⟨hx568_0, hx568_1, hx568_2, hx568_3⟩ := up4_ HB.out hx568_0 hx568_1 hx568_2 hx568_3
    have HR568_3 := a0_ hi568_3
    have HC568_3 := a0_ hl568_3
    clear hi568_3 hl568_3
    replace p568 := eq_true p568
    replace q568 := eq_true q568
    try go_wp2
    go_ret
    exact ⟨rr_, bq0_⟩
   rw [if_pos c7] at H
   have c7b0 := beq_iff_eq.mpr c7
   have c7b1 := bne_eq_false_iff_eq.mpr c7
   clear c7
   by_cases c8 : ((rd_T83 l0 x5_1).f2) = (wrap64 ((wrap64 (x1_1 + 1)) + 1))
   case neg =>
    rw [if_neg c8] at H
    have c8b0 := beq_eq_false_iff_ne.mpr c8
    have c8b1 := bne_iff_ne.mpr c8
    obtain rfl := Option.some.inj H
    try go_wp2
    replace HB := a0_ (below_drew1 HB.out)
    have p566 : 0 ≤ (x5_1 : Int) := dec_
    have q566 : x5_1 < (l0.length : Int) := dec_
    obtain ⟨ad566, A566_3, c566_3, e566, hx566_0, hx566_1, hx566_2, hx566_3, hl566_3, hi566_3⟩ := at_T83 HR0.out x5_1 p566 q566
    have hw566_3 := hx566_3
    have hw566_2 := hx566_2
    have hw566_1 := hx566_1
    have hw566_0 := hx566_0
    cases e566
    obtain ⟨hx566_0, hx566_1, hx566_2, hx566_3⟩ := up4_ HB.out hx566_0 hx566_1 hx566_2 hx566_3
    have HR566_3 := a0_ hi566_3
    have HC566_3 := a0_ hl566_3
    clear hi566_3 hl566_3
    replace p566 := eq_true p566
    replace q566 := eq_true q566
    refine start_ (n := 8) (S := fun w' => w'.cell? (ad566.add ((x5_1).toNat * 4)) = some (.string ((rd_T83 l0 x5_1).f0)) ∧ w'.cell? ⟨(ad566.add ((x5_1).toNat * 4)).block, (ad566.add ((x5_1).toNat * 4)).off + 1, none⟩ = some (.int .i64 ((rd_T83 l0 x5_1).f1)) ∧ w'.cell? ⟨(ad566.add ((x5_1).toNat * 4)).block, (ad566.add ((x5_1).toNat * 4)).off + 2, none⟩ = some (.int .i64 ((rd_T83 l0 x5_1).f2)) ∧ w'.cell? ⟨(ad566.add ((x5_1).toNat * 4)).block, (ad566.add ((x5_1).toNat * 4)).off + 3, none⟩ = some (.slice A566_3 ((rd_T83 l0 x5_1).f3).length c566_3)) (ds := []) #[false, false, false, false, false, false, false, false] (by kernel_rfl) rfl rfl ⟨((HB.out.cell (World.block_lt_of_cell? w _ hw566_0)).trans hw566_0), ((HB.out.cell (World.block_lt_of_cell? w _ hw566_1)).trans hw566_1), ((HB.out.cell (World.block_lt_of_cell? w _ hw566_2)).trans hw566_2), ((HB.out.cell (World.block_lt_of_cell? w _ hw566_3)).trans hw566_3)⟩ (fun hHeld => ?_); refine with_tabW laws_heldSetS.tab4 laws_heldSetS.bits4 (fun HT_ HW_ => ?_)
    generalize wr.drew = w17 at HB HR566_3 hx566_0 hx566_1 hx566_2 hx566_3 hHeld ⊢
    refine pureS_ 0 (some 12) ?_
    refine pureS_ 1 (some 13) ?_
    refine pureS_ 2 (some 14) ?_
    refine pureS_ 3 (some 15) ?_
    refine pureS_ 5 (some 17) ?_
    refine takeS_ 4 (some 16) ?_
    refine oneS_ 6 (some 18) (fun K hK => ?_)
    refine goes_ Tryz.func69 (by kernel_rfl) rfl #[.int .i64 x1_1] (by rfl) rfl rfl argsS_ ?_
    with_reducible refine (laws_markText.calls k1 x1_1 t567 _ A5.out).mono ?_
    rintro e w18 ⟨rfl, hb⟩
    refine ⟨_, rfl, ?_⟩
    replace HB := a0_ (below_step bq0_ hb)
    (try clear hb)
    (try clear hb2)
    (try clear hk)
    (try clear hi)
    refine hK.out _ _ ⟨((HB.out.cell (World.block_lt_of_cell? w _ hw566_0)).trans hw566_0), ((HB.out.cell (World.block_lt_of_cell? w _ hw566_1)).trans hw566_1), ((HB.out.cell (World.block_lt_of_cell? w _ hw566_2)).trans hw566_2), ((HB.out.cell (World.block_lt_of_cell? w _ hw566_3)).trans hw566_3)⟩ (fun hHeld => ?_)
    clear hK K
    refine normS_ ?_
    refine pureS_ 7 (some 19) ?_
    refine done_ (done_of HT_.out (by kernel_rfl)) ?_
    have p568 : 0 ≤ (x5_1 : Int) := dec_
    have q568 : x5_1 < (l0.length : Int) := dec_
    obtain ⟨ad568, A568_3, c568_3, e568, hx568_0, hx568_1, hx568_2, hx568_3, hl568_3, hi568_3⟩ := at_T83 HR0.out x5_1 p568 q568
    obtain rfl : ad566 = ad568 := (by injection e568)
    have eb_ := Option.some.inj (hw566_3.symm.trans hx568_3)
    injection eb_ with eb_ en_ ec_
    subst eb_
    subst ec_
    clear en_
    obtain ⟨hx568_0, hx568_1, hx568_2, hx568_3⟩ := up4_ HB.out hx568_0 hx568_1 hx568_2 hx568_3
    have HR568_3 := a0_ hi568_3
    have HC568_3 := a0_ hl568_3
    clear hi568_3 hl568_3
    replace p568 := eq_true p568
    replace q568 := eq_true q568
    have p569 : 0 ≤ (x5_1 : Int) := dec_
    have q569 : x5_1 < (l0.length : Int) := dec_
    obtain ⟨ad569, A569_3, c569_3, e569, hx569_0, hx569_1, hx569_2, hx569_3, hl569_3, hi569_3⟩ := at_T83 HR0.out x5_1 p569 q569
    obtain rfl : ad566 = ad569 := (by injection e569)
    have eb_ := Option.some.inj (hw566_3.symm.trans hx569_3)
    injection eb_ with eb_ en_ ec_
    subst eb_
    subst ec_
    clear en_
    obtain ⟨hx569_0, hx569_1, hx569_2, hx569_3⟩ := up4_ HB.out hx569_0 hx569_1 hx569_2 hx569_3
    have HR569_3 := a0_ hi569_3
    have HC569_3 := a0_ hl569_3
    clear hi569_3 hl569_3
    replace p569 := eq_true p569
    replace q569 := eq_true q569
    try go_wp2
    go_ret
    exact ⟨rr_, bq0_⟩
   rw [if_pos c8] at H
   have c8b0 := beq_iff_eq.mpr c8
   have c8b1 := bne_eq_false_iff_eq.mpr c8
   clear c8
   obtain ⟨t571, A90, H⟩ := Option.bind_eq_some_iff.mp H
   have A9 := a0_ A90
   clear A90
   by_cases c10 : t571 < 0
   case pos =>
    rw [if_pos c10] at H
    have c10b0 := decide_eq_true c10
    clear c10
    obtain rfl := Option.some.inj H
    try go_wp2
    replace HB := a0_ (below_drew1 HB.out)
    have p566 : 0 ≤ (x5_1 : Int) := dec_
    have q566 : x5_1 < (l0.length : Int) := dec_
    obtain ⟨ad566, A566_3, c566_3, e566, hx566_0, hx566_1, hx566_2, hx566_3, hl566_3, hi566_3⟩ := at_T83 HR0.out x5_1 p566 q566
    have hw566_3 := hx566_3
    have hw566_2 := hx566_2
    have hw566_1 := hx566_1
    have hw566_0 := hx566_0
    cases e566
    obtain ⟨hx566_0, hx566_1, hx566_2, hx566_3⟩ := up4_ HB.out hx566_0 hx566_1 hx566_2 hx566_3
    have HR566_3 := a0_ hi566_3
    have HC566_3 := a0_ hl566_3
    clear hi566_3 hl566_3
    replace p566 := eq_true p566
    replace q566 := eq_true q566
    refine start_ (n := 8) (S := fun w' => w'.cell? (ad566.add ((x5_1).toNat * 4)) = some (.string ((rd_T83 l0 x5_1).f0)) ∧ w'.cell? ⟨(ad566.add ((x5_1).toNat * 4)).block, (ad566.add ((x5_1).toNat * 4)).off + 1, none⟩ = some (.int .i64 ((rd_T83 l0 x5_1).f1)) ∧ w'.cell? ⟨(ad566.add ((x5_1).toNat * 4)).block, (ad566.add ((x5_1).toNat * 4)).off + 2, none⟩ = some (.int .i64 ((rd_T83 l0 x5_1).f2)) ∧ w'.cell? ⟨(ad566.add ((x5_1).toNat * 4)).block, (ad566.add ((x5_1).toNat * 4)).off + 3, none⟩ = some (.slice A566_3 ((rd_T83 l0 x5_1).f3).length c566_3)) (ds := []) #[false, false, false, false, false, false, false, false] (by kernel_rfl) rfl rfl ⟨((HB.out.cell (World.block_lt_of_cell? w _ hw566_0)).trans hw566_0), ((HB.out.cell (World.block_lt_of_cell? w _ hw566_1)).trans hw566_1), ((HB.out.cell (World.block_lt_of_cell? w _ hw566_2)).trans hw566_2), ((HB.out.cell (World.block_lt_of_cell? w _ hw566_3)).trans hw566_3)⟩ (fun hHeld => ?_); refine with_tabW laws_heldSetS.tab4 laws_heldSetS.bits4 (fun HT_ HW_ => ?_)
    generalize wr.drew = w11 at HB HR566_3 hx566_0 hx566_1 hx566_2 hx566_3 hHeld ⊢
    refine pureS_ 0 (some 12) ?_
    refine pureS_ 1 (some 13) ?_
    refine pureS_ 2 (some 14) ?_
    refine pureS_ 3 (some 15) ?_
    refine pureS_ 5 (some 17) ?_
    refine takeS_ 4 (some 16) ?_
    refine oneS_ 6 (some 18) (fun K hK => ?_)
    refine goes_ Tryz.func69 (by kernel_rfl) rfl #[.int .i64 x1_1] (by rfl) rfl rfl argsS_ ?_
    with_reducible refine (laws_markText.calls k1 x1_1 t567 _ A5.out).mono ?_
    rintro e w12 ⟨rfl, hb⟩
    refine ⟨_, rfl, ?_⟩
    replace HB := a0_ (below_step bq0_ hb)
    (try clear hb)
    (try clear hb2)
    (try clear hk)
    (try clear hi)
    refine hK.out _ _ ⟨((HB.out.cell (World.block_lt_of_cell? w _ hw566_0)).trans hw566_0), ((HB.out.cell (World.block_lt_of_cell? w _ hw566_1)).trans hw566_1), ((HB.out.cell (World.block_lt_of_cell? w _ hw566_2)).trans hw566_2), ((HB.out.cell (World.block_lt_of_cell? w _ hw566_3)).trans hw566_3)⟩ (fun hHeld => ?_)
    clear hK K
    refine normS_ ?_
    refine pureS_ 7 (some 19) ?_
    refine done_ (done_of HT_.out (by kernel_rfl)) ?_
    have p568 : 0 ≤ (x5_1 : Int) := dec_
    have q568 : x5_1 < (l0.length : Int) := dec_
    obtain ⟨ad568, A568_3, c568_3, e568, hx568_0, hx568_1, hx568_2, hx568_3, hl568_3, hi568_3⟩ := at_T83 HR0.out x5_1 p568 q568
    obtain rfl : ad566 = ad568 := (by injection e568)
    have eb_ := Option.some.inj (hw566_3.symm.trans hx568_3)
    injection eb_ with eb_ en_ ec_
    subst eb_
    subst ec_
    clear en_
    obtain ⟨hx568_0, hx568_1, hx568_2, hx568_3⟩ := up4_ HB.out hx568_0 hx568_1 hx568_2 hx568_3
    have HR568_3 := a0_ hi568_3
    have HC568_3 := a0_ hl568_3
    clear hi568_3 hl568_3
    replace p568 := eq_true p568
    replace q568 := eq_true q568
    have p569 : 0 ≤ (x5_1 : Int) := dec_
    have q569 : x5_1 < (l0.length : Int) := dec_
    obtain ⟨ad569, A569_3, c569_3, e569, hx569_0, hx569_1, hx569_2, hx569_3, hl569_3, hi569_3⟩ := at_T83 HR0.out x5_1 p569 q569
    obtain rfl : ad566 = ad569 := (by injection e569)
    have eb_ := Option.some.inj (hw566_3.symm.trans hx569_3)
    injection eb_ with eb_ en_ ec_
    subst eb_
    subst ec_
    clear en_
    obtain ⟨hx569_0, hx569_1, hx569_2, hx569_3⟩ := up4_ HB.out hx569_0 hx569_1 hx569_2 hx569_3
    have HR569_3 := a0_ hi569_3
    have HC569_3 := a0_ hl569_3
    clear hi569_3 hl569_3
    replace p569 := eq_true p569
    replace q569 := eq_true q569
    have p570 : 0 ≤ (x5_1 : Int) := dec_
    have q570 : x5_1 < (l0.length : Int) := dec_
    obtain ⟨ad570, A570_3, c570_3, e570, hx570_0, hx570_1, hx570_2, hx570_3, hl570_3, hi570_3⟩ := at_T83 HR0.out x5_1 p570 q570
    obtain rfl : ad566 = ad570 := (by injection e570)
    have eb_ := Option.some.inj (hw566_3.symm.trans hx570_3)
    injection eb_ with eb_ en_ ec_
    subst eb_
    subst ec_
    clear en_
    obtain ⟨hx570_0, hx570_1, hx570_2, hx570_3⟩ := up4_ HB.out hx570_0 hx570_1 hx570_2 hx570_3
    have HR570_3 := a0_ hi570_3
    have HC570_3 := a0_ hl570_3
    clear hi570_3 hl570_3
    replace p570 := eq_true p570
    replace q570 := eq_true q570
    try go_wp2_with (first | ((with_reducible refine gate_callee (f := 79) rfl ?_); refine goesL_ (some 46) rfl rfl Tryz.func79 (by kernel_rfl) rfl #[.slice A566_3 ((rd_T83 l0 x5_1).f3).length c566_3, .int .i64 (wrap64 ((wrap64 ((wrap64 (x1_1 + 1)) + 1)) + 1))] rfl argsS_ ?_; (with_reducible refine (laws_heldStringS.calls k1 _ _ ((rd_T83 l0 x5_1).f3) (wrap64 ((wrap64 ((wrap64 (x1_1 + 1)) + 1)) + 1)) t571 _ ?side1 ?side2 A9.out).mono ?_); (case side1 => exact kC_ HR570_3.out HB.out); (case side2 => exact HC570_3.out); rintro e w13 ⟨rfl, hb⟩; refine ⟨_, rfl, ?_⟩; replace HB := a0_ (below_step bq0_ hb); clear hb))
    go_ret
    exact ⟨rr_, bq0_⟩
   rw [if_neg c10] at H
   have c10b0 := decide_eq_false c10
   clear c10
   have H' := a0_ H
   clear H
   try go_wp2
   replace HB := a0_ (below_drew1 HB.out)
   have p566 : 0 ≤ (x5_1 : Int) := dec_
   have q566 : x5_1 < (l0.length : Int) := dec_
   obtain ⟨ad566, A566_3, c566_3, e566, hx566_0, hx566_1, hx566_2, hx566_3, hl566_3, hi566_3⟩ := at_T83 HR0.out x5_1 p566 q566
   have hw566_3 := hx566_3
   have hw566_2 := hx566_2
   have hw566_1 := hx566_1
   have hw566_0 := hx566_0
   cases e566
   obtain ⟨hx566_0, hx566_1, hx566_2, hx566_3⟩ := up4_ HB.out hx566_0 hx566_1 hx566_2 hx566_3
   have HR566_3 := a0_ hi566_3
   have HC566_3 := a0_ hl566_3
   clear hi566_3 hl566_3
   replace p566 := eq_true p566
   replace q566 := eq_true q566
   refine start_ (n := 8) (S := fun w' => w'.cell? (ad566.add ((x5_1).toNat * 4)) = some (.string ((rd_T83 l0 x5_1).f0)) ∧ w'.cell? ⟨(ad566.add ((x5_1).toNat * 4)).block, (ad566.add ((x5_1).toNat * 4)).off + 1, none⟩ = some (.int .i64 ((rd_T83 l0 x5_1).f1)) ∧ w'.cell? ⟨(ad566.add ((x5_1).toNat * 4)).block, (ad566.add ((x5_1).toNat * 4)).off + 2, none⟩ = some (.int .i64 ((rd_T83 l0 x5_1).f2)) ∧ w'.cell? ⟨(ad566.add ((x5_1).toNat * 4)).block, (ad566.add ((x5_1).toNat * 4)).off + 3, none⟩ = some (.slice A566_3 ((rd_T83 l0 x5_1).f3).length c566_3)) (ds := []) #[false, false, false, false, false, false, false, false] (by kernel_rfl) rfl rfl ⟨((HB.out.cell (World.block_lt_of_cell? w _ hw566_0)).trans hw566_0), ((HB.out.cell (World.block_lt_of_cell? w _ hw566_1)).trans hw566_1), ((HB.out.cell (World.block_lt_of_cell? w _ hw566_2)).trans hw566_2), ((HB.out.cell (World.block_lt_of_cell? w _ hw566_3)).trans hw566_3)⟩ (fun hHeld => ?_); refine with_tabW laws_heldSetS.tab4 laws_heldSetS.bits4 (fun HT_ HW_ => ?_)
   generalize wr.drew = w14 at HB HR566_3 hx566_0 hx566_1 hx566_2 hx566_3 hHeld ⊢
   refine pureS_ 0 (some 12) ?_
   refine pureS_ 1 (some 13) ?_
   refine pureS_ 2 (some 14) ?_
   refine pureS_ 3 (some 15) ?_
   refine pureS_ 5 (some 17) ?_
   refine takeS_ 4 (some 16) ?_
   refine oneS_ 6 (some 18) (fun K hK => ?_)
   refine goes_ Tryz.func69 (by kernel_rfl) rfl #[.int .i64 x1_1] (by rfl) rfl rfl argsS_ ?_
   with_reducible refine (laws_markText.calls k1 x1_1 t567 _ A5.out).mono ?_
   rintro e w15 ⟨rfl, hb⟩
   refine ⟨_, rfl, ?_⟩
   replace HB := a0_ (below_step bq0_ hb)
   (try clear hb)
   (try clear hb2)
   (try clear hk)
   (try clear hi)
   refine hK.out _ _ ⟨((HB.out.cell (World.block_lt_of_cell? w _ hw566_0)).trans hw566_0), ((HB.out.cell (World.block_lt_of_cell? w _ hw566_1)).trans hw566_1), ((HB.out.cell (World.block_lt_of_cell? w _ hw566_2)).trans hw566_2), ((HB.out.cell (World.block_lt_of_cell? w _ hw566_3)).trans hw566_3)⟩ (fun hHeld => ?_)
   clear hK K
   refine normS_ ?_
   refine pureS_ 7 (some 19) ?_
   refine done_ (done_of HT_.out (by kernel_rfl)) ?_
   have p568 : 0 ≤ (x5_1 : Int) := dec_
   have q568 : x5_1 < (l0.length : Int) := dec_
   obtain ⟨ad568, A568_3, c568_3, e568, hx568_0, hx568_1, hx568_2, hx568_3, hl568_3, hi568_3⟩ := at_T83 HR0.out x5_1 p568 q568
   obtain rfl : ad566 = ad568 := (by injection e568)
   have eb_ := Option.some.inj (hw566_3.symm.trans hx568_3)
   injection eb_ with eb_ en_ ec_
   subst eb_
   subst ec_
   clear en_
   obtain ⟨hx568_0, hx568_1, hx568_2, hx568_3⟩ := up4_ HB.out hx568_0 hx568_1 hx568_2 hx568_3
   have HR568_3 := a0_ hi568_3
   have HC568_3 := a0_ hl568_3
   clear hi568_3 hl568_3
   replace p568 := eq_true p568
   replace q568 := eq_true q568
   have p569 : 0 ≤ (x5_1 : Int) := dec_
   have q569 : x5_1 < (l0.length : Int) := dec_
   obtain ⟨ad569, A569_3, c569_3, e569, hx569_0, hx569_1, hx569_2, hx569_3, hl569_3, hi569_3⟩ := at_T83 HR0.out x5_1 p569 q569
   obtain rfl : ad566 = ad569 := (by injection e569)
   have eb_ := Option.some.inj (hw566_3.symm.trans hx569_3)
   injection eb_ with eb_ en_ ec_
   subst eb_
   subst ec_
   clear en_
   obtain ⟨hx569_0, hx569_1, hx569_2, hx569_3⟩ := up4_ HB.out hx569_0 hx569_1 hx569_2 hx569_3
   have HR569_3 := a0_ hi569_3
   have HC569_3 := a0_ hl569_3
   clear hi569_3 hl569_3
   replace p569 := eq_true p569
   replace q569 := eq_true q569
   have p570 : 0 ≤ (x5_1 : Int) := dec_
   have q570 : x5_1 < (l0.length : Int) := dec_
   obtain ⟨ad570, A570_3, c570_3, e570, hx570_0, hx570_1, hx570_2, hx570_3, hl570_3, hi570_3⟩ := at_T83 HR0.out x5_1 p570 q570
   obtain rfl : ad566 = ad570 := (by injection e570)
   have eb_ := Option.some.inj (hw566_3.symm.trans hx570_3)
   injection eb_ with eb_ en_ ec_
   subst eb_
   subst ec_
   clear en_
   obtain ⟨hx570_0, hx570_1, hx570_2, hx570_3⟩ := up4_ HB.out hx570_0 hx570_1 hx570_2 hx570_3
   have HR570_3 := a0_ hi570_3
   have HC570_3 := a0_ hl570_3
   clear hi570_3 hl570_3
   replace p570 := eq_true p570
   replace q570 := eq_true q570
   try go_wp2_with (first | ((with_reducible refine gate_callee (f := 79) rfl ?_); refine goesL_ (some 46) rfl rfl Tryz.func79 (by kernel_rfl) rfl #[.slice A566_3 ((rd_T83 l0 x5_1).f3).length c566_3, .int .i64 (wrap64 ((wrap64 ((wrap64 (x1_1 + 1)) + 1)) + 1))] rfl argsS_ ?_; (with_reducible refine (laws_heldStringS.calls k1 _ _ ((rd_T83 l0 x5_1).f3) (wrap64 ((wrap64 ((wrap64 (x1_1 + 1)) + 1)) + 1)) t571 _ ?side1 ?side2 A9.out).mono ?_); (case side1 => exact kC_ HR570_3.out HB.out); (case side2 => exact HC570_3.out); rintro e w16 ⟨rfl, hb⟩; refine ⟨_, rfl, ?_⟩; replace HB := a0_ (below_step bq0_ hb); clear hb))
   go_roundg k1
   case measure => have := HK1.out; omega
   case rel => exact ⟨(t571), (wrap64 (x5_1 + 1)), rs_, rs_, H', ⟨by have := HK1.out; omega⟩, ⟨bq0_⟩⟩
def spec_l1Labels.l0 : Nat → ByteArray → List ByteArray → List ByteArray → Int → Int → Option (List ByteArray × Bool)
 | 0, _, _, _, _, _ => none
 | k + 1, x0, x4, x11, x12, x13 => if x13 < x12 then (if 0 ≤ x13 then (if x13 < (x11.length : Int) then ((spec_l1Label.f k (rdOf ByteArray.empty x11 x13)).bind fun t119 => (if t119 = true then (spec_l1Labels.l0 k x0 x4 x11 x12 (wrap64 (x13 + 1))) else (some (([] : List ByteArray), false)))) else (none)) else (none)) else (if (x0.size : Int) ≤ 60 then (some (x4, decide ((x4.length : Int) ≤ 8))) else (some (x4, false)))
def spec_l1Labels.f (k : Nat) (a0 : ByteArray) : Option (List ByteArray × Bool) := if a0.toList = ([] : List UInt8) then (some (([] : List ByteArray), true)) else ((spec_l1Split.f k a0 46).bind fun t115 => (spec_l1Labels.l0 k a0 t115 t115 (t115.length : Int) 0))
theorem spec_l1Labels.mono_l : ∀ k, (∀ y0 y1 y2 y3 y4, LeO (spec_l1Labels.l0 k y0 y1 y2 y3 y4) (spec_l1Labels.l0 (k + 1) y0 y1 y2 y3 y4))
 | 0 => fun _ _ _ _ _ r h => by simp [spec_l1Labels.l0] at h
 | k + 1 => by
  have ih0 := spec_l1Labels.mono_l k
  · intro y0 y1 y2 y3 y4
    unfold spec_l1Labels.l0
    repeat' first
    | (with_reducible exact ih0 _ _ _ _ _)
    | (with_reducible exact spec_l1Label.mono _ _)
    | (with_reducible exact spec_l1Split.mono _ _ _)
    | (with_reducible exact LeO.refl _)
    | (with_reducible exact LeO.none _)
    | (with_reducible refine LeO.ite ?_ ?_)
    | (with_reducible refine LeO.bind ?_ (fun _ => ?_))
    | exact ih0 _ _ _ _ _
    | exact spec_l1Label.mono _ _
    | exact spec_l1Split.mono _ _ _
    | exact LeO.none _
    | refine LeO.ite ?_ ?_
    | refine LeO.bind ?_ (fun _ => ?_)
theorem spec_l1Labels.mono : ∀ a0 k, LeO (spec_l1Labels.f k a0) (spec_l1Labels.f (k + 1) a0) := by
 intro a0 k
 have ih0 := spec_l1Labels.mono_l k
 unfold spec_l1Labels.f
 repeat' first
  | (with_reducible exact ih0 _ _ _ _ _)
  | (with_reducible exact spec_l1Label.mono _ _)
  | (with_reducible exact spec_l1Split.mono _ _ _)
  | (with_reducible exact LeO.refl _)
  | (with_reducible exact LeO.none _)
  | (with_reducible refine LeO.ite ?_ ?_)
  | (with_reducible refine LeO.bind ?_ (fun _ => ?_))
  | exact ih0 _ _ _ _ _
  | exact spec_l1Label.mono _ _
  | exact spec_l1Split.mono _ _ _
  | exact LeO.none _
  | refine LeO.ite ?_ ?_
  | refine LeO.bind ?_ (fun _ => ?_)
set_option maxHeartbeats 8000000 in
set_option maxRecDepth 100000 in
theorem spec_l1Labels.calls (k : Nat) (a0 : ByteArray) (r1 : List ByteArray) (r2 : Bool) (w : World) (h : spec_l1Labels.f k a0 = some (r1, r2)) :
 Calls Tryz.prog 171 #[.string a0] w fun e w' => ∃ v0_ : Value, e = .returned (.tuple #[v0_, .bool r2]) ∧ Kd.R Kd.string 9 w' w.heap.size (fun _ => True) v0_ r1 ∧ Below w.heap.size w w' := by
 have HB := a0_ (Below.refl w.heap.size w)
 have H := h
 clear h
 unfold spec_l1Labels.f at H
 by_cases c2 : a0.toList = ([] : List UInt8)
 case pos =>
  rw [if_pos c2] at H
  have c2b0 := beq_iff_eq.mpr c2
  have c2b1 := bne_eq_false_iff_eq.mpr c2
  clear c2
  simp only [Option.some.injEq, Prod.mk.injEq] at H
  obtain ⟨rfl, rfl⟩ := H
  go_enter Tryz.func171, Tryz.ntmps171
  go_wp2
  go_ret2
  exact ⟨_, rr_, by first | exact Kd.R_nil _ _ _ _ _ | exact Kd.N_nil _ _ _ _ _ | exact Kd.V_nil _ _ _ _ _ | exact Kd.Q_nil _ _ _ _ _ | exact Kd.S_nil _ _ _ _ _, bq0_⟩
 rw [if_neg c2] at H
 have c2b0 := beq_eq_false_iff_ne.mpr c2
 have c2b1 := bne_iff_ne.mpr c2
 obtain ⟨t115, A30, H⟩ := Option.bind_eq_some_iff.mp H
 have A3 := a0_ A30
 clear A30
 have H' := a0_ H
 clear H
 go_enter Tryz.func171, Tryz.ntmps171
 go_wp2_with (first | ((with_reducible refine gate_callee (f := 116) rfl ?_); refine goesL_ (some 10) rfl rfl Tryz.func116 (by kernel_rfl) rfl #[.string a0, .int .u8 46] rfl argsS_ ?_; (with_reducible refine (spec_l1Split.calls k a0 46 t115 _ A3.out).mono ?_); rintro e w4 ⟨v116, rfl, ho0, hb⟩; refine ⟨_, rfl, ?_⟩; have HO117 := a0_ (Kd.R_lower ho0 (below_size bq0_)); replace HB := a0_ (below_step bq0_ hb); clear hb; (try clear ho0); obtain ⟨Ao5, co5, eo5⟩ := Kd.R_slice HO117.out; subst eo5))
 go_loopg [13] k (fun kq v13 w' => ∃ (x13_1 : Int), v13 = .int .i64 x13_1 ∧ Aside0 (spec_l1Labels.l0 kq a0 t115 t115 (t115.length : Int) x13_1 = some (r1, r2)) ∧ Aside0 (kq ≤ k) ∧ Aside0 (Kd.R Kd.string 9 w' w.heap.size (fun _ => True) (.slice Ao5 t115.length co5) t115) ∧ Aside0 (Kd.R Kd.string 9 w' w.heap.size (fun _ => True) (.slice Ao5 t115.length co5) t115) ∧ Aside0 (Below w.heap.size w w'))
 case atStart => exact ⟨(0), rs_, H', ⟨Nat.le_refl _⟩, ⟨by (with_reducible repeat (first | apply Kd.R_alloc | apply Kd.R_drewN | apply Kd.R_drew)); exact HO117.out⟩, ⟨by (with_reducible repeat (first | apply Kd.R_alloc | apply Kd.R_drewN | apply Kd.R_drew)); exact HO117.out⟩, ⟨bq0_⟩⟩
 case round =>
  clear H'
  try clear c2
  try clear c2b0
  try clear c2b1
  obtain ⟨x13_1, rfl, HA, HK1, HO_4, HO_11, HB⟩ := hrel
  cases gk with
  | zero => exact absurd HA.out (by simp [spec_l1Labels.l0])
  | succ k1 =>
   have H := HA.out
   clear HA
   simp only [spec_l1Labels.l0] at H
   by_cases c6 : x13_1 < (t115.length : Int)
   case neg =>
    rw [if_neg c6] at H
    have c6b0 := decide_eq_false c6
    clear c6
    by_cases c11 : (a0.size : Int) ≤ 60
    case neg =>
     rw [if_neg c11] at H
     have c11b0 := decide_eq_false c11
     have c11b1 : decide (a0.size ≤ 60) = false := decide_eq_false (by omega)
     clear c11
     simp only [Option.some.injEq, Prod.mk.injEq] at H
     obtain ⟨rfl, rfl⟩ := H
     go_wp2
     go_ret2
     exact ⟨_, rr_, by (with_reducible repeat (first | apply Kd.R_alloc | apply Kd.R_drewN | apply Kd.R_drew)); exact HO_4.out, bq0_⟩
    rw [if_pos c11] at H
    have c11b0 := decide_eq_true c11
    have c11b1 : decide (a0.size ≤ 60) = true := decide_eq_true (by omega)
    clear c11
    simp only [Option.some.injEq, Prod.mk.injEq] at H
    obtain ⟨rfl, rfl⟩ := H
    go_wp2
    go_ret2
    exact ⟨_, rr_, by (with_reducible repeat (first | apply Kd.R_alloc | apply Kd.R_drewN | apply Kd.R_drew)); exact HO_4.out, bq0_⟩
   rw [if_pos c6] at H
   have c6b0 := decide_eq_true c6
   clear c6
   by_cases c7 : 0 ≤ x13_1
   case neg =>
    rw [if_neg c7] at H
    exact absurd H (by simp)
   rw [if_pos c7] at H
   have c7b0 := decide_eq_true c7
   clear c7
   by_cases c8 : x13_1 < (t115.length : Int)
   case neg =>
    rw [if_neg c8] at H
    exact absurd H (by simp)
   rw [if_pos c8] at H
   have c8b0 := decide_eq_true c8
   clear c8
   obtain ⟨t119, A90, H⟩ := Option.bind_eq_some_iff.mp H
   have A9 := a0_ A90
   clear A90
   by_cases c10 : t119 = true
   case neg =>
    replace c10 := Bool.eq_false_iff.mpr c10
    subst c10
    rw [if_neg (show ¬ (false = true) by decide)] at H
    simp only [Option.some.injEq, Prod.mk.injEq] at H
    obtain ⟨rfl, rfl⟩ := H
    have p118 : 0 ≤ (x13_1 : Int) := dec_
    have q118 : x13_1 < (t115.length : Int) := dec_
    obtain ⟨ad118, e118, hx118_0⟩ := Kd.at_string (Kd.R_reads' HO_11.out).2.2 x13_1 p118 q118
    cases e118
    replace p118 := eq_true p118
    replace q118 := eq_true q118
    go_wp2_with (first | ((with_reducible refine gate_callee (f := 200) rfl ?_); refine goesL_ (some 18) rfl rfl Tryz.func200 (by kernel_rfl) rfl #[.string (rdOf ByteArray.empty t115 x13_1)] rfl argsS_ ?_; (with_reducible refine (spec_l1Label.calls k1 (rdOf ByteArray.empty t115 x13_1) false _ A9.out).mono ?_); rintro e w' ⟨rfl, ⟨nd, rfl⟩⟩; refine ⟨_, rfl, ?_⟩))
    go_ret2
    exact ⟨_, rr_, by first | exact Kd.R_nil _ _ _ _ _ | exact Kd.N_nil _ _ _ _ _ | exact Kd.V_nil _ _ _ _ _ | exact Kd.Q_nil _ _ _ _ _ | exact Kd.S_nil _ _ _ _ _, bq0_⟩
   subst c10
   rw [if_pos rfl] at H
   have H' := a0_ H
   clear H
   have p118 : 0 ≤ (x13_1 : Int) := dec_
   have q118 : x13_1 < (t115.length : Int) := dec_
   obtain ⟨ad118, e118, hx118_0⟩ := Kd.at_string (Kd.R_reads' HO_11.out).2.2 x13_1 p118 q118
   cases e118
   replace p118 := eq_true p118
   replace q118 := eq_true q118
   go_wp2_with (first | ((with_reducible refine gate_callee (f := 200) rfl ?_); refine goesL_ (some 18) rfl rfl Tryz.func200 (by kernel_rfl) rfl #[.string (rdOf ByteArray.empty t115 x13_1)] rfl argsS_ ?_; (with_reducible refine (spec_l1Label.calls k1 (rdOf ByteArray.empty t115 x13_1) true _ A9.out).mono ?_); rintro e w' ⟨rfl, ⟨nd, rfl⟩⟩; refine ⟨_, rfl, ?_⟩))
   go_roundg k1
   case measure => have := HK1.out; omega
   case rel => exact ⟨(wrap64 (x13_1 + 1)), rs_, H', ⟨by have := HK1.out; omega⟩, ⟨by (with_reducible repeat (first | apply Kd.R_alloc | apply Kd.R_drewN | apply Kd.R_drew)); exact HO_4.out⟩, ⟨by (with_reducible repeat (first | apply Kd.R_alloc | apply Kd.R_drewN | apply Kd.R_drew)); exact HO_11.out⟩, ⟨bq0_⟩⟩
def impl_GoodName_1.f (a0 : ByteArray) : Option (Bool) := (impl_isLabel.f a0).bind fun t1466 => (some (!t1466))
set_option maxHeartbeats 8000000 in
set_option maxRecDepth 100000 in
theorem impl_GoodName_1.calls (a0 : ByteArray) (r : Bool) (w : World) (h : impl_GoodName_1.f a0 = some r) :
 Calls Tryz.prog 146 #[.string a0] w fun e w' => e = .returned (.bool r) ∧ Below w.heap.size w w' := by
 have HB := a0_ (Below.refl w.heap.size w)
 have H := h
 clear h
 unfold impl_GoodName_1.f at H
 obtain ⟨t1466, A20, H⟩ := Option.bind_eq_some_iff.mp H
 have A2 := a0_ A20
 clear A20
 obtain rfl := Option.some.inj H
 go_enter Tryz.func146, Tryz.ntmps146
 go_wp2_with (first | ((with_reducible refine gate_callee (f := 147) rfl ?_); refine goesL_ (some 4) rfl rfl Tryz.func147 (by kernel_rfl) rfl #[.string a0] rfl argsS_ ?_; (with_reducible refine (impl_isLabel.calls a0 t1466 _ A2.out).mono ?_); rintro e w3 ⟨rfl, hb⟩; refine ⟨_, rfl, ?_⟩; replace HB := a0_ (below_step bq0_ hb); clear hb))
 go_ret
 exact ⟨rr_, bq0_⟩
end Go.Proofs.YtiegkjimpclmaaaGreatDoor.P
namespace Go.Proofs.YtiegkjimpclmaaaGreatDoor.Pure
open Go.RowKit Go.Proofs.YtiegkjimpclmaaaGreatDoor.P Go.Proofs.YtiegkjimpclmaaaGreatDoorW.PrintWords Go.Proofs.YtiegkjimpclmaaaGreatDoorW.PrintLast
set_option linter.unusedVariables false
set_option linter.unusedSimpArgs false
theorem mS_w {n : Nat} (h : n < 4611686018427387904) : wrap64 ((n : Int) + 1) = ((n + 1 : Nat) : Int) := by unfold wrap64; omega
theorem mS_rd (l : List ByteArray) (i : Nat) (h : i < l.length) : rdOf ByteArray.empty l (i : Int) = l[i] := by
 unfold rdOf
 rw [Int.toNat_natCast, List.getD_eq_getElem?_getD, List.getElem?_eq_getElem h]
 rfl
theorem eqS_loop (l : List ByteArray) (hl : l.length < 1099511627776) : ∀ (m i : Nat), i + m = l.length → laws_eqStringS.l0 (m + 1) l l (i : Int) = some true
 | 0, i, h => by
  unfold laws_eqStringS.l0
  rw [if_neg (by omega)]
 | m + 1, i, h => by
  unfold laws_eqStringS.l0
  rw [if_pos (by omega), if_pos (by omega), if_pos (by omega), if_pos rfl, mS_w (by omega), eqS_loop l hl m (i + 1) (by omega)]
theorem eqS_ev (l : List ByteArray) (hl : l.length < 1099511627776) : Ev (fun k => laws_eqStringS.f k l l) true := by
 refine Ev.of (fun k => laws_eqStringS.mono _ _ _) (k := l.length + 1) ?_
 unfold laws_eqStringS.f
 rw [if_pos rfl]
 exact eqS_loop l hl l.length 0 (by omega)
theorem markT_loop : ∀ (n : Nat) (x : Int) (acc : ByteArray), x ≤ n → acc.size + n < 1099511627776 → ∃ t, Ev (fun k => laws_markText.l0 k x acc) t
 | n, x, acc, hx, ha => by
  by_cases h : x > 0
  · have hw : wrap64 (Int.tdiv x 10) = x / 10 := by
     rw [Int.tdiv_eq_ediv_of_nonneg (by omega)]
     unfold wrap64
     omega
    have hs : ∀ v : Int, (strOfNums [v]).size = 1 := fun v => by rw [strOfNums_size]; rfl
    match n, hx, ha with
    | 0, hx, ha => omega
    | n + 1, hx, ha =>
     obtain ⟨t, ht⟩ := markT_loop n (x / 10) (strOfNums [(wrap64 (48 + (Int.tmod x 10))) % 256] ++ acc) (by omega) (by rw [ByteArray.size_append, hs]; omega)
     refine ⟨t, Ev.step (fun k => ?_) ht⟩
     show laws_markText.l0 (k + 1) x acc = _
     conv => lhs; unfold laws_markText.l0
     rw [if_pos h, Option.bind_some, if_pos (by rw [hs]; omega), hw]
  · refine ⟨(⟨#[109]⟩ : ByteArray) ++ acc, Ev.step (f := fun _ => some _) (fun k => ?_) (Ev.now _)⟩
    show laws_markText.l0 (k + 1) x acc = _
    unfold laws_markText.l0
    rw [if_neg h, if_pos (by omega)]
theorem markT_some (x : Int) (hx : x < 549755813888) : ∃ t, Ev (fun k => laws_markText.f k x) t := by
 by_cases h : x ≤ 0
 · refine ⟨(⟨#[109, 48]⟩ : ByteArray), Ev.congr (fun k => ?_) (Ev.now _)⟩
   unfold laws_markText.f
   rw [if_pos h]
 · obtain ⟨t, ht⟩ := markT_loop x.toNat x (⟨#[]⟩ : ByteArray) (by omega) (by show 0 + x.toNat < _; omega)
   refine ⟨t, Ev.congr (fun k => ?_) ht⟩
   unfold laws_markText.f
   rw [if_neg h]
noncomputable def markT (x : Int) : ByteArray := if h : x < 549755813888 then (markT_some x h).choose else ⟨#[]⟩
theorem markT_ev (x : Int) (h : x < 549755813888) : Ev (fun k => laws_markText.f k x) (markT x) := by
 unfold markT
 rw [dif_pos h]
 exact (markT_some x h).choose_spec
noncomputable def marks (a n : Nat) : List ByteArray := (List.range n).map fun j => markT ((a + j : Nat) : Int)
theorem marks_len (a n : Nat) : (marks a n).length = n := by simp [marks]
theorem markS_loop (a : Nat) (ha : a < 1000000) : ∀ (m i : Nat) (l : List ByteArray), i + m = l.length → l.length < 274877906944 → l.take i = marks a i →
 Ev (fun k => laws_markStringS.l0 k l ((a + i : Nat) : Int) (i : Int)) (((a + l.length : Nat) : Int), marks a l.length)
 | 0, i, l, h, hl, ht => by
  refine Ev.step (f := fun _ => some _) (fun k => ?_) (Ev.now _)
  show laws_markStringS.l0 (k + 1) l ((a + i : Nat) : Int) (i : Int) = _
  unfold laws_markStringS.l0
  rw [if_neg (by omega), show i = l.length by omega] at *
  rw [List.take_length] at ht
  rw [← ht]
 | m + 1, i, l, h, hl, ht => by
  have ih := markS_loop a ha m (i + 1) (l.set i (markT ((a + i : Nat) : Int))) (by rw [List.length_set]; omega) (by rw [List.length_set]; omega) (by
   rw [List.take_set, List.take_add_one, ht, List.getElem?_eq_getElem (by omega)]
   unfold marks
   rw [List.range_succ, List.map_append]
   simp [List.set_append])
  rw [List.length_set] at ih
  refine Ev.step (f := fun k => (laws_markText.f k ((a + i : Nat) : Int)).bind fun t => laws_markStringS.l0 k (l.set i t) ((a + (i + 1) : Nat) : Int) ((i + 1 : Nat) : Int)) (fun k => ?_) (Ev.bind (markT_ev _ (by omega)) ih)
  show laws_markStringS.l0 (k + 1) l ((a + i : Nat) : Int) (i : Int) = _
  conv => lhs; unfold laws_markStringS.l0
  rw [if_pos (by omega), mS_w (by omega), mS_w (by omega)]
  simp only [if_pos (show 0 ≤ (i : Int) by omega), Int.toNat_natCast]
  rfl
theorem markS_ev (a : Nat) (ha : a < 1000000) (l : List ByteArray) (hl : l.length < 274877906944) : Ev (fun k => laws_markStringS.f k l (a : Int)) (((a + l.length : Nat) : Int), marks a l.length) := by
 have := markS_loop a ha l.length 0 l (by omega) hl (by simp [marks])
 exact this
theorem heldS_loop (a n : Nat) (ha : a < 1000000) (hn : n < 274877906944) : ∀ (m i : Nat), i + m = n →
 Ev (fun k => laws_heldStringS.l0 k (marks a n) ((a + i : Nat) : Int) (i : Int)) ((a + n : Nat) : Int)
 | 0, i, h => by
  refine Ev.step (f := fun _ => some _) (fun k => ?_) (Ev.now _)
  show laws_heldStringS.l0 (k + 1) (marks a n) ((a + i : Nat) : Int) (i : Int) = _
  unfold laws_heldStringS.l0
  rw [marks_len, if_neg (by omega), show i = n by omega]
 | m + 1, i, h => by
  have ih := heldS_loop a n ha hn m (i + 1) (by omega)
  have hg : rdOf ByteArray.empty (marks a n) (i : Int) = markT ((a + i : Nat) : Int) := by
   rw [mS_rd _ _ (by rw [marks_len]; omega)]
   simp [marks]
  refine Ev.step (f := fun k => (laws_markText.f k ((a + i : Nat) : Int)).bind fun t => if (rdOf ByteArray.empty (marks a n) (i : Int)).toList = t.toList then laws_heldStringS.l0 k (marks a n) ((a + (i + 1) : Nat) : Int) ((i + 1 : Nat) : Int) else some (-1)) (fun k => ?_) (Ev.bind (markT_ev _ (by omega)) ?_)
  · show laws_heldStringS.l0 (k + 1) (marks a n) ((a + i : Nat) : Int) (i : Int) = _
    conv => lhs; unfold laws_heldStringS.l0
    rw [marks_len, if_pos (by omega), if_pos (by omega), mS_w (by omega), mS_w (by omega)]
    rfl
  · simp only [hg, if_true]
    exact ih
theorem heldS_ev (a n : Nat) (ha : a < 1000000) (hn : n < 274877906944) : Ev (fun k => laws_heldStringS.f k (marks a n) (a : Int)) ((a + n : Nat) : Int) := by
 have := heldS_loop a n ha hn n 0 (by omega)
 exact this
end Go.Proofs.YtiegkjimpclmaaaGreatDoor.Pure
namespace Go.Proofs.YtiegkjimpclmaaaGreatDoor.P
open Go.RowKit Go.Proofs.YtiegkjimpclmaaaGreatDoorW.PrintWords Go.Proofs.YtiegkjimpclmaaaGreatDoorW.PrintLast Go.Proofs.YtiegkjimpclmaaaGreatDoorW.PrintMore
attribute [local go_sem] max2_int min2_int max_two min_two max_three min_three max_four min_four
set_option linter.unusedVariables false
set_option linter.unusedSimpArgs false
def laws_szSetS.l0 : Nat → List (S82) → Int → Int → Option (Int)
 | 0, _, _, _ => none
 | k + 1, x0, x1, x5 => if x5 < (x0.length : Int) then (if 0 ≤ x5 then ((laws_szSet.f k ((rd_T82 x0 x5).f0) ((rd_T82 x0 x5).f1) ((rd_T82 x0 x5).f2) ((rd_T82 x0 x5).f3) x1).bind fun t290 => (if t290 < 0 then (some (-1)) else (laws_szSetS.l0 k x0 t290 (wrap64 (x5 + 1))))) else (none)) else (some x1)
def laws_szSetS.f (k : Nat) (l0 : List (S82)) (a1 : Int) : Option (Int) := if (wrap64 (a1 - (l0.length : Int))) < 0 then (some (-1)) else (laws_szSetS.l0 k l0 (wrap64 (a1 - (l0.length : Int))) 0)
def laws_toSetS.l0 : Nat → List (S82) → List (S83) → Int → Option ((List (S83)))
 | 0, _, _, _ => none
 | k + 1, x0, x3, x4 => if x4 < (x0.length : Int) then (if 0 ≤ x4 then ((laws_toSet.f k ((rd_T82 x0 x4).f0) ((rd_T82 x0 x4).f1) ((rd_T82 x0 x4).f2) ((rd_T82 x0 x4).f3)).bind fun bt361 => (if x4 < (x3.length : Int) then (laws_toSetS.l0 k x0 (x3.set (x4 : Int).toNat (⟨bt361.1, bt361.2.1, bt361.2.2.1, bt361.2.2.2⟩ : S83)) (wrap64 (x4 + 1))) else (none))) else (none)) else (some x3)
def laws_toSetS.f (k : Nat) (l0 : List (S82)) : Option ((List (S83))) := if 0 ≤ (l0.length : Int) then (if ((l0.length : Int) : Int).toNat ≤ 5026338869833 then (laws_toSetS.l0 k l0 (List.replicate ((l0.length : Int) : Int).toNat z83) 0) else (none)) else (none)
end Go.Proofs.YtiegkjimpclmaaaGreatDoor.P
