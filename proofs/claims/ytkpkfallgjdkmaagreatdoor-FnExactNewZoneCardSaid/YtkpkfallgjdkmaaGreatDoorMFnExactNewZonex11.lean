/- FnExactNewZone: part 12 of 29 of my texts for this claim, joined; the theorem stands in the last. Conditions: none beyond the statement's. -/
import Derived.Test.YtkpkfallgjdkmaaGreatDoorMFnExactNewZonex4
import Derived.Test.YtkpkfallgjdkmaaGreatDoorMFnExactNewZonex7
import Derived.Test.YtkpkfallgjdkmaaGreatDoorMFnExactNewZonex6
import Derived.Test.YtkpkfallgjdkmaaGreatDoorMFnExactNewZonex5
namespace Go.Proofs.YtkpkfallgjdkmaaGreatDoor.P
open Go.RowKit Go.Proofs.YtkpkfallgjdkmaaGreatDoorW.PrintWords Go.Proofs.YtkpkfallgjdkmaaGreatDoorW.PrintLast Go.Proofs.YtkpkfallgjdkmaaGreatDoorW.PrintMore
attribute [local go_sem] max2_int min2_int max_two min_two max_three min_three max_four min_four
set_option linter.unusedVariables false
set_option linter.unusedSimpArgs false
def laws_heldRecordS.l0 : Nat → List (S72) → Int → Int → Option (Int)
 | 0, _, _, _ => none
 | k + 1, x0, x1, x5 => if x5 < (x0.length : Int) then (if 0 ≤ x5 then ((laws_markText.f k x1).bind fun t239 => (if ((rd_T72 x0 x5).f0).toList = t239.toList then (if ((rd_T72 x0 x5).f1) = (wrap64 (x1 + 1)) then (if ((rd_T72 x0 x5).f2) = (wrap64 ((wrap64 (x1 + 1)) + 1)) then ((laws_markText.f k (wrap64 ((wrap64 ((wrap64 (x1 + 1)) + 1)) + 1))).bind fun t243 => (if ((rd_T72 x0 x5).f3).toList = t243.toList then (laws_heldRecordS.l0 k x0 (wrap64 ((wrap64 ((wrap64 ((wrap64 (x1 + 1)) + 1)) + 1)) + 1)) (wrap64 (x5 + 1))) else (some (-1)))) else (some (-1))) else (some (-1))) else (some (-1)))) else (none)) else (some x1)
def laws_heldRecordS.f (k : Nat) (l0 : List (S72)) (a1 : Int) : Option (Int) := laws_heldRecordS.l0 k l0 a1 0
def laws_heldRecordS.T4 : Bool × List (List Nat × List Nat) := (true, [([], []), ([], []), ([0, 1], [0, 1]), ([2], [2]), ([3], [3]), ([], []), ([5], [5]), ([4, 6], [4, 6])])
def laws_heldRecordS.B4 : List Nat := [0, 0, 3, 7, 15, 0, 32, 127]
theorem laws_heldRecordS.tab4 : rtab .any (opsOf Tryz.f42 4) = laws_heldRecordS.T4 := by kernel_rfl
theorem laws_heldRecordS.bits4 : waitsOk laws_heldRecordS.T4.2 laws_heldRecordS.B4 = true := by kernel_rfl
def laws_heldRecordS.T13 : Bool × List (List Nat × List Nat) := (true, [([], []), ([], []), ([0, 1], [0, 1]), ([2], [2]), ([3], [3]), ([], []), ([5], [5]), ([4, 6], [4, 6])])
def laws_heldRecordS.B13 : List Nat := [0, 0, 3, 7, 15, 0, 32, 127]
theorem laws_heldRecordS.tab13 : rtab .any (opsOf Tryz.f42 13) = laws_heldRecordS.T13 := by kernel_rfl
theorem laws_heldRecordS.bits13 : waitsOk laws_heldRecordS.T13.2 laws_heldRecordS.B13 = true := by kernel_rfl
set_option maxHeartbeats 8000000 in
set_option maxRecDepth 100000 in
theorem laws_heldRecordS.calls (k : Nat) (A0 : Option Addr) (c0 : Nat) (l0 : List (S72)) (a1 : Int) (r : Int) (w : World) (hr0 : Kd.C k72 w A0 l0.length l0) (hc0 : l0.length ≤ c0) (h : laws_heldRecordS.f k l0 a1 = some r) :
 Calls Tryz.prog 42 #[.slice A0 l0.length c0, .int .i64 a1] w fun e w' => e = .returned (.int .i64 r) ∧ Below w.heap.size w w' := by
 have HR0 := a0_ hr0
 have HC0 := a0_ hc0
 clear hr0 hc0
 have HB := a0_ (Below.refl w.heap.size w)
 have H : (laws_heldRecordS.l0 k l0 a1 0) = some r := h
 clear h
 have H' := a0_ H
 clear H
 go_enter Tryz.func42, Tryz.ntmps42
 go_wp2
 go_loopg [1, 5] k (fun kq v1 v5 w' => ∃ (x1_1 : Int) (x5_1 : Int), v1 = .int .i64 x1_1 ∧ v5 = .int .i64 x5_1 ∧ Aside0 (laws_heldRecordS.l0 kq l0 x1_1 x5_1 = some r) ∧ Aside0 (kq ≤ k) ∧ Aside0 (Below w.heap.size w w'))
 case atStart => exact ⟨(a1), (0), rs_, rs_, H', ⟨Nat.le_refl _⟩, ⟨bq0_⟩⟩
 case round =>
  clear H'
  try clear p2
  obtain ⟨x1_1, x5_1, rfl, rfl, HA, HK1, HB⟩ := hrel
  cases gk with
  | zero => exact absurd HA.out (by simp [laws_heldRecordS.l0])
  | succ k1 =>
   have H := HA.out
   clear HA
   simp only [laws_heldRecordS.l0] at H
   by_cases c3 : x5_1 < (l0.length : Int)
   case neg =>
    rw [if_neg c3] at H
    have c3b0 := decide_eq_false c3
    clear c3
    obtain rfl := Option.some.inj H
    go_wp2
    go_ret
    exact ⟨rr_, bq0_⟩
   rw [if_pos c3] at H
   have c3b0 := decide_eq_true c3
   clear c3
   by_cases c4 : 0 ≤ x5_1
   case neg =>
    rw [if_neg c4] at H
    exact absurd H (by simp)
   rw [if_pos c4] at H
   have c4b0 := decide_eq_true c4
   clear c4
   obtain ⟨t239, A50, H⟩ := Option.bind_eq_some_iff.mp H
   have A5 := a0_ A50
   clear A50
   by_cases c6 : ((rd_T72 l0 x5_1).f0).toList = t239.toList
   case neg =>
    rw [if_neg c6] at H
    have c6b0 := beq_eq_false_iff_ne.mpr c6
    have c6b1 := bne_iff_ne.mpr c6
    obtain rfl := Option.some.inj H
    try go_wp2
    replace HB := a0_ (below_drew1 HB.out)
    have p238 : 0 ≤ (x5_1 : Int) := dec_
    have q238 : x5_1 < (l0.length : Int) := dec_
    obtain ⟨ad238, e238, hx238_0, hx238_1, hx238_2, hx238_3⟩ := at_T72 HR0.out x5_1 p238 q238
    have hw238_3 := hx238_3
    have hw238_2 := hx238_2
    have hw238_1 := hx238_1
    have hw238_0 := hx238_0
    cases e238
    obtain ⟨hx238_0, hx238_1, hx238_2, hx238_3⟩ := up4_ HB.out hx238_0 hx238_1 hx238_2 hx238_3
    replace p238 := eq_true p238
    replace q238 := eq_true q238
    refine start_ (n := 8) (S := fun w' => w'.cell? (ad238.add ((x5_1).toNat * 4)) = some (.string ((rd_T72 l0 x5_1).f0)) ∧ w'.cell? ⟨(ad238.add ((x5_1).toNat * 4)).block, (ad238.add ((x5_1).toNat * 4)).off + 1, none⟩ = some (.int .i64 ((rd_T72 l0 x5_1).f1)) ∧ w'.cell? ⟨(ad238.add ((x5_1).toNat * 4)).block, (ad238.add ((x5_1).toNat * 4)).off + 2, none⟩ = some (.int .i64 ((rd_T72 l0 x5_1).f2)) ∧ w'.cell? ⟨(ad238.add ((x5_1).toNat * 4)).block, (ad238.add ((x5_1).toNat * 4)).off + 3, none⟩ = some (.string ((rd_T72 l0 x5_1).f3))) (ds := []) #[false, false, false, false, false, false, false, false] (by kernel_rfl) rfl rfl ⟨((HB.out.cell (World.block_lt_of_cell? w _ hw238_0)).trans hw238_0), ((HB.out.cell (World.block_lt_of_cell? w _ hw238_1)).trans hw238_1), ((HB.out.cell (World.block_lt_of_cell? w _ hw238_2)).trans hw238_2), ((HB.out.cell (World.block_lt_of_cell? w _ hw238_3)).trans hw238_3)⟩ (fun hHeld => ?_); refine with_tabW laws_heldRecordS.tab4 laws_heldRecordS.bits4 (fun HT_ HW_ => ?_)
    generalize wr.drew = w23 at HB hx238_0 hx238_1 hx238_2 hx238_3 hHeld ⊢
    refine pureS_ 0 (some 12) ?_
    refine pureS_ 1 (some 13) ?_
    refine pureS_ 2 (some 14) ?_
    refine pureS_ 3 (some 15) ?_
    refine pureS_ 5 (some 17) ?_
    refine takeS_ 4 (some 16) ?_
    refine oneS_ 6 (some 18) (fun K hK => ?_)
    refine goes_ Tryz.func54 (by kernel_rfl) rfl #[.int .i64 x1_1] (by rfl) rfl rfl argsS_ ?_
    with_reducible refine (laws_markText.calls k1 x1_1 t239 _ A5.out).mono ?_
    rintro e w24 ⟨rfl, hb⟩
    refine ⟨_, rfl, ?_⟩
    replace HB := a0_ (below_step bq0_ hb)
    (try clear hb)
    (try clear hb2)
    (try clear hk)
    (try clear hi)
    refine hK.out _ _ ⟨((HB.out.cell (World.block_lt_of_cell? w _ hw238_0)).trans hw238_0), ((HB.out.cell (World.block_lt_of_cell? w _ hw238_1)).trans hw238_1), ((HB.out.cell (World.block_lt_of_cell? w _ hw238_2)).trans hw238_2), ((HB.out.cell (World.block_lt_of_cell? w _ hw238_3)).trans hw238_3)⟩ (fun hHeld => ?_)
    clear hK K
    refine normS_ ?_
    refine pureS_ 7 (some 19) ?_
    refine done_ (done_of HT_.out (by kernel_rfl)) ?_
    try go_wp2
    go_ret
    exact ⟨rr_, bq0_⟩
   rw [if_pos c6] at H
   have c6b0 := beq_iff_eq.mpr c6
   have c6b1 := bne_eq_false_iff_eq.mpr c6
   clear c6
   by_cases c7 : ((rd_T72 l0 x5_1).f1) = (wrap64 (x1_1 + 1))
   case neg =>
    rw [if_neg c7] at H
    have c7b0 := beq_eq_false_iff_ne.mpr c7
    have c7b1 := bne_iff_ne.mpr c7
    obtain rfl := Option.some.inj H
    try go_wp2
    replace HB := a0_ (below_drew1 HB.out)
    have p238 : 0 ≤ (x5_1 : Int) := dec_
    have q238 : x5_1 < (l0.length : Int) := dec_
    obtain ⟨ad238, e238, hx238_0, hx238_1, hx238_2, hx238_3⟩ := at_T72 HR0.out x5_1 p238 q238
    have hw238_3 := hx238_3
    have hw238_2 := hx238_2
    have hw238_1 := hx238_1
    have hw238_0 := hx238_0
    cases e238
    obtain ⟨hx238_0, hx238_1, hx238_2, hx238_3⟩ := up4_ HB.out hx238_0 hx238_1 hx238_2 hx238_3
    replace p238 := eq_true p238
    replace q238 := eq_true q238
    refine start_ (n := 8) (S := fun w' => w'.cell? (ad238.add ((x5_1).toNat * 4)) = some (.string ((rd_T72 l0 x5_1).f0)) ∧ w'.cell? ⟨(ad238.add ((x5_1).toNat * 4)).block, (ad238.add ((x5_1).toNat * 4)).off + 1, none⟩ = some (.int .i64 ((rd_T72 l0 x5_1).f1)) ∧ w'.cell? ⟨(ad238.add ((x5_1).toNat * 4)).block, (ad238.add ((x5_1).toNat * 4)).off + 2, none⟩ = some (.int .i64 ((rd_T72 l0 x5_1).f2)) ∧ w'.cell? ⟨(ad238.add ((x5_1).toNat * 4)).block, (ad238.add ((x5_1).toNat * 4)).off + 3, none⟩ = some (.string ((rd_T72 l0 x5_1).f3))) (ds := []) #[false, false, false, false, false, false, false, false] (by kernel_rfl) rfl rfl ⟨((HB.out.cell (World.block_lt_of_cell? w _ hw238_0)).trans hw238_0), ((HB.out.cell (World.block_lt_of_cell? w _ hw238_1)).trans hw238_1), ((HB.out.cell (World.block_lt_of_cell? w _ hw238_2)).trans hw238_2), ((HB.out.cell (World.block_lt_of_cell? w _ hw238_3)).trans hw238_3)⟩ (fun hHeld => ?_); refine with_tabW laws_heldRecordS.tab4 laws_heldRecordS.bits4 (fun HT_ HW_ => ?_)
    generalize wr.drew = w21 at HB hx238_0 hx238_1 hx238_2 hx238_3 hHeld ⊢
    refine pureS_ 0 (some 12) ?_
    refine pureS_ 1 (some 13) ?_
    refine pureS_ 2 (some 14) ?_
    refine pureS_ 3 (some 15) ?_
    refine pureS_ 5 (some 17) ?_
    refine takeS_ 4 (some 16) ?_
    refine oneS_ 6 (some 18) (fun K hK => ?_)
    refine goes_ Tryz.func54 (by kernel_rfl) rfl #[.int .i64 x1_1] (by rfl) rfl rfl argsS_ ?_
    with_reducible refine (laws_markText.calls k1 x1_1 t239 _ A5.out).mono ?_
    rintro e w22 ⟨rfl, hb⟩
    refine ⟨_, rfl, ?_⟩
    replace HB := a0_ (below_step bq0_ hb)
    (try clear hb)
    (try clear hb2)
    (try clear hk)
    (try clear hi)
    refine hK.out _ _ ⟨((HB.out.cell (World.block_lt_of_cell? w _ hw238_0)).trans hw238_0), ((HB.out.cell (World.block_lt_of_cell? w _ hw238_1)).trans hw238_1), ((HB.out.cell (World.block_lt_of_cell? w _ hw238_2)).trans hw238_2), ((HB.out.cell (World.block_lt_of_cell? w _ hw238_3)).trans hw238_3)⟩ (fun hHeld => ?_)
    clear hK K
    refine normS_ ?_
    refine pureS_ 7 (some 19) ?_
    refine done_ (done_of HT_.out (by kernel_rfl)) ?_
    have p240 : 0 ≤ (x5_1 : Int) := dec_
    have q240 : x5_1 < (l0.length : Int) := dec_
    obtain ⟨ad240, e240, hx240_0, hx240_1, hx240_2, hx240_3⟩ := at_T72 HR0.out x5_1 p240 q240
    obtain rfl : ad238 = ad240 := (by injection e240)
    obtain ⟨hx240_0, hx240_1, hx240_2, hx240_3⟩ := up4_ HB.out hx240_0 hx240_1 hx240_2 hx240_3
    replace p240 := eq_true p240
    replace q240 := eq_true q240
    try go_wp2
    go_ret
    exact ⟨rr_, bq0_⟩
   rw [if_pos c7] at H
   have c7b0 := beq_iff_eq.mpr c7
   have c7b1 := bne_eq_false_iff_eq.mpr c7
   clear c7
   by_cases c8 : ((rd_T72 l0 x5_1).f2) = (wrap64 ((wrap64 (x1_1 + 1)) + 1))
   case neg =>
    rw [if_neg c8] at H
    have c8b0 := beq_eq_false_iff_ne.mpr c8
    have c8b1 := bne_iff_ne.mpr c8
    obtain rfl := Option.some.inj H
    try go_wp2
    replace HB := a0_ (below_drew1 HB.out)
    have p238 : 0 ≤ (x5_1 : Int) := dec_
    have q238 : x5_1 < (l0.length : Int) := dec_
    obtain ⟨ad238, e238, hx238_0, hx238_1, hx238_2, hx238_3⟩ := at_T72 HR0.out x5_1 p238 q238
    have hw238_3 := hx238_3
    have hw238_2 := hx238_2
    have hw238_1 := hx238_1
    have hw238_0 := hx238_0
    cases e238
    obtain ⟨hx238_0, hx238_1, hx238_2, hx238_3⟩ := up4_ HB.out hx238_0 hx238_1 hx238_2 hx238_3
    replace p238 := eq_true p238
    replace q238 := eq_true q238
    refine start_ (n := 8) (S := fun w' => w'.cell? (ad238.add ((x5_1).toNat * 4)) = some (.string ((rd_T72 l0 x5_1).f0)) ∧ w'.cell? ⟨(ad238.add ((x5_1).toNat * 4)).block, (ad238.add ((x5_1).toNat * 4)).off + 1, none⟩ = some (.int .i64 ((rd_T72 l0 x5_1).f1)) ∧ w'.cell? ⟨(ad238.add ((x5_1).toNat * 4)).block, (ad238.add ((x5_1).toNat * 4)).off + 2, none⟩ = some (.int .i64 ((rd_T72 l0 x5_1).f2)) ∧ w'.cell? ⟨(ad238.add ((x5_1).toNat * 4)).block, (ad238.add ((x5_1).toNat * 4)).off + 3, none⟩ = some (.string ((rd_T72 l0 x5_1).f3))) (ds := []) #[false, false, false, false, false, false, false, false] (by kernel_rfl) rfl rfl ⟨((HB.out.cell (World.block_lt_of_cell? w _ hw238_0)).trans hw238_0), ((HB.out.cell (World.block_lt_of_cell? w _ hw238_1)).trans hw238_1), ((HB.out.cell (World.block_lt_of_cell? w _ hw238_2)).trans hw238_2), ((HB.out.cell (World.block_lt_of_cell? w _ hw238_3)).trans hw238_3)⟩ (fun hHeld => ?_); refine with_tabW laws_heldRecordS.tab4 laws_heldRecordS.bits4 (fun HT_ HW_ => ?_)
    generalize wr.drew = w19 at HB hx238_0 hx238_1 hx238_2 hx238_3 hHeld ⊢
    refine pureS_ 0 (some 12) ?_
    refine pureS_ 1 (some 13) ?_
    refine pureS_ 2 (some 14) ?_
    refine pureS_ 3 (some 15) ?_
    refine pureS_ 5 (some 17) ?_
    refine takeS_ 4 (some 16) ?_
    refine oneS_ 6 (some 18) (fun K hK => ?_)
    refine goes_ Tryz.func54 (by kernel_rfl) rfl #[.int .i64 x1_1] (by rfl) rfl rfl argsS_ ?_
    with_reducible refine (laws_markText.calls k1 x1_1 t239 _ A5.out).mono ?_
    rintro e w20 ⟨rfl, hb⟩
    refine ⟨_, rfl, ?_⟩
    replace HB := a0_ (below_step bq0_ hb)
    (try clear hb)
    (try clear hb2)
    (try clear hk)
    (try clear hi)
    refine hK.out _ _ ⟨((HB.out.cell (World.block_lt_of_cell? w _ hw238_0)).trans hw238_0), ((HB.out.cell (World.block_lt_of_cell? w _ hw238_1)).trans hw238_1), ((HB.out.cell (World.block_lt_of_cell? w _ hw238_2)).trans hw238_2), ((HB.out.cell (World.block_lt_of_cell? w _ hw238_3)).trans hw238_3)⟩ (fun hHeld => ?_)
    clear hK K
    refine normS_ ?_
    refine pureS_ 7 (some 19) ?_
    refine done_ (done_of HT_.out (by kernel_rfl)) ?_
    have p240 : 0 ≤ (x5_1 : Int) := dec_
    have q240 : x5_1 < (l0.length : Int) := dec_
    obtain ⟨ad240, e240, hx240_0, hx240_1, hx240_2, hx240_3⟩ := at_T72 HR0.out x5_1 p240 q240
    obtain rfl : ad238 = ad240 := (by injection e240)
    obtain ⟨hx240_0, hx240_1, hx240_2, hx240_3⟩ := up4_ HB.out hx240_0 hx240_1 hx240_2 hx240_3
    replace p240 := eq_true p240
    replace q240 := eq_true q240
    have p241 : 0 ≤ (x5_1 : Int) := dec_
    have q241 : x5_1 < (l0.length : Int) := dec_
    obtain ⟨ad241, e241, hx241_0, hx241_1, hx241_2, hx241_3⟩ := at_T72 HR0.out x5_1 p241 q241
    obtain rfl : ad238 = ad241 := (by injection e241)
    obtain ⟨hx241_0, hx241_1, hx241_2, hx241_3⟩ := up4_ HB.out hx241_0 hx241_1 hx241_2 hx241_3
    replace p241 := eq_true p241
    replace q241 := eq_true q241
    try go_wp2
    go_ret
    exact ⟨rr_, bq0_⟩
   rw [if_pos c8] at H
   have c8b0 := beq_iff_eq.mpr c8
   have c8b1 := bne_eq_false_iff_eq.mpr c8
   clear c8
   obtain ⟨t243, A90, H⟩ := Option.bind_eq_some_iff.mp H
   have A9 := a0_ A90
   clear A90
   by_cases c10 : ((rd_T72 l0 x5_1).f3).toList = t243.toList
   case neg =>
    rw [if_neg c10] at H
    have c10b0 := beq_eq_false_iff_ne.mpr c10
    have c10b1 := bne_iff_ne.mpr c10
    obtain rfl := Option.some.inj H
    try go_wp2
    replace HB := a0_ (below_drew1 HB.out)
    have p238 : 0 ≤ (x5_1 : Int) := dec_
    have q238 : x5_1 < (l0.length : Int) := dec_
    obtain ⟨ad238, e238, hx238_0, hx238_1, hx238_2, hx238_3⟩ := at_T72 HR0.out x5_1 p238 q238
    have hw238_3 := hx238_3
    have hw238_2 := hx238_2
    have hw238_1 := hx238_1
    have hw238_0 := hx238_0
    cases e238
    obtain ⟨hx238_0, hx238_1, hx238_2, hx238_3⟩ := up4_ HB.out hx238_0 hx238_1 hx238_2 hx238_3
    replace p238 := eq_true p238
    replace q238 := eq_true q238
    refine start_ (n := 8) (S := fun w' => w'.cell? (ad238.add ((x5_1).toNat * 4)) = some (.string ((rd_T72 l0 x5_1).f0)) ∧ w'.cell? ⟨(ad238.add ((x5_1).toNat * 4)).block, (ad238.add ((x5_1).toNat * 4)).off + 1, none⟩ = some (.int .i64 ((rd_T72 l0 x5_1).f1)) ∧ w'.cell? ⟨(ad238.add ((x5_1).toNat * 4)).block, (ad238.add ((x5_1).toNat * 4)).off + 2, none⟩ = some (.int .i64 ((rd_T72 l0 x5_1).f2)) ∧ w'.cell? ⟨(ad238.add ((x5_1).toNat * 4)).block, (ad238.add ((x5_1).toNat * 4)).off + 3, none⟩ = some (.string ((rd_T72 l0 x5_1).f3))) (ds := []) #[false, false, false, false, false, false, false, false] (by kernel_rfl) rfl rfl ⟨((HB.out.cell (World.block_lt_of_cell? w _ hw238_0)).trans hw238_0), ((HB.out.cell (World.block_lt_of_cell? w _ hw238_1)).trans hw238_1), ((HB.out.cell (World.block_lt_of_cell? w _ hw238_2)).trans hw238_2), ((HB.out.cell (World.block_lt_of_cell? w _ hw238_3)).trans hw238_3)⟩ (fun hHeld => ?_); refine with_tabW laws_heldRecordS.tab4 laws_heldRecordS.bits4 (fun HT_ HW_ => ?_)
    generalize wr.drew = w15 at HB hx238_0 hx238_1 hx238_2 hx238_3 hHeld ⊢
    refine pureS_ 0 (some 12) ?_
    refine pureS_ 1 (some 13) ?_
    refine pureS_ 2 (some 14) ?_
    refine pureS_ 3 (some 15) ?_
    refine pureS_ 5 (some 17) ?_
    refine takeS_ 4 (some 16) ?_
    refine oneS_ 6 (some 18) (fun K hK => ?_)
    refine goes_ Tryz.func54 (by kernel_rfl) rfl #[.int .i64 x1_1] (by rfl) rfl rfl argsS_ ?_
    with_reducible refine (laws_markText.calls k1 x1_1 t239 _ A5.out).mono ?_
    rintro e w16 ⟨rfl, hb⟩
    refine ⟨_, rfl, ?_⟩
    replace HB := a0_ (below_step bq0_ hb)
    (try clear hb)
    (try clear hb2)
    (try clear hk)
    (try clear hi)
    refine hK.out _ _ ⟨((HB.out.cell (World.block_lt_of_cell? w _ hw238_0)).trans hw238_0), ((HB.out.cell (World.block_lt_of_cell? w _ hw238_1)).trans hw238_1), ((HB.out.cell (World.block_lt_of_cell? w _ hw238_2)).trans hw238_2), ((HB.out.cell (World.block_lt_of_cell? w _ hw238_3)).trans hw238_3)⟩ (fun hHeld => ?_)
    clear hK K
    refine normS_ ?_
    refine pureS_ 7 (some 19) ?_
    refine done_ (done_of HT_.out (by kernel_rfl)) ?_
    have p240 : 0 ≤ (x5_1 : Int) := dec_
    have q240 : x5_1 < (l0.length : Int) := dec_
    obtain ⟨ad240, e240, hx240_0, hx240_1, hx240_2, hx240_3⟩ := at_T72 HR0.out x5_1 p240 q240
    obtain rfl : ad238 = ad240 := (by injection e240)
    obtain ⟨hx240_0, hx240_1, hx240_2, hx240_3⟩ := up4_ HB.out hx240_0 hx240_1 hx240_2 hx240_3
    replace p240 := eq_true p240
    replace q240 := eq_true q240
    have p241 : 0 ≤ (x5_1 : Int) := dec_
    have q241 : x5_1 < (l0.length : Int) := dec_
    obtain ⟨ad241, e241, hx241_0, hx241_1, hx241_2, hx241_3⟩ := at_T72 HR0.out x5_1 p241 q241
    obtain rfl : ad238 = ad241 := (by injection e241)
    obtain ⟨hx241_0, hx241_1, hx241_2, hx241_3⟩ := up4_ HB.out hx241_0 hx241_1 hx241_2 hx241_3
    replace p241 := eq_true p241
    replace q241 := eq_true q241
    try go_wp2
    replace HB := a0_ (below_drew1 HB.out)
    have p242 : 0 ≤ (x5_1 : Int) := dec_
    have q242 : x5_1 < (l0.length : Int) := dec_
    obtain ⟨ad242, e242, hx242_0, hx242_1, hx242_2, hx242_3⟩ := at_T72 HR0.out x5_1 p242 q242
    have hw242_3 := hx242_3
    have hw242_2 := hx242_2
    have hw242_1 := hx242_1
    have hw242_0 := hx242_0
    obtain rfl : ad238 = ad242 := (by injection e242)
    obtain ⟨hx242_0, hx242_1, hx242_2, hx242_3⟩ := up4_ HB.out hx242_0 hx242_1 hx242_2 hx242_3
    replace p242 := eq_true p242
    replace q242 := eq_true q242
    refine start_ (n := 8) (S := fun w' => w'.cell? (ad238.add ((x5_1).toNat * 4)) = some (.string ((rd_T72 l0 x5_1).f0)) ∧ w'.cell? ⟨(ad238.add ((x5_1).toNat * 4)).block, (ad238.add ((x5_1).toNat * 4)).off + 1, none⟩ = some (.int .i64 ((rd_T72 l0 x5_1).f1)) ∧ w'.cell? ⟨(ad238.add ((x5_1).toNat * 4)).block, (ad238.add ((x5_1).toNat * 4)).off + 2, none⟩ = some (.int .i64 ((rd_T72 l0 x5_1).f2)) ∧ w'.cell? ⟨(ad238.add ((x5_1).toNat * 4)).block, (ad238.add ((x5_1).toNat * 4)).off + 3, none⟩ = some (.string ((rd_T72 l0 x5_1).f3))) (ds := []) #[false, false, false, false, false, false, false, false] (by kernel_rfl) rfl rfl ⟨((HB.out.cell (World.block_lt_of_cell? w _ hw242_0)).trans hw242_0), ((HB.out.cell (World.block_lt_of_cell? w _ hw242_1)).trans hw242_1), ((HB.out.cell (World.block_lt_of_cell? w _ hw242_2)).trans hw242_2), ((HB.out.cell (World.block_lt_of_cell? w _ hw242_3)).trans hw242_3)⟩ (fun hHeld => ?_); refine with_tabW laws_heldRecordS.tab13 laws_heldRecordS.bits13 (fun HT_ HW_ => ?_)
    generalize w16.drew = w17 at HB hx242_0 hx242_1 hx242_2 hx242_3 hHeld ⊢
    refine pureS_ 0 (some 40) ?_
    refine pureS_ 1 (some 41) ?_
    refine pureS_ 2 (some 42) ?_
    refine pureS_ 3 (some 43) ?_
    refine pureS_ 5 (some 45) ?_
    refine takeS_ 4 (some 44) ?_
    refine oneS_ 6 (some 46) (fun K hK => ?_)
    refine goes_ Tryz.func54 (by kernel_rfl) rfl #[.int .i64 (wrap64 ((wrap64 ((wrap64 (x1_1 + 1)) + 1)) + 1))] (by rfl) rfl rfl argsS_ ?_
    with_reducible refine (laws_markText.calls k1 (wrap64 ((wrap64 ((wrap64 (x1_1 + 1)) + 1)) + 1)) t243 _ A9.out).mono ?_
    rintro e w18 ⟨rfl, hb⟩
    refine ⟨_, rfl, ?_⟩
    replace HB := a0_ (below_step bq0_ hb)
    (try clear hb)
    (try clear hb2)
    (try clear hk)
    (try clear hi)
    refine hK.out _ _ ⟨((HB.out.cell (World.block_lt_of_cell? w _ hw242_0)).trans hw242_0), ((HB.out.cell (World.block_lt_of_cell? w _ hw242_1)).trans hw242_1), ((HB.out.cell (World.block_lt_of_cell? w _ hw242_2)).trans hw242_2), ((HB.out.cell (World.block_lt_of_cell? w _ hw242_3)).trans hw242_3)⟩ (fun hHeld => ?_)
    clear hK K
    refine normS_ ?_
    refine pureS_ 7 (some 47) ?_
    refine done_ (done_of HT_.out (by kernel_rfl)) ?_
    try go_wp2
    go_ret
    exact ⟨rr_, bq0_⟩
   rw [if_pos c10] at H
   have c10b0 := beq_iff_eq.mpr c10
   have c10b1 := bne_eq_false_iff_eq.mpr c10
   clear c10
   have H' := a0_ H
   clear H
   try go_wp2
   replace HB := a0_ (below_drew1 HB.out)
   have p238 : 0 ≤ (x5_1 : Int) := dec_
   have q238 : x5_1 < (l0.length : Int) := dec_
   obtain ⟨ad238, e238, hx238_0, hx238_1, hx238_2, hx238_3⟩ := at_T72 HR0.out x5_1 p238 q238
   have hw238_3 := hx238_3
   have hw238_2 := hx238_2
   have hw238_1 := hx238_1
   have hw238_0 := hx238_0
   cases e238
   obtain ⟨hx238_0, hx238_1, hx238_2, hx238_3⟩ := up4_ HB.out hx238_0 hx238_1 hx238_2 hx238_3
   replace p238 := eq_true p238
   replace q238 := eq_true q238
   refine start_ (n := 8) (S := fun w' => w'.cell? (ad238.add ((x5_1).toNat * 4)) = some (.string ((rd_T72 l0 x5_1).f0)) ∧ w'.cell? ⟨(ad238.add ((x5_1).toNat * 4)).block, (ad238.add ((x5_1).toNat * 4)).off + 1, none⟩ = some (.int .i64 ((rd_T72 l0 x5_1).f1)) ∧ w'.cell? ⟨(ad238.add ((x5_1).toNat * 4)).block, (ad238.add ((x5_1).toNat * 4)).off + 2, none⟩ = some (.int .i64 ((rd_T72 l0 x5_1).f2)) ∧ w'.cell? ⟨(ad238.add ((x5_1).toNat * 4)).block, (ad238.add ((x5_1).toNat * 4)).off + 3, none⟩ = some (.string ((rd_T72 l0 x5_1).f3))) (ds := []) #[false, false, false, false, false, false, false, false] (by kernel_rfl) rfl rfl ⟨((HB.out.cell (World.block_lt_of_cell? w _ hw238_0)).trans hw238_0), ((HB.out.cell (World.block_lt_of_cell? w _ hw238_1)).trans hw238_1), ((HB.out.cell (World.block_lt_of_cell? w _ hw238_2)).trans hw238_2), ((HB.out.cell (World.block_lt_of_cell? w _ hw238_3)).trans hw238_3)⟩ (fun hHeld => ?_); refine with_tabW laws_heldRecordS.tab4 laws_heldRecordS.bits4 (fun HT_ HW_ => ?_)
   generalize wr.drew = w11 at HB hx238_0 hx238_1 hx238_2 hx238_3 hHeld ⊢
   refine pureS_ 0 (some 12) ?_
   refine pureS_ 1 (some 13) ?_
   refine pureS_ 2 (some 14) ?_
   refine pureS_ 3 (some 15) ?_
   refine pureS_ 5 (some 17) ?_
   refine takeS_ 4 (some 16) ?_
   refine oneS_ 6 (some 18) (fun K hK => ?_)
   refine goes_ Tryz.func54 (by kernel_rfl) rfl #[.int .i64 x1_1] (by rfl) rfl rfl argsS_ ?_
   with_reducible refine (laws_markText.calls k1 x1_1 t239 _ A5.out).mono ?_
   rintro e w12 ⟨rfl, hb⟩
   refine ⟨_, rfl, ?_⟩
   replace HB := a0_ (below_step bq0_ hb)
   (try clear hb)
   (try clear hb2)
   (try clear hk)
   (try clear hi)
   refine hK.out _ _ ⟨((HB.out.cell (World.block_lt_of_cell? w _ hw238_0)).trans hw238_0), ((HB.out.cell (World.block_lt_of_cell? w _ hw238_1)).trans hw238_1), ((HB.out.cell (World.block_lt_of_cell? w _ hw238_2)).trans hw238_2), ((HB.out.cell (World.block_lt_of_cell? w _ hw238_3)).trans hw238_3)⟩ (fun hHeld => ?_)
   clear hK K
   refine normS_ ?_
   refine pureS_ 7 (some 19) ?_
   refine done_ (done_of HT_.out (by kernel_rfl)) ?_
   have p240 : 0 ≤ (x5_1 : Int) := dec_
   have q240 : x5_1 < (l0.length : Int) := dec_
   obtain ⟨ad240, e240, hx240_0, hx240_1, hx240_2, hx240_3⟩ := at_T72 HR0.out x5_1 p240 q240
   obtain rfl : ad238 = ad240 := (by injection e240)
   obtain ⟨hx240_0, hx240_1, hx240_2, hx240_3⟩ := up4_ HB.out hx240_0 hx240_1 hx240_2 hx240_3
   replace p240 := eq_true p240
   replace q240 := eq_true q240
   have p241 : 0 ≤ (x5_1 : Int) := dec_
   have q241 : x5_1 < (l0.length : Int) := dec_
   obtain ⟨ad241, e241, hx241_0, hx241_1, hx241_2, hx241_3⟩ := at_T72 HR0.out x5_1 p241 q241
   obtain rfl : ad238 = ad241 := (by injection e241)
   obtain ⟨hx241_0, hx241_1, hx241_2, hx241_3⟩ := up4_ HB.out hx241_0 hx241_1 hx241_2 hx241_3
   replace p241 := eq_true p241
   replace q241 := eq_true q241
   try go_wp2
   replace HB := a0_ (below_drew1 HB.out)
   have p242 : 0 ≤ (x5_1 : Int) := dec_
   have q242 : x5_1 < (l0.length : Int) := dec_
   obtain ⟨ad242, e242, hx242_0, hx242_1, hx242_2, hx242_3⟩ := at_T72 HR0.out x5_1 p242 q242
   have hw242_3 := hx242_3
   have hw242_2 := hx242_2
   have hw242_1 := hx242_1
   have hw242_0 := hx242_0
   obtain rfl : ad238 = ad242 := (by injection e242)
   obtain ⟨hx242_0, hx242_1, hx242_2, hx242_3⟩ := up4_ HB.out hx242_0 hx242_1 hx242_2 hx242_3
   replace p242 := eq_true p242
   replace q242 := eq_true q242
   refine start_ (n := 8) (S := fun w' => w'.cell? (ad238.add ((x5_1).toNat * 4)) = some (.string ((rd_T72 l0 x5_1).f0)) ∧ w'.cell? ⟨(ad238.add ((x5_1).toNat * 4)).block, (ad238.add ((x5_1).toNat * 4)).off + 1, none⟩ = some (.int .i64 ((rd_T72 l0 x5_1).f1)) ∧ w'.cell? ⟨(ad238.add ((x5_1).toNat * 4)).block, (ad238.add ((x5_1).toNat * 4)).off + 2, none⟩ = some (.int .i64 ((rd_T72 l0 x5_1).f2)) ∧ w'.cell? ⟨(ad238.add ((x5_1).toNat * 4)).block, (ad238.add ((x5_1).toNat * 4)).off + 3, none⟩ = some (.string ((rd_T72 l0 x5_1).f3))) (ds := []) #[false, false, false, false, false, false, false, false] (by kernel_rfl) rfl rfl ⟨((HB.out.cell (World.block_lt_of_cell? w _ hw242_0)).trans hw242_0), ((HB.out.cell (World.block_lt_of_cell? w _ hw242_1)).trans hw242_1), ((HB.out.cell (World.block_lt_of_cell? w _ hw242_2)).trans hw242_2), ((HB.out.cell (World.block_lt_of_cell? w _ hw242_3)).trans hw242_3)⟩ (fun hHeld => ?_); refine with_tabW laws_heldRecordS.tab13 laws_heldRecordS.bits13 (fun HT_ HW_ => ?_)
   generalize w12.drew = w13 at HB hx242_0 hx242_1 hx242_2 hx242_3 hHeld ⊢
   refine pureS_ 0 (some 40) ?_
   refine pureS_ 1 (some 41) ?_
   refine pureS_ 2 (some 42) ?_
   refine pureS_ 3 (some 43) ?_
   refine pureS_ 5 (some 45) ?_
   refine takeS_ 4 (some 44) ?_
   refine oneS_ 6 (some 46) (fun K hK => ?_)
   refine goes_ Tryz.func54 (by kernel_rfl) rfl #[.int .i64 (wrap64 ((wrap64 ((wrap64 (x1_1 + 1)) + 1)) + 1))] (by rfl) rfl rfl argsS_ ?_
   with_reducible refine (laws_markText.calls k1 (wrap64 ((wrap64 ((wrap64 (x1_1 + 1)) + 1)) + 1)) t243 _ A9.out).mono ?_
   rintro e w14 ⟨rfl, hb⟩
   refine ⟨_, rfl, ?_⟩
   replace HB := a0_ (below_step bq0_ hb)
   (try clear hb)
   (try clear hb2)
   (try clear hk)
   (try clear hi)
   refine hK.out _ _ ⟨((HB.out.cell (World.block_lt_of_cell? w _ hw242_0)).trans hw242_0), ((HB.out.cell (World.block_lt_of_cell? w _ hw242_1)).trans hw242_1), ((HB.out.cell (World.block_lt_of_cell? w _ hw242_2)).trans hw242_2), ((HB.out.cell (World.block_lt_of_cell? w _ hw242_3)).trans hw242_3)⟩ (fun hHeld => ?_)
   clear hK K
   refine normS_ ?_
   refine pureS_ 7 (some 47) ?_
   refine done_ (done_of HT_.out (by kernel_rfl)) ?_
   try go_wp2
   go_roundg k1
   case measure => have := HK1.out; omega
   case rel => exact ⟨(wrap64 ((wrap64 ((wrap64 ((wrap64 (x1_1 + 1)) + 1)) + 1)) + 1)), (wrap64 (x5_1 + 1)), rs_, rs_, H', ⟨by have := HK1.out; omega⟩, ⟨bq0_⟩⟩
def laws_szRecordS.l0 : Nat → List (S71) → Int → Int → Option (Int)
 | 0, _, _, _ => none
 | k + 1, x0, x1, x5 => if x5 < (x0.length : Int) then (if 0 ≤ x5 then ((laws_szRecord.f ((rd_T71 x0 x5).f0) ((rd_T71 x0 x5).f1) ((rd_T71 x0 x5).f2) ((rd_T71 x0 x5).f3) x1).bind fun t298 => (if t298 < 0 then (some (-1)) else (laws_szRecordS.l0 k x0 t298 (wrap64 (x5 + 1))))) else (none)) else (some x1)
def laws_szRecordS.f (k : Nat) (l0 : List (S71)) (a1 : Int) : Option (Int) := if (wrap64 (a1 - (l0.length : Int))) < 0 then (some (-1)) else (laws_szRecordS.l0 k l0 (wrap64 (a1 - (l0.length : Int))) 0)
def laws_toRecordS.l0 : Nat → List (S71) → List (S72) → Int → Option ((List (S72)))
 | 0, _, _, _ => none
 | k + 1, x0, x3, x4 => if x4 < (x0.length : Int) then (if 0 ≤ x4 then ((laws_toRecord.f ((rd_T71 x0 x4).f0) ((rd_T71 x0 x4).f1) ((rd_T71 x0 x4).f2) ((rd_T71 x0 x4).f3)).bind fun bt325 => (if x4 < (x3.length : Int) then (laws_toRecordS.l0 k x0 (x3.set (x4 : Int).toNat (⟨bt325.1, bt325.2.1, bt325.2.2.1, bt325.2.2.2⟩ : S72)) (wrap64 (x4 + 1))) else (none))) else (none)) else (some x3)
def laws_toRecordS.f (k : Nat) (l0 : List (S71)) : Option ((List (S72))) := if 0 ≤ (l0.length : Int) then (if ((l0.length : Int) : Int).toNat ≤ 5864062014805 then (laws_toRecordS.l0 k l0 (List.replicate ((l0.length : Int) : Int).toNat z72) 0) else (none)) else (none)
mutual
def spec_l6Cut.l0 : Nat → ByteArray → List (S72) → ByteArray → ByteArray → Bool → Option (ByteArray × Bool)
 | 0, _, _, _, _, _ => none
 | k + 1, x0, x1, x2, x8, x9 => if x2.toList = x0.toList then (spec_l6Cut.j1 k x0 x1 x2 x8 x9 false) else ((spec_l1Below.f x2 x0).bind fun t692 => (spec_l6Cut.j1 k x0 x1 x2 x8 x9 t692))
def spec_l6Cut.j1 : Nat → ByteArray → List (S72) → ByteArray → ByteArray → Bool → Bool → Option (ByteArray × Bool)
 | 0, _, _, _, _, _, _ => none
 | k + 1, x0, x1, x2, x8, x9, x17 => if x17 = true then ((spec_l6Has.f k x1 x2 2).bind fun t693 => (if t693 = true then (if x2.toList = ([] : List UInt8) then (some (x2, true)) else ((spec_l1Parent.f k x2).bind fun t694 => (spec_l6Cut.l0 k x0 x1 t694 x2 true))) else (if x2.toList = ([] : List UInt8) then (some (x8, x9)) else ((spec_l1Parent.f k x2).bind fun t695 => (spec_l6Cut.l0 k x0 x1 t695 x8 x9))))) else (some (x8, x9))
end
def spec_l6Cut.f (k : Nat) (a0 : ByteArray) (l1 : List (S72)) (a2 : ByteArray) : Option (ByteArray × Bool) := spec_l6Cut.l0 k a0 l1 a2 (⟨#[]⟩ : ByteArray) false
def spec_l3Text.f (k : Nat) (a0_0 : ByteArray) (a0_1 : Int) (a0_2 : Int) (a0_3 : ByteArray) : Option (ByteArray) := if a0_0.toList = ([] : List UInt8) then (if 1 + 1 ≤ 9223372036854775807 then ((spec_l1Num.f k a0_2).bind fun t807 => (if 2 + t807.size ≤ 9223372036854775807 then (if (((⟨#[46]⟩ : ByteArray) ++ (⟨#[32]⟩ : ByteArray)) ++ t807).size + 1 ≤ 9223372036854775807 then ((spec_l1Num.f k a0_1).bind fun t808 => (if ((((⟨#[46]⟩ : ByteArray) ++ (⟨#[32]⟩ : ByteArray)) ++ t807) ++ (⟨#[32]⟩ : ByteArray)).size + t808.size ≤ 9223372036854775807 then (if (((((⟨#[46]⟩ : ByteArray) ++ (⟨#[32]⟩ : ByteArray)) ++ t807) ++ (⟨#[32]⟩ : ByteArray)) ++ t808).size + 1 ≤ 9223372036854775807 then (if ((((((⟨#[46]⟩ : ByteArray) ++ (⟨#[32]⟩ : ByteArray)) ++ t807) ++ (⟨#[32]⟩ : ByteArray)) ++ t808) ++ (⟨#[32]⟩ : ByteArray)).size + a0_3.size ≤ 9223372036854775807 then (some (((((((⟨#[46]⟩ : ByteArray) ++ (⟨#[32]⟩ : ByteArray)) ++ t807) ++ (⟨#[32]⟩ : ByteArray)) ++ t808) ++ (⟨#[32]⟩ : ByteArray)) ++ a0_3)) else (none)) else (none)) else (none))) else (none)) else (none))) else (none)) else (if a0_0.size + 1 ≤ 9223372036854775807 then ((spec_l1Num.f k a0_2).bind fun t809 => (if (a0_0 ++ (⟨#[32]⟩ : ByteArray)).size + t809.size ≤ 9223372036854775807 then (if ((a0_0 ++ (⟨#[32]⟩ : ByteArray)) ++ t809).size + 1 ≤ 9223372036854775807 then ((spec_l1Num.f k a0_1).bind fun t810 => (if (((a0_0 ++ (⟨#[32]⟩ : ByteArray)) ++ t809) ++ (⟨#[32]⟩ : ByteArray)).size + t810.size ≤ 9223372036854775807 then (if ((((a0_0 ++ (⟨#[32]⟩ : ByteArray)) ++ t809) ++ (⟨#[32]⟩ : ByteArray)) ++ t810).size + 1 ≤ 9223372036854775807 then (if (((((a0_0 ++ (⟨#[32]⟩ : ByteArray)) ++ t809) ++ (⟨#[32]⟩ : ByteArray)) ++ t810) ++ (⟨#[32]⟩ : ByteArray)).size + a0_3.size ≤ 9223372036854775807 then (some ((((((a0_0 ++ (⟨#[32]⟩ : ByteArray)) ++ t809) ++ (⟨#[32]⟩ : ByteArray)) ++ t810) ++ (⟨#[32]⟩ : ByteArray)) ++ a0_3)) else (none)) else (none)) else (none))) else (none)) else (none))) else (none))
def spec_l3Text.T4 : Bool × List (List Nat × List Nat) := (true, [([], []), ([0], [0]), ([], []), ([2], [2]), ([3], [3]), ([1, 4], [1, 4]), ([5], [5]), ([], []), ([7], [7]), ([8, 4], [8]), ([6, 9], [6, 9]), ([10], [10]), ([], []), ([12], [12]), ([11, 13], [11, 13]), ([14, 9, 0, 1, 2, 3, 4, 5, 6, 7, 8, 9, 10, 11, 12, 13, 14], [14])])
def spec_l3Text.B4 : List Nat := [0, 1, 0, 4, 12, 31, 63, 0, 128, 412, 1023, 2047, 0, 4096, 16383, 32767]
def spec_l6Soa.f (k : Nat) (a0_0 : ByteArray) (a0_1 : Int) (l0_2 : List (S72)) : Option (ByteArray) := (spec_l1Num.f k (Int.tmod a0_1 4294967296)).bind fun t744 => (some t744)
def laws_markStringS.l0 : Nat → List ByteArray → Int → Int → Option (Int × List ByteArray)
 | 0, _, _, _ => none
 | k + 1, x0, x1, x5 => if x5 < (x0.length : Int) then ((laws_markText.f k x1).bind fun t985 => (if 0 ≤ x5 then (laws_markStringS.l0 k (x0.set (x5 : Int).toNat t985) (wrap64 (x1 + 1)) (wrap64 (x5 + 1))) else (none))) else (some (x1, x0))
def laws_markStringS.f (k : Nat) (l0 : List ByteArray) (a1 : Int) : Option (Int × List ByteArray) := laws_markStringS.l0 k l0 a1 0
def laws_heldStringS.l0 : Nat → List ByteArray → Int → Int → Option (Int)
 | 0, _, _, _ => none
 | k + 1, x0, x1, x5 => if x5 < (x0.length : Int) then (if 0 ≤ x5 then ((laws_markText.f k x1).bind fun t988 => (if (rdOf ByteArray.empty x0 x5).toList = t988.toList then (laws_heldStringS.l0 k x0 (wrap64 (x1 + 1)) (wrap64 (x5 + 1))) else (some (-1)))) else (none)) else (some x1)
def laws_heldStringS.f (k : Nat) (l0 : List ByteArray) (a1 : Int) : Option (Int) := laws_heldStringS.l0 k l0 a1 0
end Go.Proofs.YtkpkfallgjdkmaaGreatDoor.P
