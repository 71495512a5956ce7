/- FnExactRecordsOf: part 12 of 28 of my texts for this claim, joined; the theorem stands in the last. Conditions: none beyond the statement's. -/
import Derived.Test.YtiegkjimpclmaaaGreatDoorMFnExactRecordsOfx6
namespace Go.Proofs.YtiegkjimpclmaaaGreatDoor.P
open Go.RowKit Go.Proofs.YtiegkjimpclmaaaGreatDoorW.PrintWords Go.Proofs.YtiegkjimpclmaaaGreatDoorW.PrintLast Go.Proofs.YtiegkjimpclmaaaGreatDoorW.PrintMore
attribute [local go_sem] max2_int min2_int max_two min_two max_three min_three max_four min_four
set_option linter.unusedVariables false
set_option linter.unusedSimpArgs false
def laws_heldRecordS.l0 : Nat → List (S45) → Int → Int → Option (Int)
 | 0, _, _, _ => none
 | k + 1, x0, x1, x5 => if x5 < (x0.length : Int) then (if 0 ≤ x5 then ((laws_markText.f k x1).bind fun t464 => (if ((rd_T45 x0 x5).f0).toList = t464.toList then (if ((rd_T45 x0 x5).f1) = (wrap64 (x1 + 1)) then (if ((rd_T45 x0 x5).f2) = (wrap64 ((wrap64 (x1 + 1)) + 1)) then ((laws_markText.f k (wrap64 ((wrap64 ((wrap64 (x1 + 1)) + 1)) + 1))).bind fun t468 => (if ((rd_T45 x0 x5).f3).toList = t468.toList then (laws_heldRecordS.l0 k x0 (wrap64 ((wrap64 ((wrap64 ((wrap64 (x1 + 1)) + 1)) + 1)) + 1)) (wrap64 (x5 + 1))) else (some (-1)))) else (some (-1))) else (some (-1))) else (some (-1)))) else (none)) else (some x1)
def laws_heldRecordS.f (k : Nat) (l0 : List (S45)) (a1 : Int) : Option (Int) := laws_heldRecordS.l0 k l0 a1 0
def laws_heldRecordS.T4 : Bool × List (List Nat × List Nat) := (true, [([], []), ([], []), ([0, 1], [0, 1]), ([2], [2]), ([3], [3]), ([], []), ([5], [5]), ([4, 6], [4, 6])])
def laws_heldRecordS.B4 : List Nat := [0, 0, 3, 7, 15, 0, 32, 127]
theorem laws_heldRecordS.tab4 : rtab .any (opsOf Tryz.f20 4) = laws_heldRecordS.T4 := by kernel_rfl
theorem laws_heldRecordS.bits4 : waitsOk laws_heldRecordS.T4.2 laws_heldRecordS.B4 = true := by kernel_rfl
def laws_heldRecordS.T13 : Bool × List (List Nat × List Nat) := (true, [([], []), ([], []), ([0, 1], [0, 1]), ([2], [2]), ([3], [3]), ([], []), ([5], [5]), ([4, 6], [4, 6])])
def laws_heldRecordS.B13 : List Nat := [0, 0, 3, 7, 15, 0, 32, 127]
theorem laws_heldRecordS.tab13 : rtab .any (opsOf Tryz.f20 13) = laws_heldRecordS.T13 := by kernel_rfl
theorem laws_heldRecordS.bits13 : waitsOk laws_heldRecordS.T13.2 laws_heldRecordS.B13 = true := by kernel_rfl
set_option maxHeartbeats 8000000 in
set_option maxRecDepth 100000 in
theorem laws_heldRecordS.calls (k : Nat) (A0 : Option Addr) (c0 : Nat) (l0 : List (S45)) (a1 : Int) (r : Int) (w : World) (hr0 : Kd.C k45 w A0 l0.length l0) (hc0 : l0.length ≤ c0) (h : laws_heldRecordS.f k l0 a1 = some r) :
 Calls Tryz.prog 20 #[.slice A0 l0.length c0, .int .i64 a1] w fun e w' => e = .returned (.int .i64 r) ∧ Below w.heap.size w w' := by
 have HR0 := a0_ hr0
 have HC0 := a0_ hc0
 clear hr0 hc0
 have HB := a0_ (Below.refl w.heap.size w)
 have H : (laws_heldRecordS.l0 k l0 a1 0) = some r := h
 clear h
 have H' := a0_ H
 clear H
 go_enter Tryz.func20, Tryz.ntmps20
 go_wp2
 go_loopg [1, 5] k (fun kq v1 v5 w' => ∃ (x1_1 : Int) (x5_1 : Int), v1 = .int .i64 x1_1 ∧ v5 = .int .i64 x5_1 ∧ Aside0 (laws_heldRecordS.l0 kq l0 x1_1 x5_1 = some r) ∧ Aside0 (kq ≤ k) ∧ Aside0 (Below w.heap.size w w'))
 case atStart => exact ⟨(a1), (0), rs_, rs_, H', ⟨Nat.le_refl _⟩, ⟨bq0_⟩⟩
 case round =>
  clear H'
  obtain ⟨x1_1, x5_1, rfl, rfl, HA, HK1, HB⟩ := hrel
  cases gk with
  | zero => exact absurd HA.out (by simp [laws_heldRecordS.l0])
  | succ k1 =>
   have H := HA.out
   clear HA
   simp only [laws_heldRecordS.l0] at H
   by_cases c3 : x5_1 < (l0.length : Int)
   case neg =>
    rw [if_neg c3] at H
    have c3b0 := decide_eq_false c3
    clear c3
    obtain rfl := Option.some.inj H
    go_wp2
    go_ret
    exact ⟨rr_, bq0_⟩
   rw [if_pos c3] at H
   have c3b0 := decide_eq_true c3
   clear c3
   by_cases c4 : 0 ≤ x5_1
   case neg =>
    rw [if_neg c4] at H
    exact absurd H (by simp)
   rw [if_pos c4] at H
   have c4b0 := decide_eq_true c4
   clear c4
   obtain ⟨t464, A50, H⟩ := Option.bind_eq_some_iff.mp H
   have A5 := a0_ A50
   clear A50
   by_cases c6 : ((rd_T45 l0 x5_1).f0).toList = t464.toList
   case neg =>
    rw [if_neg c6] at H
    have c6b0 := beq_eq_false_iff_ne.mpr c6
    have c6b1 := bne_iff_ne.mpr c6
    obtain rfl := Option.some.inj H
    try go_wp2
    replace HB := a0_ (below_drew1 HB.out)
    have p463 : 0 ≤ (x5_1 : Int) := dec_
    have q463 : x5_1 < (l0.length : Int) := dec_
    obtain ⟨ad463, e463, hx463_0, hx463_1, hx463_2, hx463_3⟩ := at_T45 HR0.out x5_1 p463 q463
    have hw463_3 := hx463_3
    have hw463_2 := hx463_2
    have hw463_1 := hx463_1
    have hw463_0 := hx463_0
    cases e463
    obtain ⟨hx463_0, hx463_1, hx463_2, hx463_3⟩ := up4_ HB.out hx463_0 hx463_1 hx463_2 hx463_3
    replace p463 := eq_true p463
    replace q463 := eq_true q463
    refine start_ (n := 8) (S := fun w' => w'.cell? (ad463.add ((x5_1).toNat * 4)) = some (.string ((rd_T45 l0 x5_1).f0)) ∧ w'.cell? ⟨(ad463.add ((x5_1).toNat * 4)).block, (ad463.add ((x5_1).toNat * 4)).off + 1, none⟩ = some (.int .i64 ((rd_T45 l0 x5_1).f1)) ∧ w'.cell? ⟨(ad463.add ((x5_1).toNat * 4)).block, (ad463.add ((x5_1).toNat * 4)).off + 2, none⟩ = some (.int .i64 ((rd_T45 l0 x5_1).f2)) ∧ w'.cell? ⟨(ad463.add ((x5_1).toNat * 4)).block, (ad463.add ((x5_1).toNat * 4)).off + 3, none⟩ = some (.string ((rd_T45 l0 x5_1).f3))) (ds := []) #[false, false, false, false, false, false, false, false] (by kernel_rfl) rfl rfl ⟨((HB.out.cell (World.block_lt_of_cell? w _ hw463_0)).trans hw463_0), ((HB.out.cell (World.block_lt_of_cell? w _ hw463_1)).trans hw463_1), ((HB.out.cell (World.block_lt_of_cell? w _ hw463_2)).trans hw463_2), ((HB.out.cell (World.block_lt_of_cell? w _ hw463_3)).trans hw463_3)⟩ (fun hHeld => ?_); refine with_tabW laws_heldRecordS.tab4 laws_heldRecordS.bits4 (fun HT_ HW_ => ?_)
    generalize wr.drew = w23 at HB hx463_0 hx463_1 hx463_2 hx463_3 hHeld ⊢
    refine pureS_ 0 (some 12) ?_
    refine pureS_ 1 (some 13) ?_
    refine pureS_ 2 (some 14) ?_
    refine pureS_ 3 (some 15) ?_
    refine pureS_ 5 (some 17) ?_
    refine takeS_ 4 (some 16) ?_
    refine oneS_ 6 (some 18) (fun K hK => ?_)
    refine goes_ Tryz.func69 (by kernel_rfl) rfl #[.int .i64 x1_1] (by rfl) rfl rfl argsS_ ?_
    with_reducible refine (laws_markText.calls k1 x1_1 t464 _ A5.out).mono ?_
    rintro e w24 ⟨rfl, hb⟩
    refine ⟨_, rfl, ?_⟩
    replace HB := a0_ (below_step bq0_ hb)
    (try clear hb)
    (try clear hb2)
    (try clear hk)
    (try clear hi)
    refine hK.out _ _ ⟨((HB.out.cell (World.block_lt_of_cell? w _ hw463_0)).trans hw463_0), ((HB.out.cell (World.block_lt_of_cell? w _ hw463_1)).trans hw463_1), ((HB.out.cell (World.block_lt_of_cell? w _ hw463_2)).trans hw463_2), ((HB.out.cell (World.block_lt_of_cell? w _ hw463_3)).trans hw463_3)⟩ (fun hHeld => ?_)
    clear hK K
    refine normS_ ?_
    refine pureS_ 7 (some 19) ?_
    refine done_ (done_of HT_.out (by kernel_rfl)) ?_
    try go_wp2
    go_ret
    exact ⟨rr_, bq0_⟩
   rw [if_pos c6] at H
   have c6b0 := beq_iff_eq.mpr c6
   have c6b1 := bne_eq_false_iff_eq.mpr c6
   clear c6
   by_cases c7 : ((rd_T45 l0 x5_1).f1) = (wrap64 (x1_1 + 1))
   case neg =>
    rw [if_neg c7] at H
    have c7b0 := beq_eq_false_iff_ne.mpr c7
    have c7b1 := bne_iff_ne.mpr c7
    obtain rfl := Option.some.inj H
    try go_wp2
    replace HB := a0_ (below_drew1 HB.out)
    have p463 : 0 ≤ (x5_1 : Int) := dec_
    have q463 : x5_1 < (l0.length : Int) := dec_
    obtain ⟨ad463, e463, hx463_0, hx463_1, hx463_2, hx463_3⟩ := at_T45 HR0.out x5_1 p463 q463
    have hw463_3 := hx463_3
    have hw463_2 := hx463_2
    have hw463_1 := hx463_1
    have hw463_0 := hx463_0
    cases e463
    obtain ⟨hx463_0, hx463_1, hx463_2, hx463_3⟩ := up4_ HB.out hx463_0 hx463_1 hx463_2 hx463_3
    replace p463 := eq_true p463
    replace q463 := eq_true q463
    refine start_ (n := 8) (S := fun w' => w'.cell? (ad463.add ((x5_1).toNat * 4)) = some (.string ((rd_T45 l0 x5_1).f0)) ∧ w'.cell? ⟨(ad463.add ((x5_1).toNat * 4)).block, (ad463.add ((x5_1).toNat * 4)).off + 1, none⟩ = some (.int .i64 ((rd_T45 l0 x5_1).f1)) ∧ w'.cell? ⟨(ad463.add ((x5_1).toNat * 4)).block, (ad463.add ((x5_1).toNat * 4)).off + 2, none⟩ = some (.int .i64 ((rd_T45 l0 x5_1).f2)) ∧ w'.cell? ⟨(ad463.add ((x5_1).toNat * 4)).block, (ad463.add ((x5_1).toNat * 4)).off + 3, none⟩ = some (.string ((rd_T45 l0 x5_1).f3))) (ds := []) #[false, false, false, false, false, false, false, false] (by kernel_rfl) rfl rfl ⟨((HB.out.cell (World.block_lt_of_cell? w _ hw463_0)).trans hw463_0), ((HB.out.cell (World.block_lt_of_cell? w _ hw463_1)).trans hw463_1), ((HB.out.cell (World.block_lt_of_cell? w _ hw463_2)).trans hw463_2), ((HB.out.cell (World.block_lt_of_cell? w _ hw463_3)).trans hw463_3)⟩ (fun hHeld => ?_); refine with_tabW laws_heldRecordS.tab4 laws_heldRecordS.bits4 (fun HT_ HW_ => ?_)
    generalize wr.drew = w21 at HB hx463_0 hx463_1 hx463_2 hx463_3 hHeld ⊢
    refine pureS_ 0 (some 12) ?_
    refine pureS_ 1 (some 13) ?_
    refine pureS_ 2 (some 14) ?_
    refine pureS_ 3 (some 15) ?_
    refine pureS_ 5 (some 17) ?_
    refine takeS_ 4 (some 16) ?_
    refine oneS_ 6 (some 18) (fun K hK => ?_)
    refine goes_ Tryz.func69 (by kernel_rfl) rfl #[.int .i64 x1_1] (by rfl) rfl rfl argsS_ ?_
    with_reducible refine (laws_markText.calls k1 x1_1 t464 _ A5.out).mono ?_
    rintro e w22 ⟨rfl, hb⟩
    refine ⟨_, rfl, ?_⟩
    replace HB := a0_ (below_step bq0_ hb)
    (try clear hb)
    (try clear hb2)
    (try clear hk)
    (try clear hi)
    refine hK.out _ _ ⟨((HB.out.cell (World.block_lt_of_cell? w _ hw463_0)).trans hw463_0), ((HB.out.cell (World.block_lt_of_cell? w _ hw463_1)).trans hw463_1), ((HB.out.cell (World.block_lt_of_cell? w _ hw463_2)).trans hw463_2), ((HB.out.cell (World.block_lt_of_cell? w _ hw463_3)).trans hw463_3)⟩ (fun hHeld => ?_)
    clear hK K
    refine normS_ ?_
    refine pureS_ 7 (some 19) ?_
    refine done_ (done_of HT_.out (by kernel_rfl)) ?_
    have p465 : 0 ≤ (x5_1 : Int) := dec_
    have q465 : x5_1 < (l0.length : Int) := dec_
    obtain ⟨ad465, e465, hx465_0, hx465_1, hx465_2, hx465_3⟩ := at_T45 HR0.out x5_1 p465 q465
    obtain rfl : ad463 = ad465 := (by injection e465)
    obtain ⟨hx465_0, hx465_1, hx465_2, hx465_3⟩ := up4_ HB.out hx465_0 hx465_1 hx465_2 hx465_3
    replace p465 := eq_true p465
    replace q465 := eq_true q465
    try go_wp2
    go_ret
    exact ⟨rr_, bq0_⟩
   rw [if_pos c7] at H
   have c7b0 := beq_iff_eq.mpr c7
   have c7b1 := bne_eq_false_iff_eq.mpr c7
   clear c7
   by_cases c8 : ((rd_T45 l0 x5_1).f2) = (wrap64 ((wrap64 (x1_1 + 1)) + 1))
   case neg =>
    rw [if_neg c8] at H
    have c8b0 := beq_eq_false_iff_ne.mpr c8
    have c8b1 := bne_iff_ne.mpr c8
    obtain rfl := Option.some.inj H
    try go_wp2
    replace HB := a0_ (below_drew1 HB.out)
    have p463 : 0 ≤ (x5_1 : Int) := dec_
    have q463 : x5_1 < (l0.length : Int) := dec_
    obtain ⟨ad463, e463, hx463_0, hx463_1, hx463_2, hx463_3⟩ := at_T45 HR0.out x5_1 p463 q463
    have hw463_3 := hx463_3
    have hw463_2 := hx463_2
    have hw463_1 := hx463_1
    have hw463_0 := hx463_0
    cases e463
    obtain ⟨hx463_0, hx463_1, hx463_2, hx463_3⟩ := up4_ HB.out hx463_0 hx463_1 hx463_2 hx463_3
    replace p463 := eq_true p463
    replace q463 := eq_true q463
    refine start_ (n := 8) (S := fun w' => w'.cell? (ad463.add ((x5_1).toNat * 4)) = some (.string ((rd_T45 l0 x5_1).f0)) ∧ w'.cell? ⟨(ad463.add ((x5_1).toNat * 4)).block, (ad463.add ((x5_1).toNat * 4)).off + 1, none⟩ = some (.int .i64 ((rd_T45 l0 x5_1).f1)) ∧ w'.cell? ⟨(ad463.add ((x5_1).toNat * 4)).block, (ad463.add ((x5_1).toNat * 4)).off + 2, none⟩ = some (.int .i64 ((rd_T45 l0 x5_1).f2)) ∧ w'.cell? ⟨(ad463.add ((x5_1).toNat * 4)).block, (ad463.add ((x5_1).toNat * 4)).off + 3, none⟩ = some (.string ((rd_T45 l0 x5_1).f3))) (ds := []) #[false, false, false, false, false, false, false, false] (by kernel_rfl) rfl rfl ⟨((HB.out.cell (World.block_lt_of_cell? w _ hw463_0)).trans hw463_0), ((HB.out.cell (World.block_lt_of_cell? w _ hw463_1)).trans hw463_1), ((HB.out.cell (World.block_lt_of_cell? w _ hw463_2)).trans hw463_2), ((HB.out.cell (World.block_lt_of_cell? w _ hw463_3)).trans hw463_3)⟩ (fun hHeld => ?_); refine with_tabW laws_heldRecordS.tab4 laws_heldRecordS.bits4 (fun HT_ HW_ => ?_)
    generalize wr.drew = w19 at HB hx463_0 hx463_1 hx463_2 hx463_3 hHeld ⊢
    refine pureS_ 0 (some 12) ?_
    refine pureS_ 1 (some 13) ?_
    refine pureS_ 2 (some 14) ?_
    refine pureS_ 3 (some 15) ?_
    refine pureS_ 5 (some 17) ?_
    refine takeS_ 4 (some 16) ?_
    refine oneS_ 6 (some 18) (fun K hK => ?_)
    refine goes_ Tryz.func69 (by kernel_rfl) rfl #[.int .i64 x1_1] (by rfl) rfl rfl argsS_ ?_
    with_reducible refine (laws_markText.calls k1 x1_1 t464 _ A5.out).mono ?_
    rintro e w20 ⟨rfl, hb⟩
    refine ⟨_, rfl, ?_⟩
    replace HB := a0_ (below_step bq0_ hb)
    (try clear hb)
    (try clear hb2)
    (try clear hk)
    (try clear hi)
    refine hK.out _ _ ⟨((HB.out.cell (World.block_lt_of_cell? w _ hw463_0)).trans hw463_0), ((HB.out.cell (World.block_lt_of_cell? w _ hw463_1)).trans hw463_1), ((HB.out.cell (World.block_lt_of_cell? w _ hw463_2)).trans hw463_2), ((HB.out.cell (World.block_lt_of_cell? w _ hw463_3)).trans hw463_3)⟩ (fun hHeld => ?_)
    clear hK K
    refine normS_ ?_
    refine pureS_ 7 (some 19) ?_
    refine done_ (done_of HT_.out (by kernel_rfl)) ?_
    have p465 : 0 ≤ (x5_1 : Int) := dec_
    have q465 : x5_1 < (l0.length : Int) := dec_
    obtain ⟨ad465, e465, hx465_0, hx465_1, hx465_2, hx465_3⟩ := at_T45 HR0.out x5_1 p465 q465
    obtain rfl : ad463 = ad465 := (by injection e465)
    obtain ⟨hx465_0, hx465_1, hx465_2, hx465_3⟩ := up4_ HB.out hx465_0 hx465_1 hx465_2 hx465_3
    replace p465 := eq_true p465
    replace q465 := eq_true q465
    have p466 : 0 ≤ (x5_1 : Int) := dec_
    have q466 : x5_1 < (l0.length : Int) := dec_
    obtain ⟨ad466, e466, hx466_0, hx466_1, hx466_2, hx466_3⟩ := at_T45 HR0.out x5_1 p466 q466
    obtain rfl : ad463 = ad466 := (by injection e466)
    obtain ⟨hx466_0, hx466_1, hx466_2, hx466_3⟩ := up4_ HB.out hx466_0 hx466_1 hx466_2 hx466_3
    replace p466 := eq_true p466
    replace q466 := eq_true q466
    try go_wp2
    go_ret
    exact ⟨rr_, bq0_⟩
   rw [if_pos c8] at H
   have c8b0 := beq_iff_eq.mpr c8
   have c8b1 := bne_eq_false_iff_eq.mpr c8
   clear c8
   obtain ⟨t468, A90, H⟩ := Option.bind_eq_some_iff.mp H
   have A9 := a0_ A90
   clear A90
   by_cases c10 : ((rd_T45 l0 x5_1).f3).toList = t468.toList
   case neg =>
    rw [if_neg c10] at H
    have c10b0 := beq_eq_false_iff_ne.mpr c10
    have c10b1 := bne_iff_ne.mpr c10
    obtain rfl := Option.some.inj H
    try go_wp2
    replace HB := a0_ (below_drew1 HB.out)
    have p463 : 0 ≤ (x5_1 : Int) := dec_
    have q463 : x5_1 < (l0.length : Int) := dec_
    obtain ⟨ad463, e463, hx463_0, hx463_1, hx463_2, hx463_3⟩ := at_T45 HR0.out x5_1 p463 q463
    have hw463_3 := hx463_3
    have hw463_2 := hx463_2
    have hw463_1 := hx463_1
    have hw463_0 := hx463_0
    cases e463
    obtain ⟨hx463_0, hx463_1, hx463_2, hx463_3⟩ := up4_ HB.out hx463_0 hx463_1 hx463_2 hx463_3
    replace p463 := eq_true p463
    replace q463 := eq_true q463
    refine start_ (n := 8) (S := fun w' => w'.cell? (ad463.add ((x5_1).toNat * 4)) = some (.string ((rd_T45 l0 x5_1).f0)) ∧ w'.cell? ⟨(ad463.add ((x5_1).toNat * 4)).block, (ad463.add ((x5_1).toNat * 4)).off + 1, none⟩ = some (.int .i64 ((rd_T45 l0 x5_1).f1)) ∧ w'.cell? ⟨(ad463.add ((x5_1).toNat * 4)).block, (ad463.add ((x5_1).toNat * 4)).off + 2, none⟩ = some (.int .i64 ((rd_T45 l0 x5_1).f2)) ∧ w'.cell? ⟨(ad463.add ((x5_1).toNat * 4)).block, (ad463.add ((x5_1).toNat * 4)).off + 3, none⟩ = some (.string ((rd_T45 l0 x5_1).f3))) (ds := []) #[false, false, false, false, false, false, false, false] (by kernel_rfl) rfl rfl ⟨((HB.out.cell (World.block_lt_of_cell? w _ hw463_0)).trans hw463_0), ((HB.out.cell (World.block_lt_of_cell? w _ hw463_1)).trans hw463_1), ((HB.out.cell (World.block_lt_of_cell? w _ hw463_2)).trans hw463_2), ((HB.out.cell (World.block_lt_of_cell? w _ hw463_3)).trans hw463_3)⟩ (fun hHeld => ?_); refine with_tabW laws_heldRecordS.tab4 laws_heldRecordS.bits4 (fun HT_ HW_ => ?_)
    generalize wr.drew = w15 at HB hx463_0 hx463_1 hx463_2 hx463_3 hHeld ⊢
    refine pureS_ 0 (some 12) ?_
    refine pureS_ 1 (some 13) ?_
    refine pureS_ 2 (some 14) ?_
    refine pureS_ 3 (some 15) ?_
    refine pureS_ 5 (some 17) ?_
    refine takeS_ 4 (some 16) ?_
    refine oneS_ 6 (some 18) (fun K hK => ?_)
    refine goes_ Tryz.func69 (by kernel_rfl) rfl #[.int .i64 x1_1] (by rfl) rfl rfl argsS_ ?_
    with_reducible refine (laws_markText.calls k1 x1_1 t464 _ A5.out).mono ?_
    rintro e w16 ⟨rfl, hb⟩
    refine ⟨_, rfl, ?_⟩
    replace HB := a0_ (below_step bq0_ hb)
    (try clear hb)
    (try clear hb2)
    (try clear hk)
    (try clear hi)
    refine hK.out _ _ ⟨((HB.out.cell (World.block_lt_of_cell? w _ hw463_0)).trans hw463_0), ((HB.out.cell (World.block_lt_of_cell? w _ hw463_1)).trans hw463_1), ((HB.out.cell (World.block_lt_of_cell? w _ hw463_2)).trans hw463_2), ((HB.out.cell (World.block_lt_of_cell? w _ hw463_3)).trans hw463_3)⟩ (fun hHeld => ?_)
    clear hK K
    refine normS_ ?_
    refine pureS_ 7 (some 19) ?_
    refine done_ (done_of HT_.out (by kernel_rfl)) ?_
    have p465 : 0 ≤ (x5_1 : Int) := dec_
    have q465 : x5_1 < (l0.length : Int) := dec_
    obtain ⟨ad465, e465, hx465_0, hx465_1, hx465_2, hx465_3⟩ := at_T45 HR0.out x5_1 p465 q465
    obtain rfl : ad463 = ad465 := (by injection e465)
    obtain ⟨hx465_0, hx465_1, hx465_2, hx465_3⟩ := up4_ HB.out hx465_0 hx465_1 hx465_2 hx465_3
    replace p465 := eq_true p465
    replace q465 := eq_true q465
    have p466 : 0 ≤ (x5_1 : Int) := dec_
    have q466 : x5_1 < (l0.length : Int) := dec_
    obtain ⟨ad466, e466, hx466_0, hx466_1, hx466_2, hx466_3⟩ := at_T45 HR0.out x5_1 p466 q466
    obtain rfl : ad463 = ad466 := (by injection e466)
    obtain ⟨hx466_0, hx466_1, hx466_2, hx466_3⟩ := up4_ HB.out hx466_0 hx466_1 hx466_2 hx466_3
    replace p466 := eq_true p466
    replace q466 := eq_true q466
    try go_wp2
    replace HB := a0_ (below_drew1 HB.out)
    have p467 : 0 ≤ (x5_1 : Int) := dec_
    have q467 : x5_1 < (l0.length : Int) := dec_
    obtain ⟨ad467, e467, hx467_0, hx467_1, hx467_2, hx467_3⟩ := at_T45 HR0.out x5_1 p467 q467
    have hw467_3 := hx467_3
    have hw467_2 := hx467_2
    have hw467_1 := hx467_1
    have hw467_0 := hx467_0
    obtain rfl : ad463 = ad467 := (by injection e467)
    obtain ⟨hx467_0, hx467_1, hx467_2, hx467_3⟩ := up4_ HB.out hx467_0 hx467_1 hx467_2 hx467_3
    replace p467 := eq_true p467
    replace q467 := eq_true q467
    refine start_ (n := 8) (S := fun w' => w'.cell? (ad463.add ((x5_1).toNat * 4)) = some (.string ((rd_T45 l0 x5_1).f0)) ∧ w'.cell? ⟨(ad463.add ((x5_1).toNat * 4)).block, (ad463.add ((x5_1).toNat * 4)).off + 1, none⟩ = some (.int .i64 ((rd_T45 l0 x5_1).f1)) ∧ w'.cell? ⟨(ad463.add ((x5_1).toNat * 4)).block, (ad463.add ((x5_1).toNat * 4)).off + 2, none⟩ = some (.int .i64 ((rd_T45 l0 x5_1).f2)) ∧ w'.cell? ⟨(ad463.add ((x5_1).toNat * 4)).block, (ad463.add ((x5_1).toNat * 4)).off + 3, none⟩ = some (.string ((rd_T45 l0 x5_1).f3))) (ds := []) #[false, false, false, false, false, false, false, false] (by kernel_rfl) rfl rfl ⟨((HB.out.cell (World.block_lt_of_cell? w _ hw467_0)).trans hw467_0), ((HB.out.cell (World.block_lt_of_cell? w _ hw467_1)).trans hw467_1), ((HB.out.cell (World.block_lt_of_cell? w _ hw467_2)).trans hw467_2), ((HB.out.cell (World.block_lt_of_cell? w _ hw467_3)).trans hw467_3)⟩ (fun hHeld => ?_); refine with_tabW laws_heldRecordS.tab13 laws_heldRecordS.bits13 (fun HT_ HW_ => ?_)
    generalize w16.drew = w17 at HB hx467_0 hx467_1 hx467_2 hx467_3 hHeld ⊢
    refine pureS_ 0 (some 40) ?_
    refine pureS_ 1 (some 41) ?_
    refine pureS_ 2 (some 42) ?_
    refine pureS_ 3 (some 43) ?_
    refine pureS_ 5 (some 45) ?_
    refine takeS_ 4 (some 44) ?_
    refine oneS_ 6 (some 46) (fun K hK => ?_)
    refine goes_ Tryz.func69 (by kernel_rfl) rfl #[.int .i64 (wrap64 ((wrap64 ((wrap64 (x1_1 + 1)) + 1)) + 1))] (by rfl) rfl rfl argsS_ ?_
    with_reducible refine (laws_markText.calls k1 (wrap64 ((wrap64 ((wrap64 (x1_1 + 1)) + 1)) + 1)) t468 _ A9.out).mono ?_
    rintro e w18 ⟨rfl, hb⟩
    refine ⟨_, rfl, ?_⟩
    replace HB := a0_ (below_step bq0_ hb)
    (try clear hb)
    (try clear hb2)
    (try clear hk)
    (try clear hi)
    refine hK.out _ _ ⟨((HB.out.cell (World.block_lt_of_cell? w _ hw467_0)).trans hw467_0), ((HB.out.cell (World.block_lt_of_cell? w _ hw467_1)).trans hw467_1), ((HB.out.cell (World.block_lt_of_cell? w _ hw467_2)).trans hw467_2), ((HB.out.cell (World.block_lt_of_cell? w _ hw467_3)).trans hw467_3)⟩ (fun hHeld => ?_)
    clear hK K
    refine normS_ ?_
    refine pureS_ 7 (some 47) ?_
    refine done_ (done_of HT_.out (by kernel_rfl)) ?_
    try go_wp2
    go_ret
    exact ⟨rr_, bq0_⟩
   rw [if_pos c10] at H
   have c10b0 := beq_iff_eq.mpr c10
   have c10b1 := bne_eq_false_iff_eq.mpr c10
   clear c10
   have H' := a0_ H
   clear H
   try go_wp2
   replace HB := a0_ (below_drew1 HB.out)
   have p463 : 0 ≤ (x5_1 : Int) := dec_
   have q463 : x5_1 < (l0.length : Int) := dec_
   obtain ⟨ad463, e463, hx463_0, hx463_1, hx463_2, hx463_3⟩ := at_T45 HR0.out x5_1 p463 q463
   have hw463_3 := hx463_3
   have hw463_2 := hx463_2
   have hw463_1 := hx463_1
   have hw463_0 := hx463_0
   cases e463
   obtain ⟨hx463_0, hx463_1, hx463_2, hx463_3⟩ := up4_ HB.out hx463_0 hx463_1 hx463_2 hx463_3
   replace p463 := eq_true p463
   replace q463 := eq_true q463
   refine start_ (n := 8) (S := fun w' => w'.cell? (ad463.add ((x5_1).toNat * 4)) = some (.string ((rd_T45 l0 x5_1).f0)) ∧ w'.cell? ⟨(ad463.add ((x5_1).toNat * 4)).block, (ad463.add ((x5_1).toNat * 4)).off + 1, none⟩ = some (.int .i64 ((rd_T45 l0 x5_1).f1)) ∧ w'.cell? ⟨(ad463.add ((x5_1).toNat * 4)).block, (ad463.add ((x5_1).toNat * 4)).off + 2, none⟩ = some (.int .i64 ((rd_T45 l0 x5_1).f2)) ∧ w'.cell? ⟨(ad463.add ((x5_1).toNat * 4)).block, (ad463.add ((x5_1).toNat * 4)).off + 3, none⟩ = some (.string ((rd_T45 l0 x5_1).f3))) (ds := []) #[false, false, false, false, false, false, false, false] (by kernel_rfl) rfl rfl ⟨((HB.out.cell (World.block_lt_of_cell? w _ hw463_0)).trans hw463_0), ((HB.out.cell (World.block_lt_of_cell? w _ hw463_1)).trans hw463_1), ((HB.out.cell (World.block_lt_of_cell? w _ hw463_2)).trans hw463_2), ((HB.out.cell (World.block_lt_of_cell? w _ hw463_3)).trans hw463_3)⟩ (fun hHeld => ?_); refine with_tabW laws_heldRecordS.tab4 laws_heldRecordS.bits4 (fun HT_ HW_ => ?_)
   generalize wr.drew = w11 at HB hx463_0 hx463_1 hx463_2 hx463_3 hHeld ⊢
   refine pureS_ 0 (some 12) ?_
   refine pureS_ 1 (some 13) ?_
   refine pureS_ 2 (some 14) ?_
   refine pureS_ 3 (some 15) ?_
   refine pureS_ 5 (some 17) ?_
   refine takeS_ 4 (some 16) ?_
   refine oneS_ 6 (some 18) (fun K hK => ?_)
   refine goes_ Tryz.func69 (by kernel_rfl) rfl #[.int .i64 x1_1] (by rfl) rfl rfl argsS_ ?_
   with_reducible refine (laws_markText.calls k1 x1_1 t464 _ A5.out).mono ?_
   rintro e w12 ⟨rfl, hb⟩
   refine ⟨_, rfl, ?_⟩
   replace HB := a0_ (below_step bq0_ hb)
   (try clear hb)
   (try clear hb2)
   (try clear hk)
   (try clear hi)
   refine hK.out _ _ ⟨((HB.out.cell (World.block_lt_of_cell? w _ hw463_0)).trans hw463_0), ((HB.out.cell (World.block_lt_of_cell? w _ hw463_1)).trans hw463_1), ((HB.out.cell (World.block_lt_of_cell? w _ hw463_2)).trans hw463_2), ((HB.out.cell (World.block_lt_of_cell? w _ hw463_3)).trans hw463_3)⟩ (fun hHeld => ?_)
   clear hK K
   refine normS_ ?_
   refine pureS_ 7 (some 19) ?_
   refine done_ (done_of HT_.out (by kernel_rfl)) ?_
   have p465 : 0 ≤ (x5_1 : Int) := dec_
   have q465 : x5_1 < (l0.length : Int) := dec_
   obtain ⟨ad465, e465, hx465_0, hx465_1, hx465_2, hx465_3⟩ := at_T45 HR0.out x5_1 p465 q465
   obtain rfl : ad463 = ad465 := (by injection e465)
   obtain ⟨hx465_0, hx465_1, hx465_2, hx465_3⟩ := up4_ HB.out hx465_0 hx465_1 hx465_2 hx465_3
   replace p465 := eq_true p465
   replace q465 := eq_true q465
   have p466 : 0 ≤ (x5_1 : Int) := dec_
   have q466 : x5_1 < (l0.length : Int) := dec_
   obtain ⟨ad466, e466, hx466_0, hx466_1, hx466_2, hx466_3⟩ := at_T45 HR0.out x5_1 p466 q466
   obtain rfl : ad463 = ad466 := (by injection e466)
   obtain ⟨hx466_0, hx466_1, hx466_2, hx466_3⟩ := up4_ HB.out hx466_0 hx466_1 hx466_2 hx466_3
   replace p466 := eq_true p466
   replace q466 := eq_true q466
   try go_wp2
   replace HB := a0_ (below_drew1 HB.out)
   have p467 : 0 ≤ (x5_1 : Int) := dec_
   have q467 : x5_1 < (l0.length : Int) := dec_
   obtain ⟨ad467, e467, hx467_0, hx467_1, hx467_2, hx467_3⟩ := at_T45 HR0.out x5_1 p467 q467
   have hw467_3 := hx467_3
   have hw467_2 := hx467_2
   have hw467_1 := hx467_1
   have hw467_0 := hx467_0
   obtain rfl : ad463 = ad467 := (by injection e467)
   obtain ⟨hx467_0, hx467_1, hx467_2, hx467_3⟩ := up4_ HB.out hx467_0 hx467_1 hx467_2 hx467_3
   replace p467 := eq_true p467
   replace q467 := eq_true q467
   refine start_ (n := 8) (S := fun w' => w'.cell? (ad463.add ((x5_1).toNat * 4)) = some (.string ((rd_T45 l0 x5_1).f0)) ∧ w'.cell? ⟨(ad463.add ((x5_1).toNat * 4)).block, (ad463.add ((x5_1).toNat * 4)).off + 1, none⟩ = some (.int .i64 ((rd_T45 l0 x5_1).f1)) ∧ w'.cell? ⟨(ad463.add ((x5_1).toNat * 4)).block, (ad463.add ((x5_1).toNat * 4)).off + 2, none⟩ = some (.int .i64 ((rd_T45 l0 x5_1).f2)) ∧ w'.cell? ⟨(ad463.add ((x5_1).toNat * 4)).block, (ad463.add ((x5_1).toNat * 4)).off + 3, none⟩ = some (.string ((rd_T45 l0 x5_1).f3))) (ds := []) #[false, false, false, false, false, false, false, false] (by kernel_rfl) rfl rfl ⟨((HB.out.cell (World.block_lt_of_cell? w _ hw467_0)).trans hw467_0), ((HB.out.cell (World.block_lt_of_cell? w _ hw467_1)).trans hw467_1), ((HB.out.cell (World.block_lt_of_cell? w _ hw467_2)).trans hw467_2), ((HB.out.cell (World.block_lt_of_cell? w _ hw467_3)).trans hw467_3)⟩ (fun hHeld => ?_); refine with_tabW laws_heldRecordS.tab13 laws_heldRecordS.bits13 (fun HT_ HW_ => ?_)
   generalize w12.drew = w13 at HB hx467_0 hx467_1 hx467_2 hx467_3 hHeld ⊢
   refine pureS_ 0 (some 40) ?_
   refine pureS_ 1 (some 41) ?_
   refine pureS_ 2 (some 42) ?_
   refine pureS_ 3 (some 43) ?_
   refine pureS_ 5 (some 45) ?_
   refine takeS_ 4 (some 44) ?_
   refine oneS_ 6 (some 46) (fun K hK => ?_)
   refine goes_ Tryz.func69 (by kernel_rfl) rfl #[.int .i64 (wrap64 ((wrap64 ((wrap64 (x1_1 + 1)) + 1)) + 1))] (by rfl) rfl rfl argsS_ ?_
   with_reducible refine (laws_markText.calls k1 (wrap64 ((wrap64 ((wrap64 (x1_1 + 1)) + 1)) + 1)) t468 _ A9.out).mono ?_
   rintro e w14 ⟨rfl, hb⟩
   refine ⟨_, rfl, ?_⟩
   replace HB := a0_ (below_step bq0_ hb)
   (try clear hb)
   (try clear hb2)
   (try clear hk)
   (try clear hi)
   refine hK.out _ _ ⟨((HB.out.cell (World.block_lt_of_cell? w _ hw467_0)).trans hw467_0), ((HB.out.cell (World.block_lt_of_cell? w _ hw467_1)).trans hw467_1), ((HB.out.cell (World.block_lt_of_cell? w _ hw467_2)).trans hw467_2), ((HB.out.cell (World.block_lt_of_cell? w _ hw467_3)).trans hw467_3)⟩ (fun hHeld => ?_)
   clear hK K
   refine normS_ ?_
   refine pureS_ 7 (some 47) ?_
   refine done_ (done_of HT_.out (by kernel_rfl)) ?_
   try go_wp2
   go_roundg k1
   case measure => have := HK1.out; omega
   case rel => exact ⟨(wrap64 ((wrap64 ((wrap64 ((wrap64 (x1_1 + 1)) + 1)) + 1)) + 1)), (wrap64 (x5_1 + 1)), rs_, rs_, H', ⟨by have := HK1.out; omega⟩, ⟨bq0_⟩⟩
def spec_l1Label.l0 : Nat → ByteArray → Int → Option (Bool)
 | 0, _, _ => none
 | k + 1, x0, x3 => if x3 < (x0.size : Int) then (if 0 ≤ x3 then (if (bt x0 x3) ≥ 97 then (if (bt x0 x3) ≤ 122 then (spec_l1Label.l0 k x0 (wrap64 (x3 + 1))) else (if (bt x0 x3) ≥ 48 then (if (bt x0 x3) ≤ 57 then (spec_l1Label.l0 k x0 (wrap64 (x3 + 1))) else (if (bt x0 x3) = 45 then (spec_l1Label.l0 k x0 (wrap64 (x3 + 1))) else (if ((bt x0 x3) = 95) then (spec_l1Label.l0 k x0 (wrap64 (x3 + 1))) else (some false)))) else (if (bt x0 x3) = 45 then (spec_l1Label.l0 k x0 (wrap64 (x3 + 1))) else (if ((bt x0 x3) = 95) then (spec_l1Label.l0 k x0 (wrap64 (x3 + 1))) else (some false))))) else (if (bt x0 x3) ≥ 48 then (if (bt x0 x3) ≤ 57 then (spec_l1Label.l0 k x0 (wrap64 (x3 + 1))) else (if (bt x0 x3) = 45 then (spec_l1Label.l0 k x0 (wrap64 (x3 + 1))) else (if ((bt x0 x3) = 95) then (spec_l1Label.l0 k x0 (wrap64 (x3 + 1))) else (some false)))) else (if (bt x0 x3) = 45 then (spec_l1Label.l0 k x0 (wrap64 (x3 + 1))) else (if ((bt x0 x3) = 95) then (spec_l1Label.l0 k x0 (wrap64 (x3 + 1))) else (some false))))) else (none)) else ((spec_l1In.f (x0.size : Int) 1 20).bind fun t114 => (some t114))
def spec_l1Label.f (k : Nat) (a0 : ByteArray) : Option (Bool) := if a0.toList = ([42] : List UInt8) then (some true) else (spec_l1Label.l0 k a0 0)
theorem spec_l1Label.mono_l : ∀ k, (∀ y0 y1, LeO (spec_l1Label.l0 k y0 y1) (spec_l1Label.l0 (k + 1) y0 y1))
 | 0 => fun _ _ r h => by simp [spec_l1Label.l0] at h
 | k + 1 => by
  have ih0 := spec_l1Label.mono_l k
  · intro y0 y1
    unfold spec_l1Label.l0
    repeat' first
    | (with_reducible exact ih0 _ _)
    | (with_reducible exact LeO.refl _)
    | (with_reducible exact LeO.none _)
    | (with_reducible refine LeO.ite ?_ ?_)
    | (with_reducible refine LeO.bind ?_ (fun _ => ?_))
    | exact ih0 _ _
    | exact LeO.none _
    | refine LeO.ite ?_ ?_
    | refine LeO.bind ?_ (fun _ => ?_)
theorem spec_l1Label.mono : ∀ a0 k, LeO (spec_l1Label.f k a0) (spec_l1Label.f (k + 1) a0) := by
 intro a0 k
 have ih0 := spec_l1Label.mono_l k
 unfold spec_l1Label.f
 repeat' first
  | (with_reducible exact ih0 _ _)
  | (with_reducible exact LeO.refl _)
  | (with_reducible exact LeO.none _)
  | (with_reducible refine LeO.ite ?_ ?_)
  | (with_reducible refine LeO.bind ?_ (fun _ => ?_))
  | exact ih0 _ _
  | exact LeO.none _
  | refine LeO.ite ?_ ?_
  | refine LeO.bind ?_ (fun _ => ?_)
set_option maxHeartbeats 8000000 in
set_option maxRecDepth 100000 in
theorem spec_l1Label.calls (k : Nat) (a0 : ByteArray) (r : Bool) (w : World) (h : spec_l1Label.f k a0 = some r) :
 Calls Tryz.prog 200 #[.string a0] w fun e w' => e = .returned (.bool r) ∧ Drawn0 w w' := by
 have H := h
 clear h
 unfold spec_l1Label.f at H
 by_cases c2 : a0.toList = ([42] : List UInt8)
 case pos =>
  rw [if_pos c2] at H
  have c2b0 := beq_iff_eq.mpr c2
  have c2b1 := bne_eq_false_iff_eq.mpr c2
  clear c2
  obtain rfl := Option.some.inj H
  go_enter Tryz.func200, Tryz.ntmps200
  go_wp2
  go_ret
  exact ⟨rs_, dr_⟩
 rw [if_neg c2] at H
 have c2b0 := beq_eq_false_iff_ne.mpr c2
 have c2b1 := bne_iff_ne.mpr c2
 have H' := a0_ H
 clear H
 go_enter Tryz.func200, Tryz.ntmps200
 go_wp2
 go_loopg [3] k (fun kq v3 w' => ∃ (x3_1 : Int), v3 = .int .i64 x3_1 ∧ Aside0 (spec_l1Label.l0 kq a0 x3_1 = some r) ∧ Aside0 (kq ≤ k) ∧ Drawn0 w w')
 case atStart => exact ⟨(0), rs_, H', ⟨Nat.le_refl _⟩, dr_⟩
 case round =>
  clear H'
  try clear c2
  try clear c2b0
  try clear c2b1
  obtain ⟨x3_1, rfl, HA, HK1, ⟨m1, rfl⟩⟩ := hrel
  cases gk with
  | zero => exact absurd HA.out (by simp [spec_l1Label.l0])
  | succ k1 =>
   have H := HA.out
   clear HA
   simp only [spec_l1Label.l0] at H
   by_cases c3 : x3_1 < (a0.size : Int)
   case neg =>
    rw [if_neg c3] at H
    have c3b0 := decide_eq_false c3
    clear c3
    obtain ⟨t114, A200, H⟩ := Option.bind_eq_some_iff.mp H
    have A20 := a0_ A200
    clear A200
    obtain rfl := Option.some.inj H
    go_wp2_with (first | ((with_reducible refine gate_callee (f := 102) rfl ?_); refine goesL_ (some 41) rfl rfl Tryz.func102 (by kernel_rfl) rfl #[.int .i64 (a0.size : Int), .int .i64 1, .int .i64 20] rfl argsS_ ?_; (with_reducible refine (spec_l1In.calls (a0.size : Int) 1 20 t114 _ A20.out).mono ?_); rintro e w' ⟨rfl, ⟨nd, rfl⟩⟩; refine ⟨_, rfl, ?_⟩))
    go_ret
    exact ⟨rs_, dr_⟩
   rw [if_pos c3] at H
   have c3b0 := decide_eq_true c3
   clear c3
   by_cases c4 : 0 ≤ x3_1
   case neg =>
    rw [if_neg c4] at H
    exact absurd H (by simp)
   rw [if_pos c4] at H
   have c4b0 := decide_eq_true c4
   clear c4
   by_cases c6 : (bt a0 x3_1) ≥ 97
   case neg =>
    rw [if_neg c6] at H
    have c6b0 := decide_eq_false c6
    clear c6
    by_cases c14 : (bt a0 x3_1) ≥ 48
    case neg =>
     rw [if_neg c14] at H
     have c14b0 := decide_eq_false c14
     clear c14
     by_cases c18 : (bt a0 x3_1) = 45
     case pos =>
      rw [if_pos c18] at H
      have c18b0 := beq_iff_eq.mpr c18
      have c18b1 := bne_eq_false_iff_eq.mpr c18
      clear c18
      have H' := a0_ H
      clear H
      have p5 : 0 ≤ (x3_1 : Int) := dec_
      have q5 : x3_1 < (a0.size : Int) := dec_
      have hx5 := bt_at a0 x3_1
      replace p5 := eq_true p5
      replace q5 := eq_true q5
      go_wp2
      go_roundg k1
      case measure => have := HK1.out; omega
      case rel => exact ⟨(wrap64 (x3_1 + 1)), rs_, H', ⟨by have := HK1.out; omega⟩, dr_⟩
     rw [if_neg c18] at H
     have c18b0 := beq_eq_false_iff_ne.mpr c18
     have c18b1 := bne_iff_ne.mpr c18
     by_cases c19 : ((bt a0 x3_1) = 95)
     case neg =>
      rw [if_neg c19] at H
      have c19b0 := beq_eq_false_iff_ne.mpr c19
      have c19b1 := bne_iff_ne.mpr c19
      obtain rfl := Option.some.inj H
      have p5 : 0 ≤ (x3_1 : Int) := dec_
      have q5 : x3_1 < (a0.size : Int) := dec_
      have hx5 := bt_at a0 x3_1
      replace p5 := eq_true p5
      replace q5 := eq_true q5
      go_wp2
      go_ret
      exact ⟨rs_, dr_⟩
     rw [if_pos c19] at H
     have c19b0 := beq_iff_eq.mpr c19
     have c19b1 := bne_eq_false_iff_eq.mpr c19
     clear c19
     have H' := a0_ H
     clear H
     have p5 : 0 ≤ (x3_1 : Int) := dec_
     have q5 : x3_1 < (a0.size : Int) := dec_
     have hx5 := bt_at a0 x3_1
     replace p5 := eq_true p5
     replace q5 := eq_true q5
     go_wp2
     go_roundg k1
     case measure => have := HK1.out; omega
     case rel => exact ⟨(wrap64 (x3_1 + 1)), rs_, H', ⟨by have := HK1.out; omega⟩, dr_⟩
    rw [if_pos c14] at H
    have c14b0 := decide_eq_true c14
    clear c14
    by_cases c15 : (bt a0 x3_1) ≤ 57
    case pos =>
     rw [if_pos c15] at H
     have c15b0 := decide_eq_true c15
     clear c15
     have H' := a0_ H
     clear H
     have p5 : 0 ≤ (x3_1 : Int) := dec_
     have q5 : x3_1 < (a0.size : Int) := dec_
     have hx5 := bt_at a0 x3_1
     replace p5 := eq_true p5
     replace q5 := eq_true q5
     go_wp2
     go_roundg k1
     case measure => have := HK1.out; omega
     case rel => exact ⟨(wrap64 (x3_1 + 1)), rs_, H', ⟨by have := HK1.out; omega⟩, dr_⟩
    rw [if_neg c15] at H
    have c15b0 := decide_eq_false c15
    clear c15
    by_cases c16 : (bt a0 x3_1) = 45
    case pos =>
     rw [if_pos c16] at H
     have c16b0 := beq_iff_eq.mpr c16
     have c16b1 := bne_eq_false_iff_eq.mpr c16
     clear c16
     have H' := a0_ H
     clear H
     have p5 : 0 ≤ (x3_1 : Int) := dec_
     have q5 : x3_1 < (a0.size : Int) := dec_
     have hx5 := bt_at a0 x3_1
     replace p5 := eq_true p5
     replace q5 := eq_true q5
     go_wp2
     go_roundg k1
     case measure => have := HK1.out; omega
     case rel => exact ⟨(wrap64 (x3_1 + 1)), rs_, H', ⟨by have := HK1.out; omega⟩, dr_⟩
    rw [if_neg c16] at H
    have c16b0 := beq_eq_false_iff_ne.mpr c16
    have c16b1 := bne_iff_ne.mpr c16
    by_cases c17 : ((bt a0 x3_1) = 95)
    case neg =>
     rw [if_neg c17] at H
     have c17b0 := beq_eq_false_iff_ne.mpr c17
     have c17b1 := bne_iff_ne.mpr c17
     obtain rfl := Option.some.inj H
     have p5 : 0 ≤ (x3_1 : Int) := dec_
     have q5 : x3_1 < (a0.size : Int) := dec_
     have hx5 := bt_at a0 x3_1
     replace p5 := eq_true p5
     replace q5 := eq_true q5
     go_wp2
     go_ret
     exact ⟨rs_, dr_⟩
    rw [if_pos c17] at H
    have c17b0 := beq_iff_eq.mpr c17
    have c17b1 := bne_eq_false_iff_eq.mpr c17
    clear c17
    have H' := a0_ H
    clear H
    have p5 : 0 ≤ (x3_1 : Int) := dec_
    have q5 : x3_1 < (a0.size : Int) := dec_
    have hx5 := bt_at a0 x3_1
    replace p5 := eq_true p5
    replace q5 := eq_true q5
    go_wp2
    go_roundg k1
    case measure => have := HK1.out; omega
    case rel => exact ⟨(wrap64 (x3_1 + 1)), rs_, H', ⟨by have := HK1.out; omega⟩, dr_⟩
   rw [if_pos c6] at H
   have c6b0 := decide_eq_true c6
   clear c6
   by_cases c7 : (bt a0 x3_1) ≤ 122
   case pos =>
    rw [if_pos c7] at H
    have c7b0 := decide_eq_true c7
    clear c7
    have H' := a0_ H
    clear H
    have p5 : 0 ≤ (x3_1 : Int) := dec_
    have q5 : x3_1 < (a0.size : Int) := dec_
    have hx5 := bt_at a0 x3_1
    replace p5 := eq_true p5
    replace q5 := eq_true q5
    go_wp2
    go_roundg k1
    case measure => have := HK1.out; omega
    case rel => exact ⟨(wrap64 (x3_1 + 1)), rs_, H', ⟨by have := HK1.out; omega⟩, dr_⟩
   rw [if_neg c7] at H
   have c7b0 := decide_eq_false c7
   clear c7
   by_cases c8 : (bt a0 x3_1) ≥ 48
   case neg =>
    rw [if_neg c8] at H
    have c8b0 := decide_eq_false c8
    clear c8
    by_cases c12 : (bt a0 x3_1) = 45
    case pos =>
     rw [if_pos c12] at H
     have c12b0 := beq_iff_eq.mpr c12
     have c12b1 := bne_eq_false_iff_eq.mpr c12
     clear c12
     have H' := a0_ H
     clear H
     have p5 : 0 ≤ (x3_1 : Int) := dec_
     have q5 : x3_1 < (a0.size : Int) := dec_
     have hx5 := bt_at a0 x3_1
     replace p5 := eq_true p5
     replace q5 := eq_true q5
     go_wp2
     go_roundg k1
     case measure => have := HK1.out; omega
     case rel => exact ⟨(wrap64 (x3_1 + 1)), rs_, H', ⟨by have := HK1.out; omega⟩, dr_⟩
    rw [if_neg c12] at H
    have c12b0 := beq_eq_false_iff_ne.mpr c12
    have c12b1 := bne_iff_ne.mpr c12
    by_cases c13 : ((bt a0 x3_1) = 95)
    case neg =>
     rw [if_neg c13] at H
     have c13b0 := beq_eq_false_iff_ne.mpr c13
     have c13b1 := bne_iff_ne.mpr c13
     obtain rfl := Option.some.inj H
     have p5 : 0 ≤ (x3_1 : Int) := dec_
     have q5 : x3_1 < (a0.size : Int) := dec_
     have hx5 := bt_at a0 x3_1
     replace p5 := eq_true p5
     replace q5 := eq_true q5
     go_wp2
     go_ret
     exact ⟨rs_, dr_⟩
    rw [if_pos c13] at H
    have c13b0 := beq_iff_eq.mpr c13
    have c13b1 := bne_eq_false_iff_eq.mpr c13
    clear c13
    have H' := a0_ H
    clear H
    have p5 : 0 ≤ (x3_1 : Int) := dec_
    have q5 : x3_1 < (a0.size : Int) := dec_
    have hx5 := bt_at a0 x3_1
    replace p5 := eq_true p5
    replace q5 := eq_true q5
    go_wp2
    go_roundg k1
    case measure => have := HK1.out; omega
    case rel => exact ⟨(wrap64 (x3_1 + 1)), rs_, H', ⟨by have := HK1.out; omega⟩, dr_⟩
   rw [if_pos c8] at H
   have c8b0 := decide_eq_true c8
   clear c8
   by_cases c9 : (bt a0 x3_1) ≤ 57
   case pos =>
    rw [if_pos c9] at H
    have c9b0 := decide_eq_true c9
    clear c9
    have H' := a0_ H
    clear H
    have p5 : 0 ≤ (x3_1 : Int) := dec_
    have q5 : x3_1 < (a0.size : Int) := dec_
    have hx5 := bt_at a0 x3_1
    replace p5 := eq_true p5
    replace q5 := eq_true q5
    go_wp2
    go_roundg k1
    case measure => have := HK1.out; omega
    case rel => exact ⟨(wrap64 (x3_1 + 1)), rs_, H', ⟨by have := HK1.out; omega⟩, dr_⟩
   rw [if_neg c9] at H
   have c9b0 := decide_eq_false c9
   clear c9
   by_cases c10 : (bt a0 x3_1) = 45
   case pos =>
    rw [if_pos c10] at H
    have c10b0 := beq_iff_eq.mpr c10
    have c10b1 := bne_eq_false_iff_eq.mpr c10
    clear c10
    have H' := a0_ H
    clear H
    have p5 : 0 ≤ (x3_1 : Int) := dec_
    have q5 : x3_1 < (a0.size : Int) := dec_
    have hx5 := bt_at a0 x3_1
    replace p5 := eq_true p5
    replace q5 := eq_true q5
    go_wp2
    go_roundg k1
    case measure => have := HK1.out; omega
    case rel => exact ⟨(wrap64 (x3_1 + 1)), rs_, H', ⟨by have := HK1.out; omega⟩, dr_⟩
   rw [if_neg c10] at H
   have c10b0 := beq_eq_false_iff_ne.mpr c10
   have c10b1 := bne_iff_ne.mpr c10
   by_cases c11 : ((bt a0 x3_1) = 95)
   case neg =>
    rw [if_neg c11] at H
    have c11b0 := beq_eq_false_iff_ne.mpr c11
    have c11b1 := bne_iff_ne.mpr c11
    obtain rfl := Option.some.inj H
    have p5 : 0 ≤ (x3_1 : Int) := dec_
    have q5 : x3_1 < (a0.size : Int) := dec_
    have hx5 := bt_at a0 x3_1
    replace p5 := eq_true p5
    replace q5 := eq_true q5
    go_wp2
    go_ret
    exact ⟨rs_, dr_⟩
   rw [if_pos c11] at H
   have c11b0 := beq_iff_eq.mpr c11
   have c11b1 := bne_eq_false_iff_eq.mpr c11
   clear c11
   have H' := a0_ H
   clear H
   have p5 : 0 ≤ (x3_1 : Int) := dec_
   have q5 : x3_1 < (a0.size : Int) := dec_
   have hx5 := bt_at a0 x3_1
   replace p5 := eq_true p5
   replace q5 := eq_true q5
   go_wp2
   go_roundg k1
   case measure => have := HK1.out; omega
   case rel => exact ⟨(wrap64 (x3_1 + 1)), rs_, H', ⟨by have := HK1.out; omega⟩, dr_⟩
end Go.Proofs.YtiegkjimpclmaaaGreatDoor.P
