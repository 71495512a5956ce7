/- FnExactRecordsOf: part 15 of 28 of my texts for this claim, joined; the theorem stands in the last. Conditions: none beyond the statement's. -/
import Derived.Test.YtiegkjimpclmaaaGreatDoorMFnExactRecordsOfx9
import Derived.Test.YtiegkjimpclmaaaGreatDoorMFnExactRecordsOfx11
import Derived.Test.YtiegkjimpclmaaaGreatDoorMFnExactRecordsOfx12
namespace Go.Proofs.YtiegkjimpclmaaaGreatDoor.P
open Go.RowKit Go.Proofs.YtiegkjimpclmaaaGreatDoorW.PrintWords Go.Proofs.YtiegkjimpclmaaaGreatDoorW.PrintLast Go.Proofs.YtiegkjimpclmaaaGreatDoorW.PrintMore
attribute [local go_sem] max2_int min2_int max_two min_two max_three min_three max_four min_four
set_option linter.unusedVariables false
set_option linter.unusedSimpArgs false
def laws_eqSetS.l0 : Nat → List (S83) → List (S83) → Int → Option (Bool)
 | 0, _, _, _ => none
 | k + 1, x0, x1, x5 => if x5 < (x0.length : Int) then (if 0 ≤ x5 then (if x5 < (x1.length : Int) then ((laws_eqSet.f k ((rd_T83 x0 x5).f0) ((rd_T83 x0 x5).f1) ((rd_T83 x0 x5).f2) ((rd_T83 x0 x5).f3) ((rd_T83 x1 x5).f0) ((rd_T83 x1 x5).f1) ((rd_T83 x1 x5).f2) ((rd_T83 x1 x5).f3)).bind fun t450 => (if t450 = true then (laws_eqSetS.l0 k x0 x1 (wrap64 (x5 + 1))) else (some false))) else (none)) else (none)) else (some true)
def laws_eqSetS.f (k : Nat) (l0 : List (S83)) (l1 : List (S83)) : Option (Bool) := if (l0.length : Int) = (l1.length : Int) then (laws_eqSetS.l0 k l0 l1 0) else (some false)
def laws_eqSetS.T6 : Bool × List (List Nat × List Nat) := (true, [([], []), ([], []), ([0, 1], [0, 1]), ([2], [2]), ([], []), ([], []), ([4, 5], [4, 5]), ([6], [6]), ([3, 7], [3, 7]), ([8], [8])])
def laws_eqSetS.B6 : List Nat := [0, 0, 3, 7, 0, 0, 48, 112, 255, 511]
theorem laws_eqSetS.tab6 : rtab .any (opsOf Tryz.f17 6) = laws_eqSetS.T6 := by kernel_rfl
theorem laws_eqSetS.bits6 : waitsOk laws_eqSetS.T6.2 laws_eqSetS.B6 = true := by kernel_rfl
set_option maxHeartbeats 8000000 in
set_option maxRecDepth 100000 in
theorem laws_eqSetS.calls (k : Nat) (A0 : Option Addr) (c0 : Nat) (l0 : List (S83)) (A1 : Option Addr) (c1 : Nat) (l1 : List (S83)) (r : Bool) (w : World) (hr0 : Kd.C k83 w A0 l0.length l0) (hc0 : l0.length ≤ c0) (hr1 : Kd.C k83 w A1 l1.length l1) (hc1 : l1.length ≤ c1) (h : laws_eqSetS.f k l0 l1 = some r) :
 Calls Tryz.prog 17 #[.slice A0 l0.length c0, .slice A1 l1.length c1] w fun e w' => e = .returned (.bool r) ∧ Below w.heap.size w w' := by
 have hu83 := Tryz.underlying83
 have HR0 := a0_ hr0
 have HC0 := a0_ hc0
 clear hr0 hc0
 have HR1 := a0_ hr1
 have HC1 := a0_ hc1
 clear hr1 hc1
 have HB := a0_ (Below.refl w.heap.size w)
 have H := h
 clear h
 unfold laws_eqSetS.f at H
 by_cases c3 : (l0.length : Int) = (l1.length : Int)
 case neg =>
  rw [if_neg c3] at H
  have c3b0 := beq_eq_false_iff_ne.mpr c3
  have c3b1 := bne_iff_ne.mpr c3
  have c3b2 : (l0.length == l1.length) = false := by first | simpa using c3 | (simp at c3 ⊢; omega)
  obtain rfl := Option.some.inj H
  go_enter Tryz.func17, Tryz.ntmps17
  go_wp2
  go_ret
  exact ⟨rr_, bq0_⟩
 rw [if_pos c3] at H
 have c3b0 := beq_iff_eq.mpr c3
 have c3b1 := bne_eq_false_iff_eq.mpr c3
 have c3b2 : (l0.length == l1.length) = true := by first | simpa using c3 | (simp at c3 ⊢; omega)
 clear c3
 have H' := a0_ H
 clear H
 go_enter Tryz.func17, Tryz.ntmps17
 go_wp2
 go_loopg [5] k (fun kq v5 w' => ∃ (x5_1 : Int), v5 = .int .i64 x5_1 ∧ Aside0 (laws_eqSetS.l0 kq l0 l1 x5_1 = some r) ∧ Aside0 (kq ≤ k) ∧ Aside0 (Below w.heap.size w w'))
 case atStart => exact ⟨(0), rs_, H', ⟨Nat.le_refl _⟩, ⟨bq0_⟩⟩
 case round =>
  clear H'
  try clear c1
  try clear c3
  try clear c3b0
  try clear c3b1
  try clear c3b2
  obtain ⟨x5_1, rfl, HA, HK1, HB⟩ := hrel
  cases gk with
  | zero => exact absurd HA.out (by simp [laws_eqSetS.l0])
  | succ k1 =>
   have H := HA.out
   clear HA
   simp only [laws_eqSetS.l0] at H
   by_cases c4 : x5_1 < (l0.length : Int)
   case neg =>
    rw [if_neg c4] at H
    have c4b0 := decide_eq_false c4
    clear c4
    obtain rfl := Option.some.inj H
    go_wp2
    go_ret
    exact ⟨rr_, bq0_⟩
   rw [if_pos c4] at H
   have c4b0 := decide_eq_true c4
   clear c4
   by_cases c5 : 0 ≤ x5_1
   case neg =>
    rw [if_neg c5] at H
    exact absurd H (by simp)
   rw [if_pos c5] at H
   have c5b0 := decide_eq_true c5
   clear c5
   by_cases c6 : x5_1 < (l1.length : Int)
   case neg =>
    rw [if_neg c6] at H
    exact absurd H (by simp)
   rw [if_pos c6] at H
   have c6b0 := decide_eq_true c6
   clear c6
   obtain ⟨t450, A70, H⟩ := Option.bind_eq_some_iff.mp H
   have A7 := a0_ A70
   clear A70
   by_cases c8 : t450 = true
   case neg =>
    replace c8 := Bool.eq_false_iff.mpr c8
    subst c8
    rw [if_neg (show ¬ (false = true) by decide)] at H
    obtain rfl := Option.some.inj H
    try go_wp2
    replace HB := a0_ (below_drew1 HB.out)
    have p448 : 0 ≤ (x5_1 : Int) := dec_
    have q448 : x5_1 < (l0.length : Int) := dec_
    obtain ⟨ad448, A448_3, c448_3, e448, hx448_0, hx448_1, hx448_2, hx448_3, hl448_3, hi448_3⟩ := at_T83 HR0.out x5_1 p448 q448
    have hw448_3 := hx448_3
    have hw448_2 := hx448_2
    have hw448_1 := hx448_1
    have hw448_0 := hx448_0
    cases e448
    obtain ⟨hx448_0, hx448_1, hx448_2, hx448_3⟩ := up4_ HB.out hx448_0 hx448_1 hx448_2 hx448_3
    have HR448_3 := a0_ hi448_3
    have HC448_3 := a0_ hl448_3
    clear hi448_3 hl448_3
    replace p448 := eq_true p448
    replace q448 := eq_true q448
    have p449 : 0 ≤ (x5_1 : Int) := dec_
    have q449 : x5_1 < (l1.length : Int) := dec_
    obtain ⟨ad449, A449_3, c449_3, e449, hx449_0, hx449_1, hx449_2, hx449_3, hl449_3, hi449_3⟩ := at_T83 HR1.out x5_1 p449 q449
    have hw449_3 := hx449_3
    have hw449_2 := hx449_2
    have hw449_1 := hx449_1
    have hw449_0 := hx449_0
    cases e449
    obtain ⟨hx449_0, hx449_1, hx449_2, hx449_3⟩ := up4_ HB.out hx449_0 hx449_1 hx449_2 hx449_3
    have HR449_3 := a0_ hi449_3
    have HC449_3 := a0_ hl449_3
    clear hi449_3 hl449_3
    replace p449 := eq_true p449
    replace q449 := eq_true q449
    refine start_ (n := 10) (S := fun w' => w'.cell? (ad448.add ((x5_1).toNat * 4)) = some (.string ((rd_T83 l0 x5_1).f0)) ∧ w'.cell? ⟨(ad448.add ((x5_1).toNat * 4)).block, (ad448.add ((x5_1).toNat * 4)).off + 1, none⟩ = some (.int .i64 ((rd_T83 l0 x5_1).f1)) ∧ w'.cell? ⟨(ad448.add ((x5_1).toNat * 4)).block, (ad448.add ((x5_1).toNat * 4)).off + 2, none⟩ = some (.int .i64 ((rd_T83 l0 x5_1).f2)) ∧ w'.cell? ⟨(ad448.add ((x5_1).toNat * 4)).block, (ad448.add ((x5_1).toNat * 4)).off + 3, none⟩ = some (.slice A448_3 ((rd_T83 l0 x5_1).f3).length c448_3) ∧ w'.cell? (ad449.add ((x5_1).toNat * 4)) = some (.string ((rd_T83 l1 x5_1).f0)) ∧ w'.cell? ⟨(ad449.add ((x5_1).toNat * 4)).block, (ad449.add ((x5_1).toNat * 4)).off + 1, none⟩ = some (.int .i64 ((rd_T83 l1 x5_1).f1)) ∧ w'.cell? ⟨(ad449.add ((x5_1).toNat * 4)).block, (ad449.add ((x5_1).toNat * 4)).off + 2, none⟩ = some (.int .i64 ((rd_T83 l1 x5_1).f2)) ∧ w'.cell? ⟨(ad449.add ((x5_1).toNat * 4)).block, (ad449.add ((x5_1).toNat * 4)).off + 3, none⟩ = some (.slice A449_3 ((rd_T83 l1 x5_1).f3).length c449_3)) (ds := []) #[false, false, false, false, false, false, false, false, false, false] (by kernel_rfl) rfl rfl ⟨((HB.out.cell (World.block_lt_of_cell? w _ hw448_0)).trans hw448_0), ((HB.out.cell (World.block_lt_of_cell? w _ hw448_1)).trans hw448_1), ((HB.out.cell (World.block_lt_of_cell? w _ hw448_2)).trans hw448_2), ((HB.out.cell (World.block_lt_of_cell? w _ hw448_3)).trans hw448_3), ((HB.out.cell (World.block_lt_of_cell? w _ hw449_0)).trans hw449_0), ((HB.out.cell (World.block_lt_of_cell? w _ hw449_1)).trans hw449_1), ((HB.out.cell (World.block_lt_of_cell? w _ hw449_2)).trans hw449_2), ((HB.out.cell (World.block_lt_of_cell? w _ hw449_3)).trans hw449_3)⟩ (fun hHeld => ?_); refine with_tabW laws_eqSetS.tab6 laws_eqSetS.bits6 (fun HT_ HW_ => ?_)
    generalize wr.drew = w11 at HB HR448_3 HR449_3 hx448_0 hx448_1 hx448_2 hx448_3 hx449_0 hx449_1 hx449_2 hx449_3 hHeld ⊢
    refine pureS_ 0 (some 17) ?_
    refine pureS_ 1 (some 18) ?_
    refine pureS_ 2 (some 19) ?_
    refine pureS_ 4 (some 21) ?_
    refine pureS_ 5 (some 22) ?_
    refine pureS_ 6 (some 23) ?_
    refine takeS_ 3 (some 20) ?_
    refine takeS_ 7 (some 24) ?_
    refine oneS_ 8 (some 25) (fun K hK => ?_)
    refine goes_ Tryz.func68 (by kernel_rfl) rfl #[.agg #[.string ((rd_T83 l0 x5_1).f0), .int .i64 ((rd_T83 l0 x5_1).f1), .int .i64 ((rd_T83 l0 x5_1).f2), .slice A448_3 ((rd_T83 l0 x5_1).f3).length c448_3], .agg #[.string ((rd_T83 l1 x5_1).f0), .int .i64 ((rd_T83 l1 x5_1).f1), .int .i64 ((rd_T83 l1 x5_1).f2), .slice A449_3 ((rd_T83 l1 x5_1).f3).length c449_3]] (by rfl) rfl rfl argsS_ ?_
    with_reducible refine (laws_eqSet.calls k1 ((rd_T83 l0 x5_1).f0) ((rd_T83 l0 x5_1).f1) ((rd_T83 l0 x5_1).f2) _ _ ((rd_T83 l0 x5_1).f3) ((rd_T83 l1 x5_1).f0) ((rd_T83 l1 x5_1).f1) ((rd_T83 l1 x5_1).f2) _ _ ((rd_T83 l1 x5_1).f3) false _ ?side1 ?side2 ?side3 ?side4 A7.out).mono ?_
    (case side1 => exact kC_ HR448_3.out HB.out)
    (case side2 => exact HC448_3.out)
    (case side3 => exact kC_ HR449_3.out HB.out)
    (case side4 => exact HC449_3.out)
    rintro e w12 ⟨rfl, hb⟩
    refine ⟨_, rfl, ?_⟩
    replace HB := a0_ (below_step bq0_ hb)
    (try clear hb)
    (try clear hb2)
    (try clear hk)
    (try clear hi)
    refine hK.out _ _ ⟨((HB.out.cell (World.block_lt_of_cell? w _ hw448_0)).trans hw448_0), ((HB.out.cell (World.block_lt_of_cell? w _ hw448_1)).trans hw448_1), ((HB.out.cell (World.block_lt_of_cell? w _ hw448_2)).trans hw448_2), ((HB.out.cell (World.block_lt_of_cell? w _ hw448_3)).trans hw448_3), ((HB.out.cell (World.block_lt_of_cell? w _ hw449_0)).trans hw449_0), ((HB.out.cell (World.block_lt_of_cell? w _ hw449_1)).trans hw449_1), ((HB.out.cell (World.block_lt_of_cell? w _ hw449_2)).trans hw449_2), ((HB.out.cell (World.block_lt_of_cell? w _ hw449_3)).trans hw449_3)⟩ (fun hHeld => ?_)
    clear hK K
    refine normS_ ?_
    refine pureS_ 9 (some 26) ?_
    refine done_ (done_of HT_.out (by kernel_rfl)) ?_
    try go_wp2
    go_ret
    exact ⟨rr_, bq0_⟩
   subst c8
   rw [if_pos rfl] at H
   have H' := a0_ H
   clear H
   try go_wp2
   replace HB := a0_ (below_drew1 HB.out)
   have p448 : 0 ≤ (x5_1 : Int) := dec_
   have q448 : x5_1 < (l0.length : Int) := dec_
   obtain ⟨ad448, A448_3, c448_3, e448, hx448_0, hx448_1, hx448_2, hx448_3, hl448_3, hi448_3⟩ := at_T83 HR0.out x5_1 p448 q448
   have hw448_3 := hx448_3
   have hw448_2 := hx448_2
   have hw448_1 := hx448_1
   have hw448_0 := hx448_0
   cases e448
   obtain ⟨hx448_0, hx448_1, hx448_2, hx448_3⟩ := up4_ HB.out hx448_0 hx448_1 hx448_2 hx448_3
   have HR448_3 := a0_ hi448_3
   have HC448_3 := a0_ hl448_3
   clear hi448_3 hl448_3
   replace p448 := eq_true p448
   replace q448 := eq_true q448
   have p449 : 0 ≤ (x5_1 : Int) := dec_
   have q449 : x5_1 < (l1.length : Int) := dec_
   obtain ⟨ad449, A449_3, c449_3, e449, hx449_0, hx449_1, hx449_2, hx449_3, hl449_3, hi449_3⟩ := at_T83 HR1.out x5_1 p449 q449
   have hw449_3 := hx449_3
   have hw449_2 := hx449_2
   have hw449_1 := hx449_1
   have hw449_0 := hx449_0
   cases e449
   obtain ⟨hx449_0, hx449_1, hx449_2, hx449_3⟩ := up4_ HB.out hx449_0 hx449_1 hx449_2 hx449_3
   have HR449_3 := a0_ hi449_3
   have HC449_3 := a0_ hl449_3
   clear hi449_3 hl449_3
   replace p449 := eq_true p449
   replace q449 := eq_true q449
   refine start_ (n := 10) (S := fun w' => w'.cell? (ad448.add ((x5_1).toNat * 4)) = some (.string ((rd_T83 l0 x5_1).f0)) ∧ w'.cell? ⟨(ad448.add ((x5_1).toNat * 4)).block, (ad448.add ((x5_1).toNat * 4)).off + 1, none⟩ = some (.int .i64 ((rd_T83 l0 x5_1).f1)) ∧ w'.cell? ⟨(ad448.add ((x5_1).toNat * 4)).block, (ad448.add ((x5_1).toNat * 4)).off + 2, none⟩ = some (.int .i64 ((rd_T83 l0 x5_1).f2)) ∧ w'.cell? ⟨(ad448.add ((x5_1).toNat * 4)).block, (ad448.add ((x5_1).toNat * 4)).off + 3, none⟩ = some (.slice A448_3 ((rd_T83 l0 x5_1).f3).length c448_3) ∧ w'.cell? (ad449.add ((x5_1).toNat * 4)) = some (.string ((rd_T83 l1 x5_1).f0)) ∧ w'.cell? ⟨(ad449.add ((x5_1).toNat * 4)).block, (ad449.add ((x5_1).toNat * 4)).off + 1, none⟩ = some (.int .i64 ((rd_T83 l1 x5_1).f1)) ∧ w'.cell? ⟨(ad449.add ((x5_1).toNat * 4)).block, (ad449.add ((x5_1).toNat * 4)).off + 2, none⟩ = some (.int .i64 ((rd_T83 l1 x5_1).f2)) ∧ w'.cell? ⟨(ad449.add ((x5_1).toNat * 4)).block, (ad449.add ((x5_1).toNat * 4)).off + 3, none⟩ = some (.slice A449_3 ((rd_T83 l1 x5_1).f3).length c449_3)) (ds := []) #[false, false, false, false, false, false, false, false, false, false] (by kernel_rfl) rfl rfl ⟨((HB.out.cell (World.block_lt_of_cell? w _ hw448_0)).trans hw448_0), ((HB.out.cell (World.block_lt_of_cell? w _ hw448_1)).trans hw448_1), ((HB.out.cell (World.block_lt_of_cell? w _ hw448_2)).trans hw448_2), ((HB.out.cell (World.block_lt_of_cell? w _ hw448_3)).trans hw448_3), ((HB.out.cell (World.block_lt_of_cell? w _ hw449_0)).trans hw449_0), ((HB.out.cell (World.block_lt_of_cell? w _ hw449_1)).trans hw449_1), ((HB.out.cell (World.block_lt_of_cell? w _ hw449_2)).trans hw449_2), ((HB.out.cell (World.block_lt_of_cell? w _ hw449_3)).trans hw449_3)⟩ (fun hHeld => ?_); refine with_tabW laws_eqSetS.tab6 laws_eqSetS.bits6 (fun HT_ HW_ => ?_)
   generalize wr.drew = w9 at HB HR448_3 HR449_3 hx448_0 hx448_1 hx448_2 hx448_3 hx449_0 hx449_1 hx449_2 hx449_3 hHeld ⊢
   refine pureS_ 0 (some 17) ?_
   refine pureS_ 1 (some 18) ?_
   refine pureS_ 2 (some 19) ?_
   refine pureS_ 4 (some 21) ?_
   refine pureS_ 5 (some 22) ?_
   refine pureS_ 6 (some 23) ?_
   refine takeS_ 3 (some 20) ?_
   refine takeS_ 7 (some 24) ?_
   refine oneS_ 8 (some 25) (fun K hK => ?_)
   refine goes_ Tryz.func68 (by kernel_rfl) rfl #[.agg #[.string ((rd_T83 l0 x5_1).f0), .int .i64 ((rd_T83 l0 x5_1).f1), .int .i64 ((rd_T83 l0 x5_1).f2), .slice A448_3 ((rd_T83 l0 x5_1).f3).length c448_3], .agg #[.string ((rd_T83 l1 x5_1).f0), .int .i64 ((rd_T83 l1 x5_1).f1), .int .i64 ((rd_T83 l1 x5_1).f2), .slice A449_3 ((rd_T83 l1 x5_1).f3).length c449_3]] (by rfl) rfl rfl argsS_ ?_
   with_reducible refine (laws_eqSet.calls k1 ((rd_T83 l0 x5_1).f0) ((rd_T83 l0 x5_1).f1) ((rd_T83 l0 x5_1).f2) _ _ ((rd_T83 l0 x5_1).f3) ((rd_T83 l1 x5_1).f0) ((rd_T83 l1 x5_1).f1) ((rd_T83 l1 x5_1).f2) _ _ ((rd_T83 l1 x5_1).f3) true _ ?side1 ?side2 ?side3 ?side4 A7.out).mono ?_
   (case side1 => exact kC_ HR448_3.out HB.out)
   (case side2 => exact HC448_3.out)
   (case side3 => exact kC_ HR449_3.out HB.out)
   (case side4 => exact HC449_3.out)
   rintro e w10 ⟨rfl, hb⟩
   refine ⟨_, rfl, ?_⟩
   replace HB := a0_ (below_step bq0_ hb)
   (try clear hb)
   (try clear hb2)
   (try clear hk)
   (try clear hi)
   refine hK.out _ _ ⟨((HB.out.cell (World.block_lt_of_cell? w _ hw448_0)).trans hw448_0), ((HB.out.cell (World.block_lt_of_cell? w _ hw448_1)).trans hw448_1), ((HB.out.cell (World.block_lt_of_cell? w _ hw448_2)).trans hw448_2), ((HB.out.cell (World.block_lt_of_cell? w _ hw448_3)).trans hw448_3), ((HB.out.cell (World.block_lt_of_cell? w _ hw449_0)).trans hw449_0), ((HB.out.cell (World.block_lt_of_cell? w _ hw449_1)).trans hw449_1), ((HB.out.cell (World.block_lt_of_cell? w _ hw449_2)).trans hw449_2), ((HB.out.cell (World.block_lt_of_cell? w _ hw449_3)).trans hw449_3)⟩ (fun hHeld => ?_)
   clear hK K
   refine normS_ ?_
   refine pureS_ 9 (some 26) ?_
   refine done_ (done_of HT_.out (by kernel_rfl)) ?_
   try go_wp2
   go_roundg k1
   case measure => have := HK1.out; omega
   case rel => exact ⟨(wrap64 (x5_1 + 1)), rs_, H', ⟨by have := HK1.out; omega⟩, ⟨bq0_⟩⟩
def spec_l1Labels.l0 : Nat → ByteArray → List ByteArray → List ByteArray → Int → Int → Option (List ByteArray × Bool)
 | 0, _, _, _, _, _ => none
 | k + 1, x0, x4, x11, x12, x13 => if x13 < x12 then (if 0 ≤ x13 then (if x13 < (x11.length : Int) then ((spec_l1Label.f k (rdOf ByteArray.empty x11 x13)).bind fun t119 => (if t119 = true then (spec_l1Labels.l0 k x0 x4 x11 x12 (wrap64 (x13 + 1))) else (some (([] : List ByteArray), false)))) else (none)) else (none)) else (if (x0.size : Int) ≤ 60 then (some (x4, decide ((x4.length : Int) ≤ 8))) else (some (x4, false)))
def spec_l1Labels.f (k : Nat) (a0 : ByteArray) : Option (List ByteArray × Bool) := if a0.toList = ([] : List UInt8) then (some (([] : List ByteArray), true)) else ((spec_l1Split.f k a0 46).bind fun t115 => (spec_l1Labels.l0 k a0 t115 t115 (t115.length : Int) 0))
theorem spec_l1Labels.mono_l : ∀ k, (∀ y0 y1 y2 y3 y4, LeO (spec_l1Labels.l0 k y0 y1 y2 y3 y4) (spec_l1Labels.l0 (k + 1) y0 y1 y2 y3 y4))
 | 0 => fun _ _ _ _ _ r h => by simp [spec_l1Labels.l0] at h
 | k + 1 => by
  have ih0 := spec_l1Labels.mono_l k
  · intro y0 y1 y2 y3 y4
    unfold spec_l1Labels.l0
    repeat' first
    | (with_reducible exact ih0 _ _ _ _ _)
    | (with_reducible exact spec_l1Label.mono _ _)
    | (with_reducible exact spec_l1Split.mono _ _ _)
    | (with_reducible exact LeO.refl _)
    | (with_reducible exact LeO.none _)
    | (with_reducible refine LeO.ite ?_ ?_)
    | (with_reducible refine LeO.bind ?_ (fun _ => ?_))
    | exact ih0 _ _ _ _ _
    | exact spec_l1Label.mono _ _
    | exact spec_l1Split.mono _ _ _
    | exact LeO.none _
    | refine LeO.ite ?_ ?_
    | refine LeO.bind ?_ (fun _ => ?_)
theorem spec_l1Labels.mono : ∀ a0 k, LeO (spec_l1Labels.f k a0) (spec_l1Labels.f (k + 1) a0) := by
 intro a0 k
 have ih0 := spec_l1Labels.mono_l k
 unfold spec_l1Labels.f
 repeat' first
  | (with_reducible exact ih0 _ _ _ _ _)
  | (with_reducible exact spec_l1Label.mono _ _)
  | (with_reducible exact spec_l1Split.mono _ _ _)
  | (with_reducible exact LeO.refl _)
  | (with_reducible exact LeO.none _)
  | (with_reducible refine LeO.ite ?_ ?_)
  | (with_reducible refine LeO.bind ?_ (fun _ => ?_))
  | exact ih0 _ _ _ _ _
  | exact spec_l1Label.mono _ _
  | exact spec_l1Split.mono _ _ _
  | exact LeO.none _
  | refine LeO.ite ?_ ?_
  | refine LeO.bind ?_ (fun _ => ?_)
set_option maxHeartbeats 8000000 in
set_option maxRecDepth 100000 in
theorem spec_l1Labels.calls (k : Nat) (a0 : ByteArray) (r1 : List ByteArray) (r2 : Bool) (w : World) (h : spec_l1Labels.f k a0 = some (r1, r2)) :
 Calls Tryz.prog 171 #[.string a0] w fun e w' => ∃ v0_ : Value, e = .returned (.tuple #[v0_, .bool r2]) ∧ Kd.R Kd.string 9 w' w.heap.size (fun _ => True) v0_ r1 ∧ Below w.heap.size w w' := by
 have HB := a0_ (Below.refl w.heap.size w)
 have H := h
 clear h
 unfold spec_l1Labels.f at H
 by_cases c2 : a0.toList = ([] : List UInt8)
 case pos =>
  rw [if_pos c2] at H
  have c2b0 := beq_iff_eq.mpr c2
  have c2b1 := bne_eq_false_iff_eq.mpr c2
  clear c2
  simp only [Option.some.injEq, Prod.mk.injEq] at H
  obtain ⟨rfl, rfl⟩ := H
  go_enter Tryz.func171, Tryz.ntmps171
  go_wp2
  go_ret2
  exact ⟨_, rr_, by first | exact Kd.R_nil _ _ _ _ _ | exact Kd.N_nil _ _ _ _ _ | exact Kd.V_nil _ _ _ _ _ | exact Kd.Q_nil _ _ _ _ _ | exact Kd.S_nil _ _ _ _ _, bq0_⟩
 rw [if_neg c2] at H
 have c2b0 := beq_eq_false_iff_ne.mpr c2
 have c2b1 := bne_iff_ne.mpr c2
 obtain ⟨t115, A30, H⟩ := Option.bind_eq_some_iff.mp H
 have A3 := a0_ A30
 clear A30
 have H' := a0_ H
 clear H
 go_enter Tryz.func171, Tryz.ntmps171
 go_wp2_with (first | ((with_reducible refine gate_callee (f := 116) rfl ?_); refine goesL_ (some 10) rfl rfl Tryz.func116 (by kernel_rfl) rfl #[.string a0, .int .u8 46] rfl argsS_ ?_; (with_reducible refine (spec_l1Split.calls k a0 46 t115 _ A3.out).mono ?_); rintro e w4 ⟨v116, rfl, ho0, hb⟩; refine ⟨_, rfl, ?_⟩; have HO117 := a0_ (Kd.R_lower ho0 (below_size bq0_)); replace HB := a0_ (below_step bq0_ hb); clear hb; (try clear ho0); obtain ⟨Ao5, co5, eo5⟩ := Kd.R_slice HO117.out; subst eo5))
 go_loopg [13] k (fun kq v13 w' => ∃ (x13_1 : Int), v13 = .int .i64 x13_1 ∧ Aside0 (spec_l1Labels.l0 kq a0 t115 t115 (t115.length : Int) x13_1 = some (r1, r2)) ∧ Aside0 (kq ≤ k) ∧ Aside0 (Kd.R Kd.string 9 w' w.heap.size (fun _ => True) (.slice Ao5 t115.length co5) t115) ∧ Aside0 (Kd.R Kd.string 9 w' w.heap.size (fun _ => True) (.slice Ao5 t115.length co5) t115) ∧ Aside0 (Below w.heap.size w w'))
 case atStart => exact ⟨(0), rs_, H', ⟨Nat.le_refl _⟩, ⟨by (with_reducible repeat (first | apply Kd.R_alloc | apply Kd.R_drewN | apply Kd.R_drew)); exact HO117.out⟩, ⟨by (with_reducible repeat (first | apply Kd.R_alloc | apply Kd.R_drewN | apply Kd.R_drew)); exact HO117.out⟩, ⟨bq0_⟩⟩
 case round =>
  clear H'
  try clear c2
  try clear c2b0
  try clear c2b1
  obtain ⟨x13_1, rfl, HA, HK1, HO_4, HO_11, HB⟩ := hrel
  cases gk with
  | zero => exact absurd HA.out (by simp [spec_l1Labels.l0])
  | succ k1 =>
   have H := HA.out
   clear HA
   simp only [spec_l1Labels.l0] at H
   by_cases c6 : x13_1 < (t115.length : Int)
   case neg =>
    rw [if_neg c6] at H
    have c6b0 := decide_eq_false c6
    clear c6
    by_cases c11 : (a0.size : Int) ≤ 60
    case neg =>
     rw [if_neg c11] at H
     have c11b0 := decide_eq_false c11
     have c11b1 : decide (a0.size ≤ 60) = false := decide_eq_false (by omega)
     clear c11
     simp only [Option.some.injEq, Prod.mk.injEq] at H
     obtain ⟨rfl, rfl⟩ := H
     go_wp2
     go_ret2
     exact ⟨_, rr_, by (with_reducible repeat (first | apply Kd.R_alloc | apply Kd.R_drewN | apply Kd.R_drew)); exact HO_4.out, bq0_⟩
    rw [if_pos c11] at H
    have c11b0 := decide_eq_true c11
    have c11b1 : decide (a0.size ≤ 60) = true := decide_eq_true (by omega)
    clear c11
    simp only [Option.some.injEq, Prod.mk.injEq] at H
    obtain ⟨rfl, rfl⟩ := H
    go_wp2
    go_ret2
    exact ⟨_, rr_, by (with_reducible repeat (first | apply Kd.R_alloc | apply Kd.R_drewN | apply Kd.R_drew)); exact HO_4.out, bq0_⟩
   rw [if_pos c6] at H
   have c6b0 := decide_eq_true c6
   clear c6
   by_cases c7 : 0 ≤ x13_1
   case neg =>
    rw [if_neg c7] at H
    exact absurd H (by simp)
   rw [if_pos c7] at H
   have c7b0 := decide_eq_true c7
   clear c7
   by_cases c8 : x13_1 < (t115.length : Int)
   case neg =>
    rw [if_neg c8] at H
    exact absurd H (by simp)
   rw [if_pos c8] at H
   have c8b0 := decide_eq_true c8
   clear c8
   obtain ⟨t119, A90, H⟩ := Option.bind_eq_some_iff.mp H
   have A9 := a0_ A90
   clear A90
   by_cases c10 : t119 = true
   case neg =>
    replace c10 := Bool.eq_false_iff.mpr c10
    subst c10
    rw [if_neg (show ¬ (false = true) by decide)] at H
    simp only [Option.some.injEq, Prod.mk.injEq] at H
    obtain ⟨rfl, rfl⟩ := H
    have p118 : 0 ≤ (x13_1 : Int) := dec_
    have q118 : x13_1 < (t115.length : Int) := dec_
    obtain ⟨ad118, e118, hx118_0⟩ := Kd.at_string (Kd.R_reads' HO_11.out).2.2 x13_1 p118 q118
    cases e118
    replace p118 := eq_true p118
    replace q118 := eq_true q118
    go_wp2_with (first | ((with_reducible refine gate_callee (f := 200) rfl ?_); refine goesL_ (some 18) rfl rfl Tryz.func200 (by kernel_rfl) rfl #[.string (rdOf ByteArray.empty t115 x13_1)] rfl argsS_ ?_; (with_reducible refine (spec_l1Label.calls k1 (rdOf ByteArray.empty t115 x13_1) false _ A9.out).mono ?_); rintro e w' ⟨rfl, ⟨nd, rfl⟩⟩; refine ⟨_, rfl, ?_⟩))
    go_ret2
    exact ⟨_, rr_, by first | exact Kd.R_nil _ _ _ _ _ | exact Kd.N_nil _ _ _ _ _ | exact Kd.V_nil _ _ _ _ _ | exact Kd.Q_nil _ _ _ _ _ | exact Kd.S_nil _ _ _ _ _, bq0_⟩
   subst c10
   rw [if_pos rfl] at H
   have H' := a0_ H
   clear H
   have p118 : 0 ≤ (x13_1 : Int) := dec_
   have q118 : x13_1 < (t115.length : Int) := dec_
   obtain ⟨ad118, e118, hx118_0⟩ := Kd.at_string (Kd.R_reads' HO_11.out).2.2 x13_1 p118 q118
   cases e118
   replace p118 := eq_true p118
   replace q118 := eq_true q118
   go_wp2_with (first | ((with_reducible refine gate_callee (f := 200) rfl ?_); refine goesL_ (some 18) rfl rfl Tryz.func200 (by kernel_rfl) rfl #[.string (rdOf ByteArray.empty t115 x13_1)] rfl argsS_ ?_; (with_reducible refine (spec_l1Label.calls k1 (rdOf ByteArray.empty t115 x13_1) true _ A9.out).mono ?_); rintro e w' ⟨rfl, ⟨nd, rfl⟩⟩; refine ⟨_, rfl, ?_⟩))
   go_roundg k1
   case measure => have := HK1.out; omega
   case rel => exact ⟨(wrap64 (x13_1 + 1)), rs_, H', ⟨by have := HK1.out; omega⟩, ⟨by (with_reducible repeat (first | apply Kd.R_alloc | apply Kd.R_drewN | apply Kd.R_drew)); exact HO_4.out⟩, ⟨by (with_reducible repeat (first | apply Kd.R_alloc | apply Kd.R_drewN | apply Kd.R_drew)); exact HO_11.out⟩, ⟨bq0_⟩⟩
def slices_Compare_string_string.l0 : Nat → List ByteArray → List ByteArray → List ByteArray → Int → Int → Option (Int)
 | 0, _, _, _, _, _ => none
 | k + 1, x0, x1, x9, x10, x11 => if x11 < x10 then (if 0 ≤ x11 then (if x11 < (x9.length : Int) then (if x11 ≥ (x1.length : Int) then (some 1) else (if x11 < (x1.length : Int) then ((cmp_Compare_string.f (rdOf ByteArray.empty x9 x11) (rdOf ByteArray.empty x1 x11)).bind fun t377 => (if t377 = 0 then (slices_Compare_string_string.l0 k x0 x1 x9 x10 (wrap64 (x11 + 1))) else (some t377))) else (none))) else (none)) else (none)) else (if (x0.length : Int) < (x1.length : Int) then (some (-1)) else (some 0))
def slices_Compare_string_string.f (k : Nat) (l0 : List ByteArray) (l1 : List ByteArray) : Option (Int) := slices_Compare_string_string.l0 k l0 l1 l0 (l0.length : Int) 0
set_option maxHeartbeats 8000000 in
set_option maxRecDepth 100000 in
theorem slices_Compare_string_string.calls (k : Nat) (A0 : Option Addr) (c0 : Nat) (l0 : List ByteArray) (A1 : Option Addr) (c1 : Nat) (l1 : List ByteArray) (r : Int) (w : World) (hr0 : Kd.C Kd.string w A0 l0.length l0) (hc0 : l0.length ≤ c0) (hr1 : Kd.C Kd.string w A1 l1.length l1) (hc1 : l1.length ≤ c1) (h : slices_Compare_string_string.f k l0 l1 = some r) :
 Calls Tryz.prog 178 #[.slice A0 l0.length c0, .slice A1 l1.length c1] w fun e w' => e = .returned (.int .i64 r) ∧ Drawn0 w w' := by
 have HR0 := a0_ hr0
 have HC0 := a0_ hc0
 clear hr0 hc0
 have HR1 := a0_ hr1
 have HC1 := a0_ hc1
 clear hr1 hc1
 have H := h
 clear h
 unfold slices_Compare_string_string.f at H
 have H' := a0_ H
 clear H
 go_enter Tryz.func178, Tryz.ntmps178
 go_wp2
 go_loopg [11] k (fun kq v11 w' => ∃ (x11_1 : Int), v11 = .int .i64 x11_1 ∧ Aside0 (slices_Compare_string_string.l0 kq l0 l1 l0 (l0.length : Int) x11_1 = some r) ∧ Aside0 (kq ≤ k) ∧ Drawn0 w w')
 case atStart => exact ⟨(0), rs_, H', ⟨Nat.le_refl _⟩, dr_⟩
 case round =>
  clear H'
  try clear c1
  obtain ⟨x11_1, rfl, HA, HK1, ⟨m1, rfl⟩⟩ := hrel
  cases gk with
  | zero => exact absurd HA.out (by simp [slices_Compare_string_string.l0])
  | succ k1 =>
   have H := HA.out
   clear HA
   simp only [slices_Compare_string_string.l0] at H
   by_cases c3 : x11_1 < (l0.length : Int)
   case neg =>
    rw [if_neg c3] at H
    have c3b0 := decide_eq_false c3
    clear c3
    by_cases c10 : (l0.length : Int) < (l1.length : Int)
    case neg =>
     rw [if_neg c10] at H
     have c10b0 := decide_eq_false c10
     have c10b1 : decide (l0.length < l1.length) = false := decide_eq_false (fun h => c10 (Int.ofNat_lt.mpr h))
     clear c10
     obtain rfl := Option.some.inj H
     go_wp2
     go_ret
     exact ⟨rs_, dr_⟩
    rw [if_pos c10] at H
    have c10b0 := decide_eq_true c10
    have c10b1 : decide (l0.length < l1.length) = true := decide_eq_true (Int.ofNat_lt.mp c10)
    clear c10
    obtain rfl := Option.some.inj H
    go_wp2
    go_ret
    exact ⟨rs_, dr_⟩
   rw [if_pos c3] at H
   have c3b0 := decide_eq_true c3
   clear c3
   by_cases c4 : 0 ≤ x11_1
   case neg =>
    rw [if_neg c4] at H
    exact absurd H (by simp)
   rw [if_pos c4] at H
   have c4b0 := decide_eq_true c4
   clear c4
   by_cases c5 : x11_1 < (l0.length : Int)
   case neg =>
    rw [if_neg c5] at H
    exact absurd H (by simp)
   rw [if_pos c5] at H
   have c5b0 := decide_eq_true c5
   clear c5
   by_cases c6 : x11_1 ≥ (l1.length : Int)
   case pos =>
    rw [if_pos c6] at H
    have c6b0 := decide_eq_true c6
    clear c6
    obtain rfl := Option.some.inj H
    have p375 : 0 ≤ (x11_1 : Int) := dec_
    have q375 : x11_1 < (l0.length : Int) := dec_
    obtain ⟨ad375, e375, hx375_0⟩ := Kd.at_string HR0.out x11_1 p375 q375
    cases e375
    replace p375 := eq_true p375
    replace q375 := eq_true q375
    go_wp2
    go_ret
    exact ⟨rs_, dr_⟩
   rw [if_neg c6] at H
   have c6b0 := decide_eq_false c6
   clear c6
   by_cases c7 : x11_1 < (l1.length : Int)
   case neg =>
    rw [if_neg c7] at H
    exact absurd H (by simp)
   rw [if_pos c7] at H
   have c7b0 := decide_eq_true c7
   clear c7
   obtain ⟨t377, A80, H⟩ := Option.bind_eq_some_iff.mp H
   have A8 := a0_ A80
   clear A80
   by_cases c9 : t377 = 0
   case neg =>
    rw [if_neg c9] at H
    have c9b0 := beq_eq_false_iff_ne.mpr c9
    have c9b1 := bne_iff_ne.mpr c9
    obtain rfl := Option.some.inj H
    have p375 : 0 ≤ (x11_1 : Int) := dec_
    have q375 : x11_1 < (l0.length : Int) := dec_
    obtain ⟨ad375, e375, hx375_0⟩ := Kd.at_string HR0.out x11_1 p375 q375
    cases e375
    replace p375 := eq_true p375
    replace q375 := eq_true q375
    have p376 : 0 ≤ (x11_1 : Int) := dec_
    have q376 : x11_1 < (l1.length : Int) := dec_
    obtain ⟨ad376, e376, hx376_0⟩ := Kd.at_string HR1.out x11_1 p376 q376
    cases e376
    replace p376 := eq_true p376
    replace q376 := eq_true q376
    go_wp2_with (first | ((with_reducible refine gate_callee (f := 208) rfl ?_); refine goesL_ (some 26) rfl rfl Tryz.func208 (by kernel_rfl) rfl #[.string (rdOf ByteArray.empty l0 x11_1), .string (rdOf ByteArray.empty l1 x11_1)] rfl argsS_ ?_; (with_reducible refine (cmp_Compare_string.calls (rdOf ByteArray.empty l0 x11_1) (rdOf ByteArray.empty l1 x11_1) t377 _ A8.out).mono ?_); rintro e w' ⟨rfl, ⟨nd, rfl⟩⟩; refine ⟨_, rfl, ?_⟩))
    go_ret
    exact ⟨rs_, dr_⟩
   rw [if_pos c9] at H
   have c9b0 := beq_iff_eq.mpr c9
   have c9b1 := bne_eq_false_iff_eq.mpr c9
   clear c9
   have H' := a0_ H
   clear H
   have p375 : 0 ≤ (x11_1 : Int) := dec_
   have q375 : x11_1 < (l0.length : Int) := dec_
   obtain ⟨ad375, e375, hx375_0⟩ := Kd.at_string HR0.out x11_1 p375 q375
   cases e375
   replace p375 := eq_true p375
   replace q375 := eq_true q375
   have p376 : 0 ≤ (x11_1 : Int) := dec_
   have q376 : x11_1 < (l1.length : Int) := dec_
   obtain ⟨ad376, e376, hx376_0⟩ := Kd.at_string HR1.out x11_1 p376 q376
   cases e376
   replace p376 := eq_true p376
   replace q376 := eq_true q376
   go_wp2_with (first | ((with_reducible refine gate_callee (f := 208) rfl ?_); refine goesL_ (some 26) rfl rfl Tryz.func208 (by kernel_rfl) rfl #[.string (rdOf ByteArray.empty l0 x11_1), .string (rdOf ByteArray.empty l1 x11_1)] rfl argsS_ ?_; (with_reducible refine (cmp_Compare_string.calls (rdOf ByteArray.empty l0 x11_1) (rdOf ByteArray.empty l1 x11_1) t377 _ A8.out).mono ?_); rintro e w' ⟨rfl, ⟨nd, rfl⟩⟩; refine ⟨_, rfl, ?_⟩))
   go_roundg k1
   case measure => have := HK1.out; omega
   case rel => exact ⟨(wrap64 (x11_1 + 1)), rs_, H', ⟨by have := HK1.out; omega⟩, dr_⟩
def impl_GoodName_1.f (a0 : ByteArray) : Option (Bool) := (impl_isLabel.f a0).bind fun t1311 => (some (!t1311))
set_option maxHeartbeats 8000000 in
set_option maxRecDepth 100000 in
theorem impl_GoodName_1.calls (a0 : ByteArray) (r : Bool) (w : World) (h : impl_GoodName_1.f a0 = some r) :
 Calls Tryz.prog 146 #[.string a0] w fun e w' => e = .returned (.bool r) ∧ Below w.heap.size w w' := by
 have HB := a0_ (Below.refl w.heap.size w)
 have H := h
 clear h
 unfold impl_GoodName_1.f at H
 obtain ⟨t1311, A20, H⟩ := Option.bind_eq_some_iff.mp H
 have A2 := a0_ A20
 clear A20
 obtain rfl := Option.some.inj H
 go_enter Tryz.func146, Tryz.ntmps146
 go_wp2_with (first | ((with_reducible refine gate_callee (f := 147) rfl ?_); refine goesL_ (some 4) rfl rfl Tryz.func147 (by kernel_rfl) rfl #[.string a0] rfl argsS_ ?_; (with_reducible refine (impl_isLabel.calls a0 t1311 _ A2.out).mono ?_); rintro e w3 ⟨rfl, hb⟩; refine ⟨_, rfl, ?_⟩; replace HB := a0_ (below_step bq0_ hb); clear hb))
 go_ret
 exact ⟨rr_, bq0_⟩
end Go.Proofs.YtiegkjimpclmaaaGreatDoor.P
namespace Go.Proofs.YtiegkjimpclmaaaGreatDoor.Pure
open Go.RowKit Go.Proofs.YtiegkjimpclmaaaGreatDoor.P Go.Proofs.YtiegkjimpclmaaaGreatDoorW.PrintWords Go.Proofs.YtiegkjimpclmaaaGreatDoorW.PrintLast
set_option linter.unusedVariables false
set_option linter.unusedSimpArgs false
theorem mS_w {n : Nat} (h : n < 4611686018427387904) : wrap64 ((n : Int) + 1) = ((n + 1 : Nat) : Int) := by unfold wrap64; omega
theorem mS_rd (l : List ByteArray) (i : Nat) (h : i < l.length) : rdOf ByteArray.empty l (i : Int) = l[i] := by
 unfold rdOf
 rw [Int.toNat_natCast, List.getD_eq_getElem?_getD, List.getElem?_eq_getElem h]
 rfl
theorem eqS_loop (l : List ByteArray) (hl : l.length < 1099511627776) : ∀ (m i : Nat), i + m = l.length → laws_eqStringS.l0 (m + 1) l l (i : Int) = some true
 | 0, i, h => by
  unfold laws_eqStringS.l0
  rw [if_neg (by omega)]
 | m + 1, i, h => by
  unfold laws_eqStringS.l0
  rw [if_pos (by omega), if_pos (by omega), if_pos (by omega), if_pos rfl, mS_w (by omega), eqS_loop l hl m (i + 1) (by omega)]
theorem eqS_ev (l : List ByteArray) (hl : l.length < 1099511627776) : Ev (fun k => laws_eqStringS.f k l l) true := by
 refine Ev.of (fun k => laws_eqStringS.mono _ _ _) (k := l.length + 1) ?_
 unfold laws_eqStringS.f
 rw [if_pos rfl]
 exact eqS_loop l hl l.length 0 (by omega)
theorem markT_loop : ∀ (n : Nat) (x : Int) (acc : ByteArray), x ≤ n → acc.size + n < 1099511627776 → ∃ t, Ev (fun k => laws_markText.l0 k x acc) t
 | n, x, acc, hx, ha => by
  by_cases h : x > 0
  · have hw : wrap64 (Int.tdiv x 10) = x / 10 := by
     rw [Int.tdiv_eq_ediv_of_nonneg (by omega)]
     unfold wrap64
     omega
    have hs : ∀ v : Int, (strOfNums [v]).size = 1 := fun v => by rw [strOfNums_size]; rfl
    match n, hx, ha with
    | 0, hx, ha => omega
    | n + 1, hx, ha =>
     obtain ⟨t, ht⟩ := markT_loop n (x / 10) (strOfNums [(wrap64 (48 + (Int.tmod x 10))) % 256] ++ acc) (by omega) (by rw [ByteArray.size_append, hs]; omega)
     refine ⟨t, Ev.step (fun k => ?_) ht⟩
     show laws_markText.l0 (k + 1) x acc = _
     conv => lhs; unfold laws_markText.l0
     rw [if_pos h, Option.bind_some, if_pos (by rw [hs]; omega), hw]
  · refine ⟨(⟨#[109]⟩ : ByteArray) ++ acc, Ev.step (f := fun _ => some _) (fun k => ?_) (Ev.now _)⟩
    show laws_markText.l0 (k + 1) x acc = _
    unfold laws_markText.l0
    rw [if_neg h, if_pos (by omega)]
theorem markT_some (x : Int) (hx : x < 549755813888) : ∃ t, Ev (fun k => laws_markText.f k x) t := by
 by_cases h : x ≤ 0
 · refine ⟨(⟨#[109, 48]⟩ : ByteArray), Ev.congr (fun k => ?_) (Ev.now _)⟩
   unfold laws_markText.f
   rw [if_pos h]
 · obtain ⟨t, ht⟩ := markT_loop x.toNat x (⟨#[]⟩ : ByteArray) (by omega) (by show 0 + x.toNat < _; omega)
   refine ⟨t, Ev.congr (fun k => ?_) ht⟩
   unfold laws_markText.f
   rw [if_neg h]
noncomputable def markT (x : Int) : ByteArray := if h : x < 549755813888 then (markT_some x h).choose else ⟨#[]⟩
theorem markT_ev (x : Int) (h : x < 549755813888) : Ev (fun k => laws_markText.f k x) (markT x) := by
 unfold markT
 rw [dif_pos h]
 exact (markT_some x h).choose_spec
noncomputable def marks (a n : Nat) : List ByteArray := (List.range n).map fun j => markT ((a + j : Nat) : Int)
end Go.Proofs.YtiegkjimpclmaaaGreatDoor.Pure
namespace Go.Proofs.YtiegkjimpclmaaaGreatDoor.P
open Go.RowKit Go.Proofs.YtiegkjimpclmaaaGreatDoorW.PrintWords Go.Proofs.YtiegkjimpclmaaaGreatDoorW.PrintLast Go.Proofs.YtiegkjimpclmaaaGreatDoorW.PrintMore
attribute [local go_sem] max2_int min2_int max_two min_two max_three min_three max_four min_four
set_option linter.unusedVariables false
set_option linter.unusedSimpArgs false
def spec_GoodName.f (k : Nat) (a0 : ByteArray) : Option (Bool) := (spec_l1Labels.f k a0).bind fun bt120 => (some bt120.2)
set_option maxHeartbeats 8000000 in
set_option maxRecDepth 100000 in
theorem spec_GoodName.calls (k : Nat) (a0 : ByteArray) (r : Bool) (w : World) (h : spec_GoodName.f k a0 = some r) :
 Calls Tryz.prog 127 #[.string a0] w fun e w' => e = .returned (.bool r) ∧ Below w.heap.size w w' := by
 have HB := a0_ (Below.refl w.heap.size w)
 have H := h
 clear h
 unfold spec_GoodName.f at H
 obtain ⟨⟨t120, t121⟩, A20, H⟩ := Option.bind_eq_some_iff.mp H
 have A2 := a0_ A20
 clear A20
 obtain rfl := Option.some.inj H
 go_enter Tryz.func127, Tryz.ntmps127
 go_wp2_with (first | ((with_reducible refine gate_callee (f := 171) rfl ?_); refine goesL_ (some 7) rfl rfl Tryz.func171 (by kernel_rfl) rfl #[.string a0] rfl argsS_ ?_; (with_reducible refine (spec_l1Labels.calls k a0 t120 t121 _ A2.out).mono ?_); rintro e w3 ⟨v122, rfl, ho0, hb⟩; refine ⟨_, rfl, ?_⟩; have HO123 := a0_ (Kd.R_lower ho0 (below_size bq0_)); replace HB := a0_ (below_step bq0_ hb); clear hb; (try clear ho0)))
 go_ret
 exact ⟨rr_, bq0_⟩
end Go.Proofs.YtiegkjimpclmaaaGreatDoor.P
