/- FnExactRecordsOf: part 21 of 28 of my texts for this claim, joined; the theorem stands in the last. Conditions: none beyond the statement's. -/
import Derived.Test.YtiegkjimpclmaaaGreatDoorMFnExactRecordsOfx18
import Derived.Test.YtiegkjimpclmaaaGreatDoorMFnExactRecordsOfx7
namespace Go.Proofs.YtiegkjimpclmaaaGreatDoor.P
open Go.RowKit Go.Proofs.YtiegkjimpclmaaaGreatDoorW.PrintWords Go.Proofs.YtiegkjimpclmaaaGreatDoorW.PrintLast Go.Proofs.YtiegkjimpclmaaaGreatDoorW.PrintMore
attribute [local go_sem] max2_int min2_int max_two min_two max_three min_three max_four min_four
set_option linter.unusedVariables false
set_option linter.unusedSimpArgs false
mutual
def spec_RecordsOf.l0 : Nat → List (S83) → List (S45) → List (S83) → Int → Int → Option ((List (S45)) × Bool)
 | 0, _, _, _, _, _ => none
 | k + 1, x0, x4, x13, x14, x15 => if x15 < x14 then (if 0 ≤ x15 then (if x15 < (x13.length : Int) then (if (((rd_T83 x13 x15).f3).length : Int) = 0 then (some (([] : List (S45)), false)) else (spec_RecordsOf.l1 k x0 x4 x13 x14 x15 ((rd_T83 x13 x15).f3) (((rd_T83 x13 x15).f3).length : Int) 0 ((rd_T83 x13 x15).f0) ((rd_T83 x13 x15).f1) ((rd_T83 x13 x15).f2) ((rd_T83 x13 x15).f3))) else (none)) else (none)) else ((spec_l3Sets.f k x4).bind fun bt342 => (if bt342.2 = true then (if (x4.length : Int) > 60 then (spec_RecordsOf.j3 k x4 true) else (spec_RecordsOf.j3 k x4 ((bt342.1.length : Int) != (x0.length : Int)))) else (spec_RecordsOf.j3 k x4 true)))
def spec_RecordsOf.l1 : Nat → List (S83) → List (S45) → List (S83) → Int → Int → List ByteArray → Int → Int → ByteArray → Int → Int → List ByteArray → Option ((List (S45)) × Bool)
 | 0, _, _, _, _, _, _, _, _, _, _, _, _ => none
 | k + 1, x0, x4, x13, x14, x15, x24, x25, x26, x334000, x334001, x334002, x334003 => if x26 < x25 then (if 0 ≤ x26 then (if x26 < (x24.length : Int) then ((spec_GoodRecord.f k x334000 x334001 x334002 (rdOf ByteArray.empty x24 x26)).bind fun t336 => (if t336 = true then (if (x4.length : Int) > 0 then (if 0 ≤ (wrap64 ((x4.length : Int) - 1)) then (if (wrap64 ((x4.length : Int) - 1)) < (x4.length : Int) then ((spec_l3Compare.f k ((rd_T45 x4 (wrap64 ((x4.length : Int) - 1))).f0) ((rd_T45 x4 (wrap64 ((x4.length : Int) - 1))).f1) ((rd_T45 x4 (wrap64 ((x4.length : Int) - 1))).f2) ((rd_T45 x4 (wrap64 ((x4.length : Int) - 1))).f3) x334000 x334001 x334002 (rdOf ByteArray.empty x24 x26)).bind fun t338 => (spec_RecordsOf.j2 k x0 x4 x13 x14 x15 x24 x25 x26 (decide (t338 ≥ 0)) x334000 x334001 x334002 x334003 x334000 x334001 x334002 (rdOf ByteArray.empty x24 x26))) else (none)) else (none)) else (spec_RecordsOf.j2 k x0 x4 x13 x14 x15 x24 x25 x26 false x334000 x334001 x334002 x334003 x334000 x334001 x334002 (rdOf ByteArray.empty x24 x26))) else (some (([] : List (S45)), false)))) else (none)) else (none)) else (spec_RecordsOf.l0 k x0 x4 x13 x14 (wrap64 (x15 + 1)))
def spec_RecordsOf.j2 : Nat → List (S83) → List (S45) → List (S83) → Int → Int → List ByteArray → Int → Int → Bool → ByteArray → Int → Int → List ByteArray → ByteArray → Int → Int → ByteArray → Option ((List (S45)) × Bool)
 | 0, _, _, _, _, _, _, _, _, _, _, _, _, _, _, _, _, _ => none
 | k + 1, x0, x4, x13, x14, x15, x24, x25, x26, x54, x334000, x334001, x334002, x334003, x336000, x336001, x336002, x336003 => if x54 = true then (some (([] : List (S45)), false)) else (if x4.length < 2932031007402 then (spec_RecordsOf.l1 k x0 (x4 ++ [(⟨x336000, x336001, x336002, x336003⟩ : S45)]) x13 x14 x15 x24 x25 (wrap64 (x26 + 1)) x334000 x334001 x334002 x334003) else (none))
def spec_RecordsOf.j3 : Nat → List (S45) → Bool → Option ((List (S45)) × Bool)
 | 0, _, _ => none
 | k + 1, x4, x79 => if x79 = true then (some (([] : List (S45)), false)) else (some (x4, true))
end
def spec_RecordsOf.f (k : Nat) (l0 : List (S83)) : Option ((List (S45)) × Bool) := spec_RecordsOf.l0 k l0 ([] : List (S45)) l0 (l0.length : Int) 0
def spec_RecordsOf.T14 : Bool × List (List Nat × List Nat) := (true, [([], []), ([0], [0]), ([1], [1]), ([2], [2]), ([2], [2]), ([4, 2], [2, 4]), ([3, 5, 2], [2, 3, 5]), ([6, 2], [2, 6]), ([2], [2]), ([7, 8, 2, 2], [2, 7, 8]), ([9, 2], [2, 9]), ([2, 10], [2, 10])])
def spec_RecordsOf.B14 : List Nat := [0, 1, 3, 7, 7, 23, 63, 127, 7, 511, 1023, 2047]
theorem spec_RecordsOf.tab14 : rtab .any (opsOf Tryz.f13 14) = spec_RecordsOf.T14 := by kernel_rfl
theorem spec_RecordsOf.bits14 : waitsOk spec_RecordsOf.T14.2 spec_RecordsOf.B14 = true := by kernel_rfl
set_option maxHeartbeats 8000000 in
set_option maxRecDepth 100000 in
theorem spec_RecordsOf.calls (k : Nat) (A0 : Option Addr) (c0 : Nat) (l0 : List (S83)) (r1 : List (S45)) (r2 : Bool) (w : World) (hr0 : Kd.C k83 w A0 l0.length l0) (hc0 : l0.length ≤ c0) (h : spec_RecordsOf.f k l0 = some (r1, r2)) :
 Calls Tryz.prog 13 #[.slice A0 l0.length c0] w fun e w' => ∃ v0_ : Value, e = .returned (.tuple #[v0_, .bool r2]) ∧ Kd.R k45 45 w' w.heap.size (fun _ => True) v0_ r1 ∧ Below w.heap.size w w' := by
 have hu83 := Tryz.underlying83
 have hu45 := Tryz.underlying45
 have HR0 := a0_ hr0
 have HC0 := a0_ hc0
 clear hr0 hc0
 have HB := a0_ (Below.refl w.heap.size w)
 have H := h
 clear h
 unfold spec_RecordsOf.f at H
 have H' := a0_ H
 clear H
 go_enter Tryz.func13, Tryz.ntmps13
 go_wp2
 go_loopg [4, 15] k (fun kq v4 v15 w' => ∃ (x4_1 : List (S45)) (x15_1 : Int), v15 = .int .i64 x15_1 ∧ Aside0 (spec_RecordsOf.l0 kq l0 x4_1 l0 (l0.length : Int) x15_1 = some (r1, r2)) ∧ Aside0 (kq ≤ k) ∧ Aside0 (Kd.R k45 45 w' w.heap.size (fun _ => True) v4 x4_1) ∧ Aside0 (Below w.heap.size w w'))
 case atStart => exact ⟨(([] : List (S45))), (0), rs_, H', ⟨Nat.le_refl _⟩, ⟨by first | exact Kd.R_nil _ _ _ _ _ | exact Kd.N_nil _ _ _ _ _ | exact Kd.V_nil _ _ _ _ _ | exact Kd.Q_nil _ _ _ _ _ | exact Kd.S_nil _ _ _ _ _⟩, ⟨bq0_⟩⟩
 case round =>
  clear H'
  obtain ⟨x4_1, x15_1, rfl, HA, HK1, HO_4, HB⟩ := hrel
  cases gk with
  | zero => exact absurd HA.out (by simp [spec_RecordsOf.l0])
  | succ k1 =>
   have H := HA.out
   clear HA
   simp only [spec_RecordsOf.l0] at H
   by_cases c2 : x15_1 < (l0.length : Int)
   case neg =>
    rw [if_neg c2] at H
    have c2b0 := decide_eq_false c2
    clear c2
    obtain ⟨⟨t342, t343⟩, A400, H⟩ := Option.bind_eq_some_iff.mp H
    have A40 := a0_ A400
    clear A400
    have HC41 := a0_ H
    clear H
    obtain ⟨Ao42, co42, eo42⟩ := Kd.R_slice HO_4.out
    subst eo42
    go_upto_region 20 with (first | ((with_reducible refine gate_callee (f := 63) rfl ?_); refine goesL_ (some 63) rfl rfl Tryz.func63 (by kernel_rfl) rfl #[.slice Ao42 x4_1.length co42] rfl argsS_ ?_; (with_reducible refine (spec_l3Sets.calls k1 _ _ x4_1 t342 t343 _ ?side1 ?side2 A40.out).mono ?_); (case side1 => exact kD_ (Kd.R_reads' HO_4.out).2.2); (case side2 => exact (Kd.R_reads' HO_4.out).2.1); rintro e w43 ⟨v344, rfl, ho0, hb⟩; refine ⟨_, rfl, ?_⟩; replace HO_4 := a0_ (Kd.R_below (kR_ HO_4.out) hb); have HO345 := a0_ (Kd.S_lower ho0 (below_size bq0_)); replace HB := a0_ (below_step bq0_ hb); clear hb; (try clear ho0)))
    (try simp only [Act.put, List.setIfInBounds_toArray, List.set_cons_zero, List.set_cons_succ])
    go_cut [79] (fun v79 wc => ∃ (kq : Nat) (x79_40 : Bool), v79 = .bool x79_40 ∧ Aside0 (spec_RecordsOf.j3 kq x4_1 x79_40 = some (r1, r2)) ∧ Aside0 (kq ≤ k1) ∧ Aside0 (Kd.R k45 45 wc w.heap.size (fun _ => True) (.slice Ao42 x4_1.length co42) x4_1) ∧ Aside0 (Below w.heap.size w wc))
    case first =>
     have H := HC41.out
     clear HC41
     by_cases c44 : t343 = true
     case neg =>
      replace c44 := Bool.eq_false_iff.mpr c44
      subst c44
      rw [if_neg (show ¬ (false = true) by decide)] at H
      have H' := a0_ H
      clear H
      go_wp2
      go_meet
      case rel => exact ⟨_, (true), rs_, H', ⟨by have := HK1.out; first | omega | exact Nat.le_refl _⟩, ⟨by (with_reducible repeat (first | apply Kd.R_alloc | apply Kd.R_drewN | apply Kd.R_drew)); exact HO_4.out⟩, ⟨bq0_⟩⟩
     subst c44
     rw [if_pos rfl] at H
     by_cases c45 : (x4_1.length : Int) > 60
     case pos =>
      rw [if_pos c45] at H
      have c45b0 := decide_eq_true c45
      have c45b1 : decide (60 < x4_1.length) = true := decide_eq_true (by omega)
      clear c45
      (first | rw [c45b0] | (simp only [i64_w, i32_w]; rw [c45b0]) | skip)
      have H' := a0_ H
      clear H
      go_wp2
      go_meet
      case rel => exact ⟨_, (true), rs_, H', ⟨by have := HK1.out; first | omega | exact Nat.le_refl _⟩, ⟨by (with_reducible repeat (first | apply Kd.R_alloc | apply Kd.R_drewN | apply Kd.R_drew)); exact HO_4.out⟩, ⟨bq0_⟩⟩
     rw [if_neg c45] at H
     have c45b0 := decide_eq_false c45
     have c45b1 : decide (60 < x4_1.length) = false := decide_eq_false (by omega)
     clear c45
     (first | rw [c45b0] | (simp only [i64_w, i32_w]; rw [c45b0]) | skip)
     have H' := a0_ H
     clear H
     obtain ⟨Ao46, co46, eo46⟩ := Kd.S_slice HO345.out
     subst eo46
     go_wp2
     go_meet
     case rel => exact ⟨_, (((t342.length : Int) != (l0.length : Int))), rs_, H', ⟨by have := HK1.out; first | omega | exact Nat.le_refl _⟩, ⟨by (with_reducible repeat (first | apply Kd.R_alloc | apply Kd.R_drewN | apply Kd.R_drew)); exact HO_4.out⟩, ⟨bq0_⟩⟩
    case rest =>
     clear HC41
     try clear c1
     try clear c2
     try clear c2b0
     obtain ⟨kq, x79_40, rfl, HA, HJ40, HO_4, HB⟩ := hcut
     cases kq with
     | zero => exact absurd HA.out (by simp [spec_RecordsOf.j3])
     | succ kj40 =>
      have H := HA.out
      clear HA
      simp only [spec_RecordsOf.j3] at H
      by_cases c47 : x79_40 = true
      case pos =>
       subst c47
       rw [if_pos rfl] at H
       simp only [Option.some.injEq, Prod.mk.injEq] at H
       obtain ⟨rfl, rfl⟩ := H
       go_wp2
       go_ret2
       exact ⟨_, rr_, by first | exact Kd.R_nil _ _ _ _ _ | exact Kd.N_nil _ _ _ _ _ | exact Kd.V_nil _ _ _ _ _ | exact Kd.Q_nil _ _ _ _ _ | exact Kd.S_nil _ _ _ _ _, bq0_⟩
      replace c47 := Bool.eq_false_iff.mpr c47
      subst c47
      rw [if_neg (show ¬ (false = true) by decide)] at H
      simp only [Option.some.injEq, Prod.mk.injEq] at H
      obtain ⟨rfl, rfl⟩ := H
      go_wp2
      go_ret2
      exact ⟨_, rr_, by (with_reducible repeat (first | apply Kd.R_alloc | apply Kd.R_drewN | apply Kd.R_drew)); exact HO_4.out, bq0_⟩
   rw [if_pos c2] at H
   have c2b0 := decide_eq_true c2
   clear c2
   by_cases c3 : 0 ≤ x15_1
   case neg =>
    rw [if_neg c3] at H
    exact absurd H (by simp)
   rw [if_pos c3] at H
   have c3b0 := decide_eq_true c3
   clear c3
   by_cases c4 : x15_1 < (l0.length : Int)
   case neg =>
    rw [if_neg c4] at H
    exact absurd H (by simp)
   rw [if_pos c4] at H
   have c4b0 := decide_eq_true c4
   clear c4
   by_cases c5 : (((rd_T83 l0 x15_1).f3).length : Int) = 0
   case pos =>
    rw [if_pos c5] at H
    have c5b0 := beq_iff_eq.mpr c5
    have c5b1 := bne_eq_false_iff_eq.mpr c5
    clear c5
    simp only [Option.some.injEq, Prod.mk.injEq] at H
    obtain ⟨rfl, rfl⟩ := H
    have p332 : 0 ≤ (x15_1 : Int) := dec_
    have q332 : x15_1 < (l0.length : Int) := dec_
    obtain ⟨ad332, A332_3, c332_3, e332, hx332_0, hx332_1, hx332_2, hx332_3, hl332_3, hi332_3⟩ := at_T83 HR0.out x15_1 p332 q332
    cases e332
    obtain ⟨hx332_0, hx332_1, hx332_2, hx332_3⟩ := up4_ HB.out hx332_0 hx332_1 hx332_2 hx332_3
    have HR332_3 := a0_ hi332_3
    have HC332_3 := a0_ hl332_3
    clear hi332_3 hl332_3
    replace p332 := eq_true p332
    replace q332 := eq_true q332
    go_wp2_with (first | ((with_reducible refine gate_dst (N := 6) rfl ?_); (try (refine gate_guard (by rfl) ?_; dsimp only)); refine boxS_ 6 #[.string (⟨#[]⟩ : ByteArray), .int .i64 0, .int .i64 0, .slice none 0 0] 83 (fun gb333 hg w6 hbox hb => ?_); have n0_ := a0_ (Kd.R_below (kR_ HO_4.out) hb); have n1_ := a0_ (below_step bq0_ hb); have n2_ := a0_ (hbox); have n3_ := a0_ (gw_ hg : w.heap.size ≤ gb333); have n4_ := n3_; clear HO_4; clear HB; have HO_4 := n0_; have HB := n1_; have BK333 := n2_; have GW333 := n3_; have GE333 := n4_; clear n0_ n1_ n2_ n3_ n4_; clear hb hbox hg; obtain ⟨z7_0, z7_1, z7_2, z7_3, q7_0, q7_1, q7_2, q7_3⟩ := bk4_ BK333.out))
    go_ret2
    exact ⟨_, rr_, by first | exact Kd.R_nil _ _ _ _ _ | exact Kd.N_nil _ _ _ _ _ | exact Kd.V_nil _ _ _ _ _ | exact Kd.Q_nil _ _ _ _ _ | exact Kd.S_nil _ _ _ _ _, bq1_⟩
   rw [if_neg c5] at H
   have c5b0 := beq_eq_false_iff_ne.mpr c5
   have c5b1 := bne_iff_ne.mpr c5
   have c5b2 : ¬ (((rd_T83 l0 x15_1).f3) = []) := fun h_ => c5 (by rw [h_]; rfl)
   have H' := a0_ H
   clear H
   have p332 : 0 ≤ (x15_1 : Int) := dec_
   have q332 : x15_1 < (l0.length : Int) := dec_
   obtain ⟨ad332, A332_3, c332_3, e332, hx332_0, hx332_1, hx332_2, hx332_3, hl332_3, hi332_3⟩ := at_T83 HR0.out x15_1 p332 q332
   cases e332
   obtain ⟨hx332_0, hx332_1, hx332_2, hx332_3⟩ := up4_ HB.out hx332_0 hx332_1 hx332_2 hx332_3
   have HR332_3 := a0_ hi332_3
   have HC332_3 := a0_ hl332_3
   clear hi332_3 hl332_3
   replace p332 := eq_true p332
   replace q332 := eq_true q332
   go_wp2_with (first | ((with_reducible refine gate_dst (N := 6) rfl ?_); (try (refine gate_guard (by rfl) ?_; dsimp only)); refine boxS_ 6 #[.string (⟨#[]⟩ : ByteArray), .int .i64 0, .int .i64 0, .slice none 0 0] 83 (fun gb333 hg w8 hbox hb => ?_); have n0_ := a0_ (Kd.R_below (kR_ HO_4.out) hb); have n1_ := a0_ (below_step bq0_ hb); have n2_ := a0_ (hbox); have n3_ := a0_ (gw_ hg : w.heap.size ≤ gb333); have n4_ := n3_; clear HO_4; clear HB; have HO_4 := n0_; have HB := n1_; have BK333 := n2_; have GW333 := n3_; have GE333 := n4_; clear n0_ n1_ n2_ n3_ n4_; clear hb hbox hg; obtain ⟨z9_0, z9_1, z9_2, z9_3, q9_0, q9_1, q9_2, q9_3⟩ := bk4_ BK333.out))
   go_loopg [4, 26] k1 (fun kq v4 v26 w' => ∃ (x4_2 : List (S45)) (x26_2 : Int), v26 = .int .i64 x26_2 ∧ Aside0 (spec_RecordsOf.l1 kq l0 x4_2 l0 (l0.length : Int) x15_1 ((rd_T83 l0 x15_1).f3) (((rd_T83 l0 x15_1).f3).length : Int) x26_2 ((rd_T83 l0 x15_1).f0) ((rd_T83 l0 x15_1).f1) ((rd_T83 l0 x15_1).f2) ((rd_T83 l0 x15_1).f3) = some (r1, r2)) ∧ Aside0 (kq ≤ k1) ∧ Aside0 (Kd.R k45 45 w' w.heap.size (fun _ => True) v4 x4_2) ∧ Aside0 (w'.heap[gb333]? = some (.cells #[.string ((rd_T83 l0 x15_1).f0), .int .i64 ((rd_T83 l0 x15_1).f1), .int .i64 ((rd_T83 l0 x15_1).f2), (.slice A332_3 ((rd_T83 l0 x15_1).f3).length c332_3)] 83 (0, 0))) ∧ Aside0 (Below w.heap.size w w'))
   case atStart => exact ⟨(x4_1), (0), rs_, H', ⟨Nat.le_refl _⟩, ⟨by (with_reducible repeat (first | apply Kd.R_alloc | apply Kd.R_drewN | apply Kd.R_drew)); exact Kd.R_mono (Kd.R_far (p := ⟨gb333, 3, none⟩) (Kd.R_far (p := ⟨gb333, 2, none⟩) (Kd.R_far (p := ⟨gb333, 1, none⟩) (Kd.R_far (p := ⟨gb333, 0, none⟩) (Kd.R_types HO_4.out BK333.out (by decide)) (fun _ hk => hk.2) (.string ((rd_T83 l0 x15_1).f0))) (fun _ hk => hk.2) (.int .i64 ((rd_T83 l0 x15_1).f1))) (fun _ hk => hk.2) (.int .i64 ((rd_T83 l0 x15_1).f2))) (fun _ hk => hk.2) (.slice A332_3 ((rd_T83 l0 x15_1).f3).length c332_3)) (fun _ hk => trivial)⟩, ⟨put4_ BK333.out⟩, ⟨bq1_⟩⟩
   case round =>
    clear H'
    try clear c1
    try clear c2
    try clear c2b0
    try clear c3
    try clear c3b0
    try clear c4
    try clear c4b0
    try clear c5
    try clear c5b0
    try clear c5b1
    try clear c5b2
    try clear z9_0 z9_1 z9_2 z9_3
    try clear q9_0 q9_1 q9_2 q9_3
    try clear hx332_0
    try clear hx332_1
    try clear hx332_2
    try clear hx332_3
    try clear p332
    try clear q332
    obtain ⟨x4_2, x26_2, rfl, HA, HK2, HO_4, BK333, HB⟩ := hrel
    cases gk with
    | zero => exact absurd HA.out (by simp [spec_RecordsOf.l1])
    | succ k2 =>
     have H := HA.out
     clear HA
     simp only [spec_RecordsOf.l1] at H
     by_cases c10 : x26_2 < (((rd_T83 l0 x15_1).f3).length : Int)
     case neg =>
      rw [if_neg c10] at H
      have c10b0 := decide_eq_false c10
      clear c10
      have H' := a0_ H
      clear H
      go_wp2
      go_roundg k2
      case measure => have := HK1.out; have := HK2.out; omega
      case rel => exact ⟨(x4_2), (wrap64 (x15_1 + 1)), rs_, H', ⟨by have := HK1.out; have := HK2.out; omega⟩, ⟨by (with_reducible repeat (first | apply Kd.R_alloc | apply Kd.R_drewN | apply Kd.R_drew)); exact HO_4.out⟩, ⟨bq1_⟩⟩
     rw [if_pos c10] at H
     have c10b0 := decide_eq_true c10
     clear c10
     by_cases c11 : 0 ≤ x26_2
     case neg =>
      rw [if_neg c11] at H
      exact absurd H (by simp)
     rw [if_pos c11] at H
     have c11b0 := decide_eq_true c11
     clear c11
     by_cases c12 : x26_2 < (((rd_T83 l0 x15_1).f3).length : Int)
     case neg =>
      rw [if_neg c12] at H
      exact absurd H (by simp)
     rw [if_pos c12] at H
     have c12b0 := decide_eq_true c12
     clear c12
     obtain ⟨t336, A130, H⟩ := Option.bind_eq_some_iff.mp H
     have A13 := a0_ A130
     clear A130
     by_cases c14 : t336 = true
     case neg =>
      replace c14 := Bool.eq_false_iff.mpr c14
      subst c14
      rw [if_neg (show ¬ (false = true) by decide)] at H
      simp only [Option.some.injEq, Prod.mk.injEq] at H
      obtain ⟨rfl, rfl⟩ := H
      have p334 : 0 ≤ (x26_2 : Int) := dec_
      have q334 : x26_2 < (((rd_T83 l0 x15_1).f3).length : Int) := dec_
      obtain ⟨ad334, e334, hx334_0⟩ := Kd.at_string HR332_3.out x26_2 p334 q334
      cases e334
      replace hx334_0 := (HB.out.cell (World.block_lt_of_cell? w _ hx334_0)).trans hx334_0
      replace p334 := eq_true p334
      replace q334 := eq_true q334
      obtain ⟨z35_0, z35_1, z35_2, z35_3, q35_0, q35_1, q35_2, q35_3⟩ := bk4_ BK333.out
      go_wp2_with (first | ((with_reducible refine gate_dst (N := 9) rfl ?_); (try (refine gate_guard (by rfl) ?_; dsimp only)); refine boxS_ 9 #[.string (⟨#[]⟩ : ByteArray), .int .i64 0, .int .i64 0, .string (⟨#[]⟩ : ByteArray)] 45 (fun gb335 hg w36 hbox hb => ?_); have n0_ := a0_ (Kd.R_below (Kd.R_elderB (kR_ HO_4.out) gb335 (Nat.le_of_eq hg.symm)) hb); have n1_ := a0_ (bkB_ BK333 hb); have n2_ := a0_ (below_step bq1_ hb); have n3_ := a0_ (hbox); have n4_ := a0_ (gw_ hg (below_size bq1_) : w.heap.size ≤ gb335); have n5_ := n4_; have n6_ := a0_ ((by rw [hg]; exact Nat.ne_of_lt (blk_lt (g := gb333) (o := .cells #[.string ((rd_T83 l0 x15_1).f0), .int .i64 ((rd_T83 l0 x15_1).f1), .int .i64 ((rd_T83 l0 x15_1).f2), .slice (some ad334) ((rd_T83 l0 x15_1).f3).length c332_3] 83 (0, 0)) (kB_ BK333.out)) : gb333 ≠ gb335)); have n7_ := a0_ ((by rw [hg]; exact Nat.ne_of_gt (blk_lt (g := gb333) (o := .cells #[.string ((rd_T83 l0 x15_1).f0), .int .i64 ((rd_T83 l0 x15_1).f1), .int .i64 ((rd_T83 l0 x15_1).f2), .slice (some ad334) ((rd_T83 l0 x15_1).f3).length c332_3] 83 (0, 0)) (kB_ BK333.out)) : gb335 ≠ gb333)); clear HO_4; clear BK333; clear HB; have HO_4 := n0_; have BK333 := n1_; have HB := n2_; have BK335 := n3_; have GW335 := n4_; have GE335 := n5_; have NB333_335 := n6_; have NB335_333 := n7_; clear n0_ n1_ n2_ n3_ n4_ n5_ n6_ n7_; clear hb hbox hg; have hnb37 := NB335_333.out; have hnc37 := NB333_335.out; obtain ⟨z38_0, z38_1, z38_2, z38_3, q38_0, q38_1, q38_2, q38_3⟩ := bk4_ BK335.out) | ((with_reducible refine gate_callee (f := 61) rfl ?_); refine goesL_ (some 39) rfl rfl Tryz.func61 (by kernel_rfl) rfl #[.agg #[.string ((rd_T83 l0 x15_1).f0), .int .i64 ((rd_T83 l0 x15_1).f1), .int .i64 ((rd_T83 l0 x15_1).f2), .string (rdOf ByteArray.empty ((rd_T83 l0 x15_1).f3) x26_2)]] rfl argsS_ ?_; (with_reducible refine (spec_GoodRecord.calls k2 ((rd_T83 l0 x15_1).f0) ((rd_T83 l0 x15_1).f1) ((rd_T83 l0 x15_1).f2) (rdOf ByteArray.empty ((rd_T83 l0 x15_1).f3) x26_2) false _ A13.out).mono ?_); rintro e w39 ⟨rfl, hb⟩; refine ⟨_, rfl, ?_⟩; replace HO_4 := a0_ (Kd.R_below (kR_ (Kd.R_mono (Kd.R_far (p := ⟨gb335, 3, none⟩) (Kd.R_far (p := ⟨gb335, 2, none⟩) (Kd.R_far (p := ⟨gb335, 1, none⟩) (Kd.R_far (p := ⟨gb335, 0, none⟩) (Kd.R_mono HO_4.out (fun k_ hk => (⟨hk, hk.2⟩ : _ ∧ k_ ≠ gb335))) (fun _ hk => hk.2) (.string ((rd_T83 l0 x15_1).f0))) (fun _ hk => hk.2) (.int .i64 ((rd_T83 l0 x15_1).f1))) (fun _ hk => hk.2) (.int .i64 ((rd_T83 l0 x15_1).f2))) (fun _ hk => hk.2) (.string (rdOf ByteArray.empty ((rd_T83 l0 x15_1).f3) x26_2))) (fun _ h_ => h_.1))) hb); replace BK333 := a0_ (blk_below (g := gb333) (o := .cells #[.string ((rd_T83 l0 x15_1).f0), .int .i64 ((rd_T83 l0 x15_1).f1), .int .i64 ((rd_T83 l0 x15_1).f2), .slice (some ad334) ((rd_T83 l0 x15_1).f3).length c332_3] 83 (0, 0)) (bfar4_ NB333_335.out BK333.out) hb); replace BK335 := a0_ (blk_below (g := gb335) (o := .cells #[.string ((rd_T83 l0 x15_1).f0), .int .i64 ((rd_T83 l0 x15_1).f1), .int .i64 ((rd_T83 l0 x15_1).f2), .string (rdOf ByteArray.empty ((rd_T83 l0 x15_1).f3) x26_2)] 45 (0, 0)) (put4_ BK335.out) hb); replace HB := a0_ (below_step bq1_ hb); clear hb))
      go_ret2
      exact ⟨_, rr_, by first | exact Kd.R_nil _ _ _ _ _ | exact Kd.N_nil _ _ _ _ _ | exact Kd.V_nil _ _ _ _ _ | exact Kd.Q_nil _ _ _ _ _ | exact Kd.S_nil _ _ _ _ _, bq1_⟩
     subst c14
     rw [if_pos rfl] at H
     have HC15 := a0_ H
     clear H
     have p334 : 0 ≤ (x26_2 : Int) := dec_
     have q334 : x26_2 < (((rd_T83 l0 x15_1).f3).length : Int) := dec_
     obtain ⟨ad334, e334, hx334_0⟩ := Kd.at_string HR332_3.out x26_2 p334 q334
     cases e334
     replace hx334_0 := (HB.out.cell (World.block_lt_of_cell? w _ hx334_0)).trans hx334_0
     replace p334 := eq_true p334
     replace q334 := eq_true q334
     obtain ⟨z16_0, z16_1, z16_2, z16_3, q16_0, q16_1, q16_2, q16_3⟩ := bk4_ BK333.out
     go_upto_region 14 with (first | ((with_reducible refine gate_dst (N := 9) rfl ?_); (try (refine gate_guard (by rfl) ?_; dsimp only)); refine boxS_ 9 #[.string (⟨#[]⟩ : ByteArray), .int .i64 0, .int .i64 0, .string (⟨#[]⟩ : ByteArray)] 45 (fun gb335 hg w17 hbox hb => ?_); have n0_ := a0_ (Kd.R_below (Kd.R_elderB (kR_ HO_4.out) gb335 (Nat.le_of_eq hg.symm)) hb); have n1_ := a0_ (bkB_ BK333 hb); have n2_ := a0_ (below_step bq1_ hb); have n3_ := a0_ (hbox); have n4_ := a0_ (gw_ hg (below_size bq1_) : w.heap.size ≤ gb335); have n5_ := n4_; have n6_ := a0_ ((by rw [hg]; exact Nat.ne_of_lt (blk_lt (g := gb333) (o := .cells #[.string ((rd_T83 l0 x15_1).f0), .int .i64 ((rd_T83 l0 x15_1).f1), .int .i64 ((rd_T83 l0 x15_1).f2), .slice (some ad334) ((rd_T83 l0 x15_1).f3).length c332_3] 83 (0, 0)) (kB_ BK333.out)) : gb333 ≠ gb335)); have n7_ := a0_ ((by rw [hg]; exact Nat.ne_of_gt (blk_lt (g := gb333) (o := .cells #[.string ((rd_T83 l0 x15_1).f0), .int .i64 ((rd_T83 l0 x15_1).f1), .int .i64 ((rd_T83 l0 x15_1).f2), .slice (some ad334) ((rd_T83 l0 x15_1).f3).length c332_3] 83 (0, 0)) (kB_ BK333.out)) : gb335 ≠ gb333)); clear HO_4; clear BK333; clear HB; have HO_4 := n0_; have BK333 := n1_; have HB := n2_; have BK335 := n3_; have GW335 := n4_; have GE335 := n5_; have NB333_335 := n6_; have NB335_333 := n7_; clear n0_ n1_ n2_ n3_ n4_ n5_ n6_ n7_; clear hb hbox hg; have hnb18 := NB335_333.out; have hnc18 := NB333_335.out; obtain ⟨z19_0, z19_1, z19_2, z19_3, q19_0, q19_1, q19_2, q19_3⟩ := bk4_ BK335.out) | ((with_reducible refine gate_callee (f := 61) rfl ?_); refine goesL_ (some 39) rfl rfl Tryz.func61 (by kernel_rfl) rfl #[.agg #[.string ((rd_T83 l0 x15_1).f0), .int .i64 ((rd_T83 l0 x15_1).f1), .int .i64 ((rd_T83 l0 x15_1).f2), .string (rdOf ByteArray.empty ((rd_T83 l0 x15_1).f3) x26_2)]] rfl argsS_ ?_; (with_reducible refine (spec_GoodRecord.calls k2 ((rd_T83 l0 x15_1).f0) ((rd_T83 l0 x15_1).f1) ((rd_T83 l0 x15_1).f2) (rdOf ByteArray.empty ((rd_T83 l0 x15_1).f3) x26_2) true _ A13.out).mono ?_); rintro e w20 ⟨rfl, hb⟩; refine ⟨_, rfl, ?_⟩; replace HO_4 := a0_ (Kd.R_below (kR_ (Kd.R_mono (Kd.R_far (p := ⟨gb335, 3, none⟩) (Kd.R_far (p := ⟨gb335, 2, none⟩) (Kd.R_far (p := ⟨gb335, 1, none⟩) (Kd.R_far (p := ⟨gb335, 0, none⟩) (Kd.R_mono HO_4.out (fun k_ hk => (⟨hk, hk.2⟩ : _ ∧ k_ ≠ gb335))) (fun _ hk => hk.2) (.string ((rd_T83 l0 x15_1).f0))) (fun _ hk => hk.2) (.int .i64 ((rd_T83 l0 x15_1).f1))) (fun _ hk => hk.2) (.int .i64 ((rd_T83 l0 x15_1).f2))) (fun _ hk => hk.2) (.string (rdOf ByteArray.empty ((rd_T83 l0 x15_1).f3) x26_2))) (fun _ h_ => h_.1))) hb); replace BK333 := a0_ (blk_below (g := gb333) (o := .cells #[.string ((rd_T83 l0 x15_1).f0), .int .i64 ((rd_T83 l0 x15_1).f1), .int .i64 ((rd_T83 l0 x15_1).f2), .slice (some ad334) ((rd_T83 l0 x15_1).f3).length c332_3] 83 (0, 0)) (bfar4_ NB333_335.out BK333.out) hb); replace BK335 := a0_ (blk_below (g := gb335) (o := .cells #[.string ((rd_T83 l0 x15_1).f0), .int .i64 ((rd_T83 l0 x15_1).f1), .int .i64 ((rd_T83 l0 x15_1).f2), .string (rdOf ByteArray.empty ((rd_T83 l0 x15_1).f3) x26_2)] 45 (0, 0)) (put4_ BK335.out) hb); replace HB := a0_ (below_step bq1_ hb); clear hb; obtain ⟨Ao21, co21, eo21⟩ := Kd.R_slice HO_4.out; subst eo21))
     (try simp only [Act.put, List.setIfInBounds_toArray, List.set_cons_zero, List.set_cons_succ])
     go_cut [54] (fun v54 wc => ∃ (kq : Nat) (x54_14 : Bool), v54 = .bool x54_14 ∧ Aside0 (spec_RecordsOf.j2 kq l0 x4_2 l0 (l0.length : Int) x15_1 ((rd_T83 l0 x15_1).f3) (((rd_T83 l0 x15_1).f3).length : Int) x26_2 x54_14 ((rd_T83 l0 x15_1).f0) ((rd_T83 l0 x15_1).f1) ((rd_T83 l0 x15_1).f2) ((rd_T83 l0 x15_1).f3) ((rd_T83 l0 x15_1).f0) ((rd_T83 l0 x15_1).f1) ((rd_T83 l0 x15_1).f2) (rdOf ByteArray.empty ((rd_T83 l0 x15_1).f3) x26_2) = some (r1, r2)) ∧ Aside0 (kq ≤ k2) ∧ Aside0 (Kd.R k45 45 wc w.heap.size (fun k_ => k_ ≠ gb335) (.slice Ao21 x4_2.length co21) x4_2) ∧ Aside0 (wc.heap[gb333]? = some (.cells #[.string ((rd_T83 l0 x15_1).f0), .int .i64 ((rd_T83 l0 x15_1).f1), .int .i64 ((rd_T83 l0 x15_1).f2), (.slice (some ad334) ((rd_T83 l0 x15_1).f3).length c332_3)] 83 (0, 0))) ∧ Aside0 (wc.heap[gb335]? = some (.cells #[.string ((rd_T83 l0 x15_1).f0), .int .i64 ((rd_T83 l0 x15_1).f1), .int .i64 ((rd_T83 l0 x15_1).f2), .string (rdOf ByteArray.empty ((rd_T83 l0 x15_1).f3) x26_2)] 45 (0, 0))) ∧ Aside0 (Below w.heap.size w wc))
     case first =>
      have H := HC15.out
      clear HC15
      by_cases c22 : (x4_2.length : Int) > 0
      case neg =>
       rw [if_neg c22] at H
       have c22b0 := decide_eq_false c22
       have c22b1 : decide (0 < x4_2.length) = false := decide_eq_false (by omega)
       clear c22
       (first | rw [c22b0] | (simp only [i64_w, i32_w]; rw [c22b0]) | skip)
       have H' := a0_ H
       clear H
       try go_wp2
       replace HO_4 := a0_ (Kd.R_drew HO_4.out)
       replace BK333 := a0_ (blk_drew BK333.out)
       replace BK335 := a0_ (blk_drew BK335.out)
       replace HB := a0_ (below_drew1 HB.out)
       refine start_ (n := 12) (S := fun w' => True) (ds := []) #[false, false, false, false, false, false, false, false, false, false, false, false] (by kernel_rfl) rfl rfl trivial (fun hHeld => ?_); refine with_tabW spec_RecordsOf.tab14 spec_RecordsOf.bits14 (fun HT_ HW_ => ?_)
       generalize w20.drew = w29 at HO_4 BK333 BK335 HB hHeld ⊢
       refine pureS_ 0 (some 43) ?_
       refine pureS_ 1 (some 44) ?_
       refine pureS_ 2 (some 45) ?_
       refine skipS_ 3 (some 46) ?_
       refine skipS_ 4 (some 47) ?_
       refine skipS_ 5 (some 48) ?_
       refine skipS_ 6 (some 49) ?_
       refine skipS_ 7 (some 50) ?_
       refine skipS_ 8 (some 51) ?_
       refine skipS_ 9 (some 52) ?_
       refine skipS_ 10 (some 53) ?_
       refine pureS_ 11 (some 54) ?_
       refine done_ (done_of HT_.out (by kernel_rfl)) ?_
       try go_wp2
       go_meet
       case rel => exact ⟨_, (false), rs_, H', ⟨by have := HK1.out; have := HK2.out; first | omega | exact Nat.le_refl _⟩, ⟨by (with_reducible repeat (first | apply Kd.R_alloc | apply Kd.R_drewN | apply Kd.R_drew)); exact Kd.R_mono HO_4.out (fun _ hk => hk.2)⟩, ⟨bz_⟩, ⟨bz_⟩, ⟨bq1_⟩⟩
      rw [if_pos c22] at H
      have c22b0 := decide_eq_true c22
      have c22b1 : decide (0 < x4_2.length) = true := decide_eq_true (by omega)
      clear c22
      (first | rw [c22b0] | (simp only [i64_w, i32_w]; rw [c22b0]) | skip)
      obtain ⟨ji23, hji23⟩ : ∃ j_ : Int, (wrap64 ((x4_2.length : Int) - 1)) = j_ := ⟨_, rfl⟩
      (first | rw [hji23] at H | simp only [hji23] at H)
      have hji23w : (IntKind.i64.wrap ((x4_2.length : Int) - 1)) = ji23 := (i64_w _).trans hji23
      by_cases c24 : 0 ≤ (ji23)
      case neg =>
       rw [if_neg c24] at H
       exact absurd H (by simp)
      rw [if_pos c24] at H
      have c24b0 := decide_eq_true c24
      clear c24
      by_cases c25 : (ji23) < (x4_2.length : Int)
      case neg =>
       rw [if_neg c25] at H
       exact absurd H (by simp)
      rw [if_pos c25] at H
      have c25b0 := decide_eq_true c25
      clear c25
      obtain ⟨t338, A260, H⟩ := Option.bind_eq_some_iff.mp H
      have A26 := a0_ A260
      clear A260
      have H' := a0_ H
      clear H
      try go_wp2
      replace HO_4 := a0_ (Kd.R_drew HO_4.out)
      replace BK333 := a0_ (blk_drew BK333.out)
      replace BK335 := a0_ (blk_drew BK335.out)
      replace HB := a0_ (below_drew1 HB.out)
      have p337 : 0 ≤ ((ji23) : Int) := dec_
      have q337 : (ji23) < (x4_2.length : Int) := dec_
      obtain ⟨ad337, e337, hx337_0, hx337_1, hx337_2, hx337_3⟩ := at_T45 (Kd.R_reads' HO_4.out).2.2 (ji23) p337 q337
      cases e337
      replace p337 := eq_true p337
      replace q337 := eq_true q337
      refine start_ (n := 12) (S := fun w' => w'.cell? ⟨gb335, 0, none⟩ = some (.string ((rd_T83 l0 x15_1).f0)) ∧ w'.cell? ⟨gb335, 1, none⟩ = some (.int .i64 ((rd_T83 l0 x15_1).f1)) ∧ w'.cell? ⟨gb335, 2, none⟩ = some (.int .i64 ((rd_T83 l0 x15_1).f2)) ∧ w'.cell? ⟨gb335, 3, none⟩ = some (.string (rdOf ByteArray.empty ((rd_T83 l0 x15_1).f3) x26_2)) ∧ w'.cell? (ad337.add (((ji23)).toNat * 4)) = some (.string ((rd_T45 x4_2 (ji23)).f0)) ∧ w'.cell? ⟨(ad337.add (((ji23)).toNat * 4)).block, (ad337.add (((ji23)).toNat * 4)).off + 1, none⟩ = some (.int .i64 ((rd_T45 x4_2 (ji23)).f1)) ∧ w'.cell? ⟨(ad337.add (((ji23)).toNat * 4)).block, (ad337.add (((ji23)).toNat * 4)).off + 2, none⟩ = some (.int .i64 ((rd_T45 x4_2 (ji23)).f2)) ∧ w'.cell? ⟨(ad337.add (((ji23)).toNat * 4)).block, (ad337.add (((ji23)).toNat * 4)).off + 3, none⟩ = some (.string ((rd_T45 x4_2 (ji23)).f3))) (ds := []) #[false, false, false, false, false, false, false, false, false, false, false, false] (by kernel_rfl) rfl rfl ⟨(blk_cell BK335.out 0).trans rfl, (blk_cell BK335.out 1).trans rfl, (blk_cell BK335.out 2).trans rfl, (blk_cell BK335.out 3).trans rfl, hx337_0, hx337_1, hx337_2, hx337_3⟩ (fun hHeld => ?_); refine with_tabW spec_RecordsOf.tab14 spec_RecordsOf.bits14 (fun HT_ HW_ => ?_)
      generalize w20.drew = w27 at HO_4 BK333 BK335 HB hx337_0 hx337_1 hx337_2 hx337_3 hHeld ⊢
      refine pureS_ 0 (some 43) ?_
      refine pureS_ 1 (some 44) ?_
      refine pureS_ 2 (some 45) ?_
      refine pureS_ 3 (some 46) ?_
      refine pureS_ 4 (some 47) ?_
      refine pureS_ 5 (some 48) ?_
      refine pureS_ 6 (some 49) ?_
      refine takeS_ 7 (some 50) ?_
      refine takeS_ 8 (some 51) ?_
      refine oneS_ 9 (some 52) (fun K hK => ?_)
      refine goes_ Tryz.func62 (by kernel_rfl) rfl #[.agg #[.string ((rd_T45 x4_2 (ji23)).f0), .int .i64 ((rd_T45 x4_2 (ji23)).f1), .int .i64 ((rd_T45 x4_2 (ji23)).f2), .string ((rd_T45 x4_2 (ji23)).f3)], .agg #[.string ((rd_T83 l0 x15_1).f0), .int .i64 ((rd_T83 l0 x15_1).f1), .int .i64 ((rd_T83 l0 x15_1).f2), .string (rdOf ByteArray.empty ((rd_T83 l0 x15_1).f3) x26_2)]] (by rfl) rfl rfl (by (try simp only [List.map_toArray, List.map_cons, List.map_nil]); first | done | (simp only [hji23]; rfl) | rfl | (simp only [List.length_drop, List.length_take]; rfl)) ?_
      with_reducible refine (spec_l3Compare.calls k2 ((rd_T45 x4_2 (ji23)).f0) ((rd_T45 x4_2 (ji23)).f1) ((rd_T45 x4_2 (ji23)).f2) ((rd_T45 x4_2 (ji23)).f3) ((rd_T83 l0 x15_1).f0) ((rd_T83 l0 x15_1).f1) ((rd_T83 l0 x15_1).f2) (rdOf ByteArray.empty ((rd_T83 l0 x15_1).f3) x26_2) t338 _ A26.out).mono ?_
      rintro e w28 ⟨rfl, hb⟩
      have HS4_ := (hb.cell (World.block_lt_of_cell? _ _ (hHeld.2.2.2.2.1))).trans (hHeld.2.2.2.2.1)
      have HS5_ := (hb.cell (World.block_lt_of_cell? _ _ (hHeld.2.2.2.2.2.1))).trans (hHeld.2.2.2.2.2.1)
      have HS6_ := (hb.cell (World.block_lt_of_cell? _ _ (hHeld.2.2.2.2.2.2.1))).trans (hHeld.2.2.2.2.2.2.1)
      have HS7_ := (hb.cell (World.block_lt_of_cell? _ _ (hHeld.2.2.2.2.2.2.2))).trans (hHeld.2.2.2.2.2.2.2)
      refine ⟨_, rfl, ?_⟩
      replace HO_4 := a0_ (Kd.R_below (kR_ HO_4.out) hb)
      replace BK333 := a0_ (bkB_ BK333 hb)
      replace BK335 := a0_ (bkB_ BK335 hb)
      replace HB := a0_ (below_step bq1_ hb)
      (try clear hb)
      (try clear hb2)
      (try clear hk)
      (try clear hi)
      refine hK.out _ _ ⟨(blk_cell BK335.out 0).trans rfl, (blk_cell BK335.out 1).trans rfl, (blk_cell BK335.out 2).trans rfl, (blk_cell BK335.out 3).trans rfl, HS4_, HS5_, HS6_, HS7_⟩ (fun hHeld => ?_)
      clear hK K
      refine normS_ ?_
      refine pureS_ 10 (some 53) ?_
      refine pureS_ 11 (some 54) ?_
      refine done_ (done_of HT_.out (by kernel_rfl)) ?_
      try go_wp2
      go_meet
      case rel => exact ⟨_, (decide (t338 ≥ 0)), rs_, H', ⟨by have := HK1.out; have := HK2.out; first | omega | exact Nat.le_refl _⟩, ⟨by (with_reducible repeat (first | apply Kd.R_alloc | apply Kd.R_drewN | apply Kd.R_drew)); exact Kd.R_mono HO_4.out (fun _ hk => hk.2)⟩, ⟨bz_⟩, ⟨bz_⟩, ⟨bq1_⟩⟩
     case rest =>
      clear HC15
      try clear c1
      try clear c2
      try clear c2b0
      try clear p2
      try clear c3
      try clear c3b0
      try clear p3
      try clear q3
      try clear hx3
      try clear c4
      try clear c4b0
      try clear c5
      try clear c5b0
      try clear c5b1
      try clear c5b2
      try clear c10
      try clear c10b0
      try clear c11
      try clear c11b0
      try clear c12
      try clear c12b0
      try clear c14
      try clear z16_0 z16_1 z16_2 z16_3
      try clear z19_0 z19_1 z19_2 z19_3
      try clear z7_0 z7_1 z7_2 z7_3
      try clear z9_0 z9_1 z9_2 z9_3
      try clear q16_0 q16_1 q16_2 q16_3
      try clear q19_0 q19_1 q19_2 q19_3
      try clear q7_0 q7_1 q7_2 q7_3
      try clear q9_0 q9_1 q9_2 q9_3
      try clear hx332_0
      try clear hx332_1
      try clear hx332_2
      try clear hx332_3
      try clear hx334_0
      try clear p2
      try clear p3
      try clear p332
      try clear p334
      try clear q3
      try clear q332
      try clear q334
      obtain ⟨kq, x54_14, rfl, HA, HJ14, HO_4, BK333, BK335, HB⟩ := hcut
      cases kq with
      | zero => exact absurd HA.out (by simp [spec_RecordsOf.j2])
      | succ kj14 =>
       have H := HA.out
       clear HA
       simp only [spec_RecordsOf.j2] at H
       by_cases c30 : x54_14 = true
       case pos =>
        subst c30
        rw [if_pos rfl] at H
        simp only [Option.some.injEq, Prod.mk.injEq] at H
        obtain ⟨rfl, rfl⟩ := H
        go_wp2
        go_ret2
        exact ⟨_, rr_, by first | exact Kd.R_nil _ _ _ _ _ | exact Kd.N_nil _ _ _ _ _ | exact Kd.V_nil _ _ _ _ _ | exact Kd.Q_nil _ _ _ _ _ | exact Kd.S_nil _ _ _ _ _, bq1_⟩
       replace c30 := Bool.eq_false_iff.mpr c30
       subst c30
       rw [if_neg (show ¬ (false = true) by decide)] at H
       by_cases c31 : x4_2.length < 2932031007402
       case neg =>
        rw [if_neg c31] at H
        exact absurd H (by simp)
       rw [if_pos c31] at H
       have LMc31 := a0_ c31
       clear c31
       obtain ⟨y339, hy339⟩ : ∃ y_ : List (S45), y_ = (x4_2 ++ [(⟨((rd_T83 l0 x15_1).f0), ((rd_T83 l0 x15_1).f1), ((rd_T83 l0 x15_1).f2), (rdOf ByteArray.empty ((rd_T83 l0 x15_1).f3) x26_2)⟩ : S45)]) := ⟨_, rfl⟩
       replace H : (spec_RecordsOf.l1 kj14 l0 y339 l0 (l0.length : Int) x15_1 ((rd_T83 l0 x15_1).f3) (((rd_T83 l0 x15_1).f3).length : Int) (wrap64 (x26_2 + 1)) ((rd_T83 l0 x15_1).f0) ((rd_T83 l0 x15_1).f1) ((rd_T83 l0 x15_1).f2) ((rd_T83 l0 x15_1).f3)) = some (r1, r2) := by first | (rw [hy339]; with_reducible exact H) | (have H2_ := (Option.bind_some _ _).symm.trans H; rw [hy339]; with_reducible exact H2_) | (have H2_ := (Option.bind_some _ _).symm.trans H; with_reducible exact H2_) | with_reducible exact H | (rw [hy339]; exact H) | exact H
       have Ny339 := a0_ hy339
       clear hy339
       have H' := a0_ H
       clear H
       have hnb32 := NB335_333.out
       have hnc32 := NB333_335.out
       obtain ⟨z33_0, z33_1, z33_2, z33_3, q33_0, q33_1, q33_2, q33_3⟩ := bk4_ BK335.out
       go_wp2_with (first | ((with_reducible refine gate_builtin (b := .append) (xs := #[.tmp 55, .tmp 57]) rfl ?_); (try (refine gate_guard (by rfl) ?_; dsimp only)); at_builtin; refine Kd.R_append k45 (w0 := w) w.heap.size rfl (.tmp 55) (.tmp 57) 27 45 (.agg #[(.string ⟨#[]⟩), (.int .i64 0), (.int .i64 0), (.string ⟨#[]⟩)]) 48 rfl Tryz.underlying27 info45 rfl (by decide) (by omega) (.slice Ao21 x4_2.length co21) x4_2 (⟨((rd_T83 l0 x15_1).f0), ((rd_T83 l0 x15_1).f1), ((rd_T83 l0 x15_1).f2), (rdOf ByteArray.empty ((rd_T83 l0 x15_1).f3) x26_2)⟩ : S45) [.string ((rd_T83 l0 x15_1).f0), .int .i64 ((rd_T83 l0 x15_1).f1), .int .i64 ((rd_T83 l0 x15_1).f2), .string (rdOf ByteArray.empty ((rd_T83 l0 x15_1).f3) x26_2)] (fun k_ => k_ ≠ gb335) (fun _ => False) rfl rfl ?aP (fun _ hk => hk.elim) ?aF ?aO ?aB ?aS ?aL ?_; (case aP => exact k45_mkM _ _ _ (⟨((rd_T83 l0 x15_1).f0), ((rd_T83 l0 x15_1).f1), ((rd_T83 l0 x15_1).f2), (rdOf ByteArray.empty ((rd_T83 l0 x15_1).f3) x26_2)⟩ : S45)); (case aB => exact bq1_); (case aF => exact (fun k_ hk => Kd.freshB (g := gb335) (o := .cells #[.string ((rd_T83 l0 x15_1).f0), .int .i64 ((rd_T83 l0 x15_1).f1), .int .i64 ((rd_T83 l0 x15_1).f2), .string (rdOf ByteArray.empty ((rd_T83 l0 x15_1).f3) x26_2)] 45 (0, 0)) (kB_ BK335.out) k_ hk)); (case aO => exact (kR_ HO_4.out)); (case aS => exact (below_size bq1_)); (case aL => have := LMc31.out; omega); intro v340 w34 ho hb hg hat; rw [← Ny339.out] at ho; have n0_ := a0_ (blk_grown (g := gb333) (o := .cells #[.string ((rd_T83 l0 x15_1).f0), .int .i64 ((rd_T83 l0 x15_1).f1), .int .i64 ((rd_T83 l0 x15_1).f2), .slice (some ad334) ((rd_T83 l0 x15_1).f3).length c332_3] 83 (0, 0)) (kB_ BK333.out) hg (Kd.R_ne HO_4.out BK333.out (by decide))); have n1_ := a0_ (blk_grown (g := gb335) (o := .cells #[.string ((rd_T83 l0 x15_1).f0), .int .i64 ((rd_T83 l0 x15_1).f1), .int .i64 ((rd_T83 l0 x15_1).f2), .string (rdOf ByteArray.empty ((rd_T83 l0 x15_1).f3) x26_2)] 45 (0, 0)) (kB_ BK335.out) hg (Kd.R_away HO_4.out (fun _ hk => hk))); have n2_ := a0_ (hb); have n3_ := a0_ (ho); clear BK333; clear BK335; clear HB; clear HO_4; have BK333 := n0_; have BK335 := n1_; have HB := n2_; have HO341 := n3_; clear n0_ n1_ n2_ n3_; clear ho hb hg hat))
       go_roundg kj14
       case measure => have := HK1.out; have := HK2.out; have := HJ14.out; omega
       case rel => exact ⟨(y339), (wrap64 (x26_2 + 1)), rs_, H', ⟨by have := HK1.out; have := HK2.out; have := HJ14.out; omega⟩, ⟨by (with_reducible repeat (first | apply Kd.R_alloc | apply Kd.R_drewN | apply Kd.R_drew)); exact Kd.R_mono HO341.out (fun _ hk => trivial)⟩, ⟨bz_⟩, ⟨bq1_⟩⟩
end Go.Proofs.YtiegkjimpclmaaaGreatDoor.P
