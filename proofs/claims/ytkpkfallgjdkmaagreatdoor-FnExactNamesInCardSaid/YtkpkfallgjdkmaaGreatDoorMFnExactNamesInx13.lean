/- FnExactNamesIn: part 14 of 30 of my texts for this claim, joined; the theorem stands in the last. Conditions: none beyond the statement's. -/
import Derived.Test.YtkpkfallgjdkmaaGreatDoorMFnExactNamesInx3
import Derived.Test.YtkpkfallgjdkmaaGreatDoorMFnExactNamesInx6
import Derived.Test.YtkpkfallgjdkmaaGreatDoorMFnExactNamesInx10
import Derived.Test.YtkpkfallgjdkmaaGreatDoorMFnExactNamesInx5
namespace Go.Proofs.YtkpkfallgjdkmaaGreatDoor.P
open Go.RowKit Go.Proofs.YtkpkfallgjdkmaaGreatDoorW.PrintWords Go.Proofs.YtkpkfallgjdkmaaGreatDoorW.PrintLast Go.Proofs.YtkpkfallgjdkmaaGreatDoorW.PrintMore
attribute [local go_sem] max2_int min2_int max_two min_two max_three min_three max_four min_four
set_option linter.unusedVariables false
set_option linter.unusedSimpArgs false
mutual
def spec_l6Rule.l0 : Nat → ByteArray → List (S72) → Int → List (S72) → Int → Int → Option (Int)
 | 0, _, _, _, _, _, _ => none
 | k + 1, x0, x1, x5, x18, x19, x20 => if x20 < x19 then (if 0 ≤ x20 then (if x20 < (x18.length : Int) then ((spec_l1Below.f ((rd_T72 x18 x20).f0) x0).bind fun t698 => (if t698 = true then (if ((rd_T72 x18 x20).f1) = 6 then (if ((rd_T72 x18 x20).f0).toList = x0.toList then (spec_l6Rule.l0 k x0 x1 (wrap64 (x5 + 1)) x18 x19 (wrap64 (x20 + 1))) else (spec_l6Rule.l0 k x0 x1 (wrap64 ((wrap64 (x5 + 1)) + 1)) x18 x19 (wrap64 (x20 + 1)))) else (spec_l6Rule.l0 k x0 x1 x5 x18 x19 (wrap64 (x20 + 1)))) else (some 1))) else (none)) else (none)) else (if x5 = 1 then (spec_l6Rule.l1 k x0 x1 x1 (x1.length : Int) 0) else (some 2))
def spec_l6Rule.l1 : Nat → ByteArray → List (S72) → List (S72) → Int → Int → Option (Int)
 | 0, _, _, _, _, _ => none
 | k + 1, x0, x1, x43, x44, x45 => if x45 < x44 then (if 0 ≤ x45 then (if x45 < (x43.length : Int) then (if x45 > 0 then (if 0 ≤ (wrap64 (x45 - 1)) then (if (wrap64 (x45 - 1)) < (x1.length : Int) then (if ((rd_T72 x1 (wrap64 (x45 - 1))).f0).toList = ((rd_T72 x43 x45).f0).toList then (if ((rd_T72 x1 (wrap64 (x45 - 1))).f1) = ((rd_T72 x43 x45).f1) then (if ((rd_T72 x1 (wrap64 (x45 - 1))).f2) = ((rd_T72 x43 x45).f2) then (if ((rd_T72 x1 (wrap64 (x45 - 1))).f3).toList = ((rd_T72 x43 x45).f3).toList then (some 3) else (spec_l6Rule.l1 k x0 x1 x43 x44 (wrap64 (x45 + 1)))) else (some 3)) else (spec_l6Rule.l1 k x0 x1 x43 x44 (wrap64 (x45 + 1)))) else (spec_l6Rule.l1 k x0 x1 x43 x44 (wrap64 (x45 + 1)))) else (none)) else (none)) else (spec_l6Rule.l1 k x0 x1 x43 x44 (wrap64 (x45 + 1)))) else (none)) else (none)) else (spec_l6Rule.l2 k x0 x1 x1 (x1.length : Int) 0)
def spec_l6Rule.l2 : Nat → ByteArray → List (S72) → List (S72) → Int → Int → Option (Int)
 | 0, _, _, _, _, _ => none
 | k + 1, x0, x1, x97, x98, x99 => if x99 < x98 then (if 0 ≤ x99 then (if x99 < (x97.length : Int) then (if x99 ≤ (x1.length : Int) then ((some (x1.take (x99 : Int).toNat : List (S72))).bind fun y707 => (spec_l6Rule.l3 k x0 x1 x97 x98 x99 y707 (y707.length : Int) 0 ((rd_T72 x97 x99).f0) ((rd_T72 x97 x99).f1) ((rd_T72 x97 x99).f2) ((rd_T72 x97 x99).f3))) else (none)) else (none)) else (none)) else ((spec_l6Has.f k x1 x0 5).bind fun t713 => (if t713 = true then (some 5) else (spec_l6Rule.l4 k x0 x1 x1 (x1.length : Int) 0)))
def spec_l6Rule.l3 : Nat → ByteArray → List (S72) → List (S72) → Int → Int → List (S72) → Int → Int → ByteArray → Int → Int → ByteArray → Option (Int)
 | 0, _, _, _, _, _, _, _, _, _, _, _, _ => none
 | k + 1, x0, x1, x97, x98, x99, x106, x107, x108, x707000, x707001, x707002, x707003 => if x108 < x107 then (if 0 ≤ x108 then (if x108 < (x106.length : Int) then (if ((rd_T72 x106 x108).f0).toList = x707000.toList then (if ((rd_T72 x106 x108).f1) = 5 then (some 4) else (if x707001 = 5 then (some 4) else (spec_l6Rule.l3 k x0 x1 x97 x98 x99 x106 x107 (wrap64 (x108 + 1)) x707000 x707001 x707002 x707003))) else (spec_l6Rule.l3 k x0 x1 x97 x98 x99 x106 x107 (wrap64 (x108 + 1)) x707000 x707001 x707002 x707003)) else (none)) else (none)) else (spec_l6Rule.l2 k x0 x1 x97 x98 (wrap64 (x99 + 1)))
def spec_l6Rule.l4 : Nat → ByteArray → List (S72) → List (S72) → Int → Int → Option (Int)
 | 0, _, _, _, _, _ => none
 | k + 1, x0, x1, x132, x133, x134 => if x134 < x133 then (if 0 ≤ x134 then (if x134 < (x132.length : Int) then ((spec_l6Cut.f k x0 x1 ((rd_T72 x132 x134).f0)).bind fun bt716 => (if bt716.2 = true then (if ((rd_T72 x132 x134).f1) = 1 then (spec_l6Rule.l4 k x0 x1 x132 x133 (wrap64 (x134 + 1))) else (if ((rd_T72 x132 x134).f1) = 2 then (if ((rd_T72 x132 x134).f0).toList = bt716.1.toList then (spec_l6Rule.l4 k x0 x1 x132 x133 (wrap64 (x134 + 1))) else (some 6)) else (some 6))) else (spec_l6Rule.l4 k x0 x1 x132 x133 (wrap64 (x134 + 1))))) else (none)) else (none)) else (some 0)
end
def spec_l6Rule.f (k : Nat) (a0 : ByteArray) (l1 : List (S72)) : Option (Int) := spec_l6Rule.l0 k a0 l1 0 l1 (l1.length : Int) 0
set_option maxHeartbeats 8000000 in
set_option maxRecDepth 100000 in
theorem spec_l6Rule.calls (k : Nat) (a0 : ByteArray) (A1 : Option Addr) (c1 : Nat) (l1 : List (S72)) (r : Int) (w : World) (hr1 : Kd.C k72 w A1 l1.length l1) (hc1 : l1.length ≤ c1) (h : spec_l6Rule.f k a0 l1 = some r) :
 Calls Tryz.prog 57 #[.string a0, .slice A1 l1.length c1] w fun e w' => e = .returned (.int .i64 r) ∧ Below w.heap.size w w' := by
 have hu72 := Tryz.underlying72
 have HR1 := a0_ hr1
 have HC1 := a0_ hc1
 clear hr1 hc1
 have HB := a0_ (Below.refl w.heap.size w)
 have H : (spec_l6Rule.l0 k a0 l1 0 l1 (l1.length : Int) 0) = some r := h
 clear h
 have H' := a0_ H
 clear H
 go_enter Tryz.func57, Tryz.ntmps57
 go_wp2
 go_loopg [5, 20] k (fun kq v5 v20 w' => ∃ (x5_1 : Int) (x20_1 : Int), v5 = .int .i64 x5_1 ∧ v20 = .int .i64 x20_1 ∧ Aside0 (spec_l6Rule.l0 kq a0 l1 x5_1 l1 (l1.length : Int) x20_1 = some r) ∧ Aside0 (kq ≤ k) ∧ Aside0 (Below w.heap.size w w'))
 case atStart => exact ⟨(0), (0), rs_, rs_, H', ⟨Nat.le_refl _⟩, ⟨bq0_⟩⟩
 case round =>
  clear H'
  try clear c1
  try clear p2
  obtain ⟨x5_1, x20_1, rfl, rfl, HA, HK1, HB⟩ := hrel
  cases gk with
  | zero => exact absurd HA.out (by simp [spec_l6Rule.l0])
  | succ k1 =>
   have H := HA.out
   clear HA
   simp only [spec_l6Rule.l0] at H
   by_cases c3 : x20_1 < (l1.length : Int)
   case pos =>
    rw [if_pos c3] at H
    have c3b0 := decide_eq_true c3
    clear c3
    by_cases c4 : 0 ≤ x20_1
    case neg =>
     rw [if_neg c4] at H
     exact absurd H (by simp)
    rw [if_pos c4] at H
    have c4b0 := decide_eq_true c4
    clear c4
    by_cases c5 : x20_1 < (l1.length : Int)
    case neg =>
     rw [if_neg c5] at H
     exact absurd H (by simp)
    rw [if_pos c5] at H
    have c5b0 := decide_eq_true c5
    clear c5
    obtain ⟨t698, A60, H⟩ := Option.bind_eq_some_iff.mp H
    have A6 := a0_ A60
    clear A60
    by_cases c7 : t698 = true
    case neg =>
     replace c7 := Bool.eq_false_iff.mpr c7
     subst c7
     rw [if_neg (show ¬ (false = true) by decide)] at H
     obtain rfl := Option.some.inj H
     have p696 : 0 ≤ (x20_1 : Int) := dec_
     have q696 : x20_1 < (l1.length : Int) := dec_
     obtain ⟨ad696, e696, hx696_0, hx696_1, hx696_2, hx696_3⟩ := at_T72 HR1.out x20_1 p696 q696
     cases e696
     obtain ⟨hx696_0, hx696_1, hx696_2, hx696_3⟩ := up4_ HB.out hx696_0 hx696_1 hx696_2 hx696_3
     replace p696 := eq_true p696
     replace q696 := eq_true q696
     go_wp2_with (first | ((with_reducible refine gate_dst (N := 7) rfl ?_); refine boxS_ 7 #[.string (⟨#[]⟩ : ByteArray), .int .i64 0, .int .i64 0, .string (⟨#[]⟩ : ByteArray)] 72 (fun gb697 hg w16 hbox hb => ?_); have n0_ := a0_ (below_step bq0_ hb); have n1_ := a0_ (hbox); have n2_ := a0_ (gw_ hg : w.heap.size ≤ gb697); have n3_ := n2_; clear HB; have HB := n0_; have BK697 := n1_; have GW697 := n2_; have GE697 := n3_; clear n0_ n1_ n2_ n3_; clear hb hbox hg; obtain ⟨z17_0, z17_1, z17_2, z17_3, q17_0, q17_1, q17_2, q17_3⟩ := bk4_ BK697.out) | (go_at_call 84; (with_reducible refine (spec_l1Below.calls ((rd_T72 l1 x20_1).f0) a0 false _ A6.out).mono ?_); rintro e w' ⟨rfl, ⟨nd, rfl⟩⟩; (try first | exact ⟨rfl, _, World.drewN_drewN _ _ _⟩ | exact ⟨rfl, _, Eq.trans (World.drewN_drewN _ _ _) (congrArg (World.drewN _) (Nat.add_assoc _ _ _))⟩)))
     go_ret
     exact ⟨rr_, bq1_⟩
    subst c7
    rw [if_pos rfl] at H
    by_cases c8 : ((rd_T72 l1 x20_1).f1) = 6
    case neg =>
     rw [if_neg c8] at H
     have c8b0 := beq_eq_false_iff_ne.mpr c8
     have c8b1 := bne_iff_ne.mpr c8
     have H' := a0_ H
     clear H
     have p696 : 0 ≤ (x20_1 : Int) := dec_
     have q696 : x20_1 < (l1.length : Int) := dec_
     obtain ⟨ad696, e696, hx696_0, hx696_1, hx696_2, hx696_3⟩ := at_T72 HR1.out x20_1 p696 q696
     cases e696
     obtain ⟨hx696_0, hx696_1, hx696_2, hx696_3⟩ := up4_ HB.out hx696_0 hx696_1 hx696_2 hx696_3
     replace p696 := eq_true p696
     replace q696 := eq_true q696
     go_wp2_with (first | ((with_reducible refine gate_dst (N := 7) rfl ?_); refine boxS_ 7 #[.string (⟨#[]⟩ : ByteArray), .int .i64 0, .int .i64 0, .string (⟨#[]⟩ : ByteArray)] 72 (fun gb697 hg w14 hbox hb => ?_); have n0_ := a0_ (below_step bq0_ hb); have n1_ := a0_ (hbox); have n2_ := a0_ (gw_ hg : w.heap.size ≤ gb697); have n3_ := n2_; clear HB; have HB := n0_; have BK697 := n1_; have GW697 := n2_; have GE697 := n3_; clear n0_ n1_ n2_ n3_; clear hb hbox hg; obtain ⟨z15_0, z15_1, z15_2, z15_3, q15_0, q15_1, q15_2, q15_3⟩ := bk4_ BK697.out) | (go_at_call 84; (with_reducible refine (spec_l1Below.calls ((rd_T72 l1 x20_1).f0) a0 true _ A6.out).mono ?_); rintro e w' ⟨rfl, ⟨nd, rfl⟩⟩; (try first | exact ⟨rfl, _, World.drewN_drewN _ _ _⟩ | exact ⟨rfl, _, Eq.trans (World.drewN_drewN _ _ _) (congrArg (World.drewN _) (Nat.add_assoc _ _ _))⟩)))
     go_roundg k1
     case measure => have := HK1.out; omega
     case rel => exact ⟨(x5_1), (wrap64 (x20_1 + 1)), rs_, rs_, H', ⟨by have := HK1.out; omega⟩, ⟨bq1_⟩⟩
    rw [if_pos c8] at H
    have c8b0 := beq_iff_eq.mpr c8
    have c8b1 := bne_eq_false_iff_eq.mpr c8
    clear c8
    by_cases c9 : ((rd_T72 l1 x20_1).f0).toList = a0.toList
    case neg =>
     rw [if_neg c9] at H
     have c9b0 := beq_eq_false_iff_ne.mpr c9
     have c9b1 := bne_iff_ne.mpr c9
     have H' := a0_ H
     clear H
     have p696 : 0 ≤ (x20_1 : Int) := dec_
     have q696 : x20_1 < (l1.length : Int) := dec_
     obtain ⟨ad696, e696, hx696_0, hx696_1, hx696_2, hx696_3⟩ := at_T72 HR1.out x20_1 p696 q696
     cases e696
     obtain ⟨hx696_0, hx696_1, hx696_2, hx696_3⟩ := up4_ HB.out hx696_0 hx696_1 hx696_2 hx696_3
     replace p696 := eq_true p696
     replace q696 := eq_true q696
     go_wp2_with (first | ((with_reducible refine gate_dst (N := 7) rfl ?_); refine boxS_ 7 #[.string (⟨#[]⟩ : ByteArray), .int .i64 0, .int .i64 0, .string (⟨#[]⟩ : ByteArray)] 72 (fun gb697 hg w12 hbox hb => ?_); have n0_ := a0_ (below_step bq0_ hb); have n1_ := a0_ (hbox); have n2_ := a0_ (gw_ hg : w.heap.size ≤ gb697); have n3_ := n2_; clear HB; have HB := n0_; have BK697 := n1_; have GW697 := n2_; have GE697 := n3_; clear n0_ n1_ n2_ n3_; clear hb hbox hg; obtain ⟨z13_0, z13_1, z13_2, z13_3, q13_0, q13_1, q13_2, q13_3⟩ := bk4_ BK697.out) | (go_at_call 84; (with_reducible refine (spec_l1Below.calls ((rd_T72 l1 x20_1).f0) a0 true _ A6.out).mono ?_); rintro e w' ⟨rfl, ⟨nd, rfl⟩⟩; (try first | exact ⟨rfl, _, World.drewN_drewN _ _ _⟩ | exact ⟨rfl, _, Eq.trans (World.drewN_drewN _ _ _) (congrArg (World.drewN _) (Nat.add_assoc _ _ _))⟩)))
     go_roundg k1
     case measure => have := HK1.out; omega
     case rel => exact ⟨(wrap64 ((wrap64 (x5_1 + 1)) + 1)), (wrap64 (x20_1 + 1)), rs_, rs_, H', ⟨by have := HK1.out; omega⟩, ⟨bq1_⟩⟩
    rw [if_pos c9] at H
    have c9b0 := beq_iff_eq.mpr c9
    have c9b1 := bne_eq_false_iff_eq.mpr c9
    clear c9
    have H' := a0_ H
    clear H
    have p696 : 0 ≤ (x20_1 : Int) := dec_
    have q696 : x20_1 < (l1.length : Int) := dec_
    obtain ⟨ad696, e696, hx696_0, hx696_1, hx696_2, hx696_3⟩ := at_T72 HR1.out x20_1 p696 q696
    cases e696
    obtain ⟨hx696_0, hx696_1, hx696_2, hx696_3⟩ := up4_ HB.out hx696_0 hx696_1 hx696_2 hx696_3
    replace p696 := eq_true p696
    replace q696 := eq_true q696
    go_wp2_with (first | ((with_reducible refine gate_dst (N := 7) rfl ?_); refine boxS_ 7 #[.string (⟨#[]⟩ : ByteArray), .int .i64 0, .int .i64 0, .string (⟨#[]⟩ : ByteArray)] 72 (fun gb697 hg w10 hbox hb => ?_); have n0_ := a0_ (below_step bq0_ hb); have n1_ := a0_ (hbox); have n2_ := a0_ (gw_ hg : w.heap.size ≤ gb697); have n3_ := n2_; clear HB; have HB := n0_; have BK697 := n1_; have GW697 := n2_; have GE697 := n3_; clear n0_ n1_ n2_ n3_; clear hb hbox hg; obtain ⟨z11_0, z11_1, z11_2, z11_3, q11_0, q11_1, q11_2, q11_3⟩ := bk4_ BK697.out) | (go_at_call 84; (with_reducible refine (spec_l1Below.calls ((rd_T72 l1 x20_1).f0) a0 true _ A6.out).mono ?_); rintro e w' ⟨rfl, ⟨nd, rfl⟩⟩; (try first | exact ⟨rfl, _, World.drewN_drewN _ _ _⟩ | exact ⟨rfl, _, Eq.trans (World.drewN_drewN _ _ _) (congrArg (World.drewN _) (Nat.add_assoc _ _ _))⟩)))
    go_roundg k1
    case measure => have := HK1.out; omega
    case rel => exact ⟨(wrap64 (x5_1 + 1)), (wrap64 (x20_1 + 1)), rs_, rs_, H', ⟨by have := HK1.out; omega⟩, ⟨bq1_⟩⟩
   rw [if_neg c3] at H
   have c3b0 := decide_eq_false c3
   clear c3
   by_cases c18 : x5_1 = 1
   case neg =>
    rw [if_neg c18] at H
    have c18b0 := beq_eq_false_iff_ne.mpr c18
    have c18b1 := bne_iff_ne.mpr c18
    obtain rfl := Option.some.inj H
    go_wp2
    go_ret
    exact ⟨rr_, bq0_⟩
   rw [if_pos c18] at H
   have c18b0 := beq_iff_eq.mpr c18
   have c18b1 := bne_eq_false_iff_eq.mpr c18
   clear c18
   have H' := a0_ H
   clear H
   go_wp2
   go_loopg [45] k1 (fun kq v45 w' => ∃ (x45_2 : Int), v45 = .int .i64 x45_2 ∧ Aside0 (spec_l6Rule.l1 kq a0 l1 l1 (l1.length : Int) x45_2 = some r) ∧ Aside0 (kq ≤ k1) ∧ Aside0 (Below w.heap.size w w'))
   case atStart => exact ⟨(0), rs_, H', ⟨Nat.le_refl _⟩, ⟨bq0_⟩⟩
   case round =>
    clear H'
    try clear c1
    try clear p2
    try clear c3
    try clear c3b0
    try clear c4
    try clear c4b0
    try clear c5
    try clear c5b0
    try clear p6
    try clear q6
    try clear hx6
    try clear c7
    try clear c8
    try clear c8b0
    try clear c8b1
    try clear c9
    try clear c9b0
    try clear c9b1
    try clear c18
    try clear c18b0
    try clear c18b1
    try clear z11_0 z11_1 z11_2 z11_3
    try clear z13_0 z13_1 z13_2 z13_3
    try clear z15_0 z15_1 z15_2 z15_3
    try clear z17_0 z17_1 z17_2 z17_3
    try clear q11_0 q11_1 q11_2 q11_3
    try clear q13_0 q13_1 q13_2 q13_3
    try clear q15_0 q15_1 q15_2 q15_3
    try clear q17_0 q17_1 q17_2 q17_3
    try clear hx696_0
    try clear hx696_1
    try clear hx696_2
    try clear hx696_3
    try clear p2
    try clear p696
    try clear q696
    obtain ⟨x45_2, rfl, HA, HK2, HB⟩ := hrel
    cases gk with
    | zero => exact absurd HA.out (by simp [spec_l6Rule.l1])
    | succ k2 =>
     have H := HA.out
     clear HA
     simp only [spec_l6Rule.l1] at H
     by_cases c19 : x45_2 < (l1.length : Int)
     case pos =>
      rw [if_pos c19] at H
      have c19b0 := decide_eq_true c19
      clear c19
      by_cases c20 : 0 ≤ x45_2
      case neg =>
       rw [if_neg c20] at H
       exact absurd H (by simp)
      rw [if_pos c20] at H
      have c20b0 := decide_eq_true c20
      clear c20
      by_cases c21 : x45_2 < (l1.length : Int)
      case neg =>
       rw [if_neg c21] at H
       exact absurd H (by simp)
      rw [if_pos c21] at H
      have c21b0 := decide_eq_true c21
      clear c21
      by_cases c22 : x45_2 > 0
      case neg =>
       rw [if_neg c22] at H
       have c22b0 := decide_eq_false c22
       clear c22
       have H' := a0_ H
       clear H
       have p699 : 0 ≤ (x45_2 : Int) := dec_
       have q699 : x45_2 < (l1.length : Int) := dec_
       obtain ⟨ad699, e699, hx699_0, hx699_1, hx699_2, hx699_3⟩ := at_T72 HR1.out x45_2 p699 q699
       cases e699
       obtain ⟨hx699_0, hx699_1, hx699_2, hx699_3⟩ := up4_ HB.out hx699_0 hx699_1 hx699_2 hx699_3
       replace p699 := eq_true p699
       replace q699 := eq_true q699
       go_wp2_with (first | ((with_reducible refine gate_dst (N := 9) rfl ?_); refine boxS_ 9 #[.string (⟨#[]⟩ : ByteArray), .int .i64 0, .int .i64 0, .string (⟨#[]⟩ : ByteArray)] 72 (fun gb700 hg w40 hbox hb => ?_); have n0_ := a0_ (below_step bq0_ hb); have n1_ := a0_ (hbox); have n2_ := a0_ (gw_ hg : w.heap.size ≤ gb700); have n3_ := n2_; clear HB; have HB := n0_; have BK700 := n1_; have GW700 := n2_; have GE700 := n3_; clear n0_ n1_ n2_ n3_; clear hb hbox hg; obtain ⟨z41_0, z41_1, z41_2, z41_3, q41_0, q41_1, q41_2, q41_3⟩ := bk4_ BK700.out))
       repeat (go_quiet (fail); try go_wp2)
       go_roundg k2
       case measure => have := HK1.out; have := HK2.out; omega
       case rel => exact ⟨(wrap64 (x45_2 + 1)), rs_, H', ⟨by have := HK1.out; have := HK2.out; omega⟩, ⟨bq1_⟩⟩
      rw [if_pos c22] at H
      have c22b0 := decide_eq_true c22
      clear c22
      obtain ⟨ji23, hji23⟩ : ∃ j_ : Int, (wrap64 (x45_2 - 1)) = j_ := ⟨_, rfl⟩
      replace H : (if 0 ≤ (ji23) then (if (ji23) < (l1.length : Int) then (if ((rd_T72 l1 (ji23)).f0).toList = ((rd_T72 l1 x45_2).f0).toList then (if ((rd_T72 l1 (ji23)).f1) = ((rd_T72 l1 x45_2).f1) then (if ((rd_T72 l1 (ji23)).f2) = ((rd_T72 l1 x45_2).f2) then (if ((rd_T72 l1 (ji23)).f3).toList = ((rd_T72 l1 x45_2).f3).toList then (some 3) else (spec_l6Rule.l1 k2 a0 l1 l1 (l1.length : Int) (wrap64 (x45_2 + 1)))) else (some 3)) else (spec_l6Rule.l1 k2 a0 l1 l1 (l1.length : Int) (wrap64 (x45_2 + 1)))) else (spec_l6Rule.l1 k2 a0 l1 l1 (l1.length : Int) (wrap64 (x45_2 + 1)))) else (none)) else (none)) = some r := by first | (rw [hji23] at H; exact H) | (simp only [hji23] at H ⊢; exact H)
      have hji23w : (IntKind.i64.wrap (x45_2 - 1)) = ji23 := (i64_w _).trans hji23
      by_cases c24 : 0 ≤ (ji23)
      case neg =>
       rw [if_neg c24] at H
       exact absurd H (by simp)
      rw [if_pos c24] at H
      have c24b0 := decide_eq_true c24
      clear c24
      by_cases c25 : (ji23) < (l1.length : Int)
      case neg =>
       rw [if_neg c25] at H
       exact absurd H (by simp)
      rw [if_pos c25] at H
      have c25b0 := decide_eq_true c25
      clear c25
      by_cases c26 : ((rd_T72 l1 (ji23)).f0).toList = ((rd_T72 l1 x45_2).f0).toList
      case neg =>
       rw [if_neg c26] at H
       have c26b0 := beq_eq_false_iff_ne.mpr c26
       have c26b1 := bne_iff_ne.mpr c26
       have H' := a0_ H
       clear H
       have p699 : 0 ≤ (x45_2 : Int) := dec_
       have q699 : x45_2 < (l1.length : Int) := dec_
       obtain ⟨ad699, e699, hx699_0, hx699_1, hx699_2, hx699_3⟩ := at_T72 HR1.out x45_2 p699 q699
       cases e699
       obtain ⟨hx699_0, hx699_1, hx699_2, hx699_3⟩ := up4_ HB.out hx699_0 hx699_1 hx699_2 hx699_3
       replace p699 := eq_true p699
       replace q699 := eq_true q699
       go_wp2_with (first | ((with_reducible refine gate_dst (N := 9) rfl ?_); refine boxS_ 9 #[.string (⟨#[]⟩ : ByteArray), .int .i64 0, .int .i64 0, .string (⟨#[]⟩ : ByteArray)] 72 (fun gb700 hg w38 hbox hb => ?_); have n0_ := a0_ (below_step bq0_ hb); have n1_ := a0_ (hbox); have n2_ := a0_ (gw_ hg : w.heap.size ≤ gb700); have n3_ := n2_; clear HB; have HB := n0_; have BK700 := n1_; have GW700 := n2_; have GE700 := n3_; clear n0_ n1_ n2_ n3_; clear hb hbox hg; obtain ⟨z39_0, z39_1, z39_2, z39_3, q39_0, q39_1, q39_2, q39_3⟩ := bk4_ BK700.out; have p701 : 0 ≤ ((ji23) : Int) := dec_; have q701 : (ji23) < (l1.length : Int) := dec_; obtain ⟨ad701, e701, hx701_0, hx701_1, hx701_2, hx701_3⟩ := at_T72 HR1.out (ji23) p701 q701; obtain rfl : ad699 = ad701 := (by injection e701); have hn701_0 : ad699.block ≠ gb700 := nbl_ hx701_0 GW700.out; obtain ⟨hx701_0, hx701_1, hx701_2, hx701_3⟩ := up4_ HB.out hx701_0 hx701_1 hx701_2 hx701_3; obtain ⟨hx701_0, hx701_1, hx701_2, hx701_3⟩ := far44_ (g := gb700) hn701_0 (.string ((rd_T72 l1 x45_2).f0)) (.int .i64 ((rd_T72 l1 x45_2).f1)) (.int .i64 ((rd_T72 l1 x45_2).f2)) (.string ((rd_T72 l1 x45_2).f3)) hx701_0 hx701_1 hx701_2 hx701_3; (try have hy701_0 := hyn4_ hx701_0); (try have hy701_1 := hyn4_ hx701_1); (try have hy701_2 := hyn4_ hx701_2); (try have hy701_3 := hyn4_ hx701_3); clear hn701_0; replace p701 := eq_true p701; replace q701 := eq_true q701))
       repeat (go_quiet (fail); try go_wp2)
       go_roundg k2
       case measure => have := HK1.out; have := HK2.out; omega
       case rel => exact ⟨(wrap64 (x45_2 + 1)), rs_, H', ⟨by have := HK1.out; have := HK2.out; omega⟩, ⟨bq1_⟩⟩
      rw [if_pos c26] at H
      have c26b0 := beq_iff_eq.mpr c26
      have c26b1 := bne_eq_false_iff_eq.mpr c26
      clear c26
      by_cases c27 : ((rd_T72 l1 (ji23)).f1) = ((rd_T72 l1 x45_2).f1)
      case neg =>
       rw [if_neg c27] at H
       have c27b0 := beq_eq_false_iff_ne.mpr c27
       have c27b1 := bne_iff_ne.mpr c27
       have H' := a0_ H
       clear H
       have p699 : 0 ≤ (x45_2 : Int) := dec_
       have q699 : x45_2 < (l1.length : Int) := dec_
       obtain ⟨ad699, e699, hx699_0, hx699_1, hx699_2, hx699_3⟩ := at_T72 HR1.out x45_2 p699 q699
       cases e699
       obtain ⟨hx699_0, hx699_1, hx699_2, hx699_3⟩ := up4_ HB.out hx699_0 hx699_1 hx699_2 hx699_3
       replace p699 := eq_true p699
       replace q699 := eq_true q699
       go_wp2_with (first | ((with_reducible refine gate_dst (N := 9) rfl ?_); refine boxS_ 9 #[.string (⟨#[]⟩ : ByteArray), .int .i64 0, .int .i64 0, .string (⟨#[]⟩ : ByteArray)] 72 (fun gb700 hg w36 hbox hb => ?_); have n0_ := a0_ (below_step bq0_ hb); have n1_ := a0_ (hbox); have n2_ := a0_ (gw_ hg : w.heap.size ≤ gb700); have n3_ := n2_; clear HB; have HB := n0_; have BK700 := n1_; have GW700 := n2_; have GE700 := n3_; clear n0_ n1_ n2_ n3_; clear hb hbox hg; obtain ⟨z37_0, z37_1, z37_2, z37_3, q37_0, q37_1, q37_2, q37_3⟩ := bk4_ BK700.out; have p701 : 0 ≤ ((ji23) : Int) := dec_; have q701 : (ji23) < (l1.length : Int) := dec_; obtain ⟨ad701, e701, hx701_0, hx701_1, hx701_2, hx701_3⟩ := at_T72 HR1.out (ji23) p701 q701; obtain rfl : ad699 = ad701 := (by injection e701); have hn701_0 : ad699.block ≠ gb700 := nbl_ hx701_0 GW700.out; obtain ⟨hx701_0, hx701_1, hx701_2, hx701_3⟩ := up4_ HB.out hx701_0 hx701_1 hx701_2 hx701_3; obtain ⟨hx701_0, hx701_1, hx701_2, hx701_3⟩ := far44_ (g := gb700) hn701_0 (.string ((rd_T72 l1 x45_2).f0)) (.int .i64 ((rd_T72 l1 x45_2).f1)) (.int .i64 ((rd_T72 l1 x45_2).f2)) (.string ((rd_T72 l1 x45_2).f3)) hx701_0 hx701_1 hx701_2 hx701_3; (try have hy701_0 := hyn4_ hx701_0); (try have hy701_1 := hyn4_ hx701_1); (try have hy701_2 := hyn4_ hx701_2); (try have hy701_3 := hyn4_ hx701_3); clear hn701_0; replace p701 := eq_true p701; replace q701 := eq_true q701))
       repeat (go_quiet (fail); try go_wp2)
       go_roundg k2
       case measure => have := HK1.out; have := HK2.out; omega
       case rel => exact ⟨(wrap64 (x45_2 + 1)), rs_, H', ⟨by have := HK1.out; have := HK2.out; omega⟩, ⟨bq1_⟩⟩
      rw [if_pos c27] at H
      have c27b0 := beq_iff_eq.mpr c27
      have c27b1 := bne_eq_false_iff_eq.mpr c27
      clear c27
      by_cases c28 : ((rd_T72 l1 (ji23)).f2) = ((rd_T72 l1 x45_2).f2)
      case neg =>
       rw [if_neg c28] at H
       have c28b0 := beq_eq_false_iff_ne.mpr c28
       have c28b1 := bne_iff_ne.mpr c28
       obtain rfl := Option.some.inj H
       have p699 : 0 ≤ (x45_2 : Int) := dec_
       have q699 : x45_2 < (l1.length : Int) := dec_
       obtain ⟨ad699, e699, hx699_0, hx699_1, hx699_2, hx699_3⟩ := at_T72 HR1.out x45_2 p699 q699
       cases e699
       obtain ⟨hx699_0, hx699_1, hx699_2, hx699_3⟩ := up4_ HB.out hx699_0 hx699_1 hx699_2 hx699_3
       replace p699 := eq_true p699
       replace q699 := eq_true q699
       go_wp2_with (first | ((with_reducible refine gate_dst (N := 9) rfl ?_); refine boxS_ 9 #[.string (⟨#[]⟩ : ByteArray), .int .i64 0, .int .i64 0, .string (⟨#[]⟩ : ByteArray)] 72 (fun gb700 hg w34 hbox hb => ?_); have n0_ := a0_ (below_step bq0_ hb); have n1_ := a0_ (hbox); have n2_ := a0_ (gw_ hg : w.heap.size ≤ gb700); have n3_ := n2_; clear HB; have HB := n0_; have BK700 := n1_; have GW700 := n2_; have GE700 := n3_; clear n0_ n1_ n2_ n3_; clear hb hbox hg; obtain ⟨z35_0, z35_1, z35_2, z35_3, q35_0, q35_1, q35_2, q35_3⟩ := bk4_ BK700.out; have p701 : 0 ≤ ((ji23) : Int) := dec_; have q701 : (ji23) < (l1.length : Int) := dec_; obtain ⟨ad701, e701, hx701_0, hx701_1, hx701_2, hx701_3⟩ := at_T72 HR1.out (ji23) p701 q701; obtain rfl : ad699 = ad701 := (by injection e701); have hn701_0 : ad699.block ≠ gb700 := nbl_ hx701_0 GW700.out; obtain ⟨hx701_0, hx701_1, hx701_2, hx701_3⟩ := up4_ HB.out hx701_0 hx701_1 hx701_2 hx701_3; obtain ⟨hx701_0, hx701_1, hx701_2, hx701_3⟩ := far44_ (g := gb700) hn701_0 (.string ((rd_T72 l1 x45_2).f0)) (.int .i64 ((rd_T72 l1 x45_2).f1)) (.int .i64 ((rd_T72 l1 x45_2).f2)) (.string ((rd_T72 l1 x45_2).f3)) hx701_0 hx701_1 hx701_2 hx701_3; (try have hy701_0 := hyn4_ hx701_0); (try have hy701_1 := hyn4_ hx701_1); (try have hy701_2 := hyn4_ hx701_2); (try have hy701_3 := hyn4_ hx701_3); clear hn701_0; replace p701 := eq_true p701; replace q701 := eq_true q701; ))
       repeat (go_quiet (fail); try go_wp2)
       go_ret
       exact ⟨by first | rfl | (simp [errW_none, errW_some] <;> rfl) | (simp only [← hji23]; first | rfl | (simp [errW_none, errW_some] <;> rfl)) | (simp [*, errW_none, errW_some] <;> rfl), bq1_⟩
      rw [if_pos c28] at H
      have c28b0 := beq_iff_eq.mpr c28
      have c28b1 := bne_eq_false_iff_eq.mpr c28
      clear c28
      by_cases c29 : ((rd_T72 l1 (ji23)).f3).toList = ((rd_T72 l1 x45_2).f3).toList
      case pos =>
       rw [if_pos c29] at H
       have c29b0 := beq_iff_eq.mpr c29
       have c29b1 := bne_eq_false_iff_eq.mpr c29
       clear c29
       obtain rfl := Option.some.inj H
       have p699 : 0 ≤ (x45_2 : Int) := dec_
       have q699 : x45_2 < (l1.length : Int) := dec_
       obtain ⟨ad699, e699, hx699_0, hx699_1, hx699_2, hx699_3⟩ := at_T72 HR1.out x45_2 p699 q699
       cases e699
       obtain ⟨hx699_0, hx699_1, hx699_2, hx699_3⟩ := up4_ HB.out hx699_0 hx699_1 hx699_2 hx699_3
       replace p699 := eq_true p699
       replace q699 := eq_true q699
       go_wp2_with (first | ((with_reducible refine gate_dst (N := 9) rfl ?_); refine boxS_ 9 #[.string (⟨#[]⟩ : ByteArray), .int .i64 0, .int .i64 0, .string (⟨#[]⟩ : ByteArray)] 72 (fun gb700 hg w30 hbox hb => ?_); have n0_ := a0_ (below_step bq0_ hb); have n1_ := a0_ (hbox); have n2_ := a0_ (gw_ hg : w.heap.size ≤ gb700); have n3_ := n2_; clear HB; have HB := n0_; have BK700 := n1_; have GW700 := n2_; have GE700 := n3_; clear n0_ n1_ n2_ n3_; clear hb hbox hg; obtain ⟨z31_0, z31_1, z31_2, z31_3, q31_0, q31_1, q31_2, q31_3⟩ := bk4_ BK700.out; have p701 : 0 ≤ ((ji23) : Int) := dec_; have q701 : (ji23) < (l1.length : Int) := dec_; obtain ⟨ad701, e701, hx701_0, hx701_1, hx701_2, hx701_3⟩ := at_T72 HR1.out (ji23) p701 q701; obtain rfl : ad699 = ad701 := (by injection e701); have hn701_0 : ad699.block ≠ gb700 := nbl_ hx701_0 GW700.out; obtain ⟨hx701_0, hx701_1, hx701_2, hx701_3⟩ := up4_ HB.out hx701_0 hx701_1 hx701_2 hx701_3; obtain ⟨hx701_0, hx701_1, hx701_2, hx701_3⟩ := far44_ (g := gb700) hn701_0 (.string ((rd_T72 l1 x45_2).f0)) (.int .i64 ((rd_T72 l1 x45_2).f1)) (.int .i64 ((rd_T72 l1 x45_2).f2)) (.string ((rd_T72 l1 x45_2).f3)) hx701_0 hx701_1 hx701_2 hx701_3; (try have hy701_0 := hyn4_ hx701_0); (try have hy701_1 := hyn4_ hx701_1); (try have hy701_2 := hyn4_ hx701_2); (try have hy701_3 := hyn4_ hx701_3); clear hn701_0; replace p701 := eq_true p701; replace q701 := eq_true q701; ))
       repeat (go_quiet (fail); try go_wp2)
       go_ret
       exact ⟨by first | rfl | (simp [errW_none, errW_some] <;> rfl) | (simp only [← hji23]; first | rfl | (simp [errW_none, errW_some] <;> rfl)) | (simp [*, errW_none, errW_some] <;> rfl), bq1_⟩
      rw [if_neg c29] at H
      have c29b0 := beq_eq_false_iff_ne.mpr c29
      have c29b1 := bne_iff_ne.mpr c29
      have H' := a0_ H
      clear H
      have p699 : 0 ≤ (x45_2 : Int) := dec_
      have q699 : x45_2 < (l1.length : Int) := dec_
      obtain ⟨ad699, e699, hx699_0, hx699_1, hx699_2, hx699_3⟩ := at_T72 HR1.out x45_2 p699 q699
      cases e699
      obtain ⟨hx699_0, hx699_1, hx699_2, hx699_3⟩ := up4_ HB.out hx699_0 hx699_1 hx699_2 hx699_3
      replace p699 := eq_true p699
      replace q699 := eq_true q699
      go_wp2_with (first | ((with_reducible refine gate_dst (N := 9) rfl ?_); refine boxS_ 9 #[.string (⟨#[]⟩ : ByteArray), .int .i64 0, .int .i64 0, .string (⟨#[]⟩ : ByteArray)] 72 (fun gb700 hg w32 hbox hb => ?_); have n0_ := a0_ (below_step bq0_ hb); have n1_ := a0_ (hbox); have n2_ := a0_ (gw_ hg : w.heap.size ≤ gb700); have n3_ := n2_; clear HB; have HB := n0_; have BK700 := n1_; have GW700 := n2_; have GE700 := n3_; clear n0_ n1_ n2_ n3_; clear hb hbox hg; obtain ⟨z33_0, z33_1, z33_2, z33_3, q33_0, q33_1, q33_2, q33_3⟩ := bk4_ BK700.out; have p701 : 0 ≤ ((ji23) : Int) := dec_; have q701 : (ji23) < (l1.length : Int) := dec_; obtain ⟨ad701, e701, hx701_0, hx701_1, hx701_2, hx701_3⟩ := at_T72 HR1.out (ji23) p701 q701; obtain rfl : ad699 = ad701 := (by injection e701); have hn701_0 : ad699.block ≠ gb700 := nbl_ hx701_0 GW700.out; obtain ⟨hx701_0, hx701_1, hx701_2, hx701_3⟩ := up4_ HB.out hx701_0 hx701_1 hx701_2 hx701_3; obtain ⟨hx701_0, hx701_1, hx701_2, hx701_3⟩ := far44_ (g := gb700) hn701_0 (.string ((rd_T72 l1 x45_2).f0)) (.int .i64 ((rd_T72 l1 x45_2).f1)) (.int .i64 ((rd_T72 l1 x45_2).f2)) (.string ((rd_T72 l1 x45_2).f3)) hx701_0 hx701_1 hx701_2 hx701_3; (try have hy701_0 := hyn4_ hx701_0); (try have hy701_1 := hyn4_ hx701_1); (try have hy701_2 := hyn4_ hx701_2); (try have hy701_3 := hyn4_ hx701_3); clear hn701_0; replace p701 := eq_true p701; replace q701 := eq_true q701; ))
      repeat (go_quiet (fail); try go_wp2)
      go_roundg k2
      case measure => have := HK1.out; have := HK2.out; omega
      case rel => exact ⟨(wrap64 (x45_2 + 1)), rs_, H', ⟨by have := HK1.out; have := HK2.out; omega⟩, ⟨bq1_⟩⟩
     rw [if_neg c19] at H
     have c19b0 := decide_eq_false c19
     clear c19
     have H' := a0_ H
     clear H
     go_wp2
     go_loopg [99] k2 (fun kq v99 w' => ∃ (x99_3 : Int), v99 = .int .i64 x99_3 ∧ Aside0 (spec_l6Rule.l2 kq a0 l1 l1 (l1.length : Int) x99_3 = some r) ∧ Aside0 (kq ≤ k2) ∧ Aside0 (Below w.heap.size w w'))
     case atStart => exact ⟨(0), rs_, H', ⟨Nat.le_refl _⟩, ⟨bq0_⟩⟩
     case round =>
      clear H'
      try clear c1
      try clear c2
      try clear p2
      try clear c3
      try clear c3b0
      try clear c4
      try clear c4b0
      try clear c5
      try clear c5b0
      try clear p6
      try clear q6
      try clear hx6
      try clear c7
      try clear p7
      try clear q7
      try clear hx7
      try clear c8
      try clear c8b0
      try clear c8b1
      try clear c9
      try clear c9b0
      try clear c9b1
      try clear c18
      try clear c18b0
      try clear c18b1
      try clear c19
      try clear c19b0
      try clear c20
      try clear c20b0
      try clear c21
      try clear c21b0
      try clear c22
      try clear c22b0
      try clear c24
      try clear c24b0
      try clear c25
      try clear c25b0
      try clear c26
      try clear c26b0
      try clear c26b1
      try clear c27
      try clear c27b0
      try clear c27b1
      try clear c28
      try clear c28b0
      try clear c28b1
      try clear c29
      try clear c29b0
      try clear c29b1
      try clear z11_0 z11_1 z11_2 z11_3
      try clear z13_0 z13_1 z13_2 z13_3
      try clear z15_0 z15_1 z15_2 z15_3
      try clear z17_0 z17_1 z17_2 z17_3
      try clear z31_0 z31_1 z31_2 z31_3
      try clear z33_0 z33_1 z33_2 z33_3
      try clear z35_0 z35_1 z35_2 z35_3
      try clear z37_0 z37_1 z37_2 z37_3
      try clear z39_0 z39_1 z39_2 z39_3
      try clear z41_0 z41_1 z41_2 z41_3
      try clear q11_0 q11_1 q11_2 q11_3
      try clear q13_0 q13_1 q13_2 q13_3
      try clear q15_0 q15_1 q15_2 q15_3
      try clear q17_0 q17_1 q17_2 q17_3
      try clear q31_0 q31_1 q31_2 q31_3
      try clear q33_0 q33_1 q33_2 q33_3
      try clear q35_0 q35_1 q35_2 q35_3
      try clear q37_0 q37_1 q37_2 q37_3
      try clear q39_0 q39_1 q39_2 q39_3
      try clear q41_0 q41_1 q41_2 q41_3
      try clear hx696_0
      try clear hx696_1
      try clear hx696_2
      try clear hx696_3
      try clear hx699_0
      try clear hx699_1
      try clear hx699_2
      try clear hx699_3
      try clear hx701_0
      try clear hx701_1
      try clear hx701_2
      try clear hx701_3
      try clear hx702_0
      try clear hx702_1
      try clear hx702_2
      try clear hx702_3
      try clear hx703_0
      try clear hx703_1
      try clear hx703_2
      try clear hx703_3
      try clear hx704_0
      try clear hx704_1
      try clear hx704_2
      try clear hx704_3
      try clear p2
      try clear p6
      try clear p696
      try clear p699
      try clear p701
      try clear p702
      try clear p703
      try clear p704
      try clear q6
      try clear q696
      try clear q699
      try clear q701
      try clear q702
      try clear q703
      try clear q704
      obtain ⟨x99_3, rfl, HA, HK3, HB⟩ := hrel
      cases gk with
      | zero => exact absurd HA.out (by simp [spec_l6Rule.l2])
      | succ k3 =>
       have H := HA.out
       clear HA
       simp only [spec_l6Rule.l2] at H
       by_cases c42 : x99_3 < (l1.length : Int)
       case pos =>
        rw [if_pos c42] at H
        have c42b0 := decide_eq_true c42
        clear c42
        by_cases c43 : 0 ≤ x99_3
        case neg =>
         rw [if_neg c43] at H
         exact absurd H (by simp)
        rw [if_pos c43] at H
        have c43b0 := decide_eq_true c43
        clear c43
        by_cases c44 : x99_3 < (l1.length : Int)
        case neg =>
         rw [if_neg c44] at H
         exact absurd H (by simp)
        rw [if_pos c44] at H
        have c44b0 := decide_eq_true c44
        clear c44
        have c45b0 := eq_true (dec_ : 0 ≤ x99_3)
        by_cases c46 : x99_3 ≤ (l1.length : Int)
        case neg =>
         rw [if_neg c46] at H
         exact absurd H (by simp)
        rw [if_pos c46] at H
        have c46b0 := eq_true c46
        have c46b1 := decide_eq_true c46
        clear c46
        obtain ⟨y707, hy707⟩ : ∃ y_ : List (S72), y_ = (l1.take (x99_3 : Int).toNat) := ⟨_, rfl⟩
        replace H : (spec_l6Rule.l3 k3 a0 l1 l1 (l1.length : Int) x99_3 y707 (y707.length : Int) 0 ((rd_T72 l1 x99_3).f0) ((rd_T72 l1 x99_3).f1) ((rd_T72 l1 x99_3).f2) ((rd_T72 l1 x99_3).f3)) = some r := by first | (rw [hy707]; with_reducible exact H) | (have H2_ := (Option.bind_some _ _).symm.trans H; rw [hy707]; with_reducible exact H2_) | (have H2_ := (Option.bind_some _ _).symm.trans H; with_reducible exact H2_) | with_reducible exact H | (rw [hy707]; exact H) | exact H
        have Ny707 := a0_ hy707
        clear hy707
        have H' := a0_ H
        clear H
        have p705 : 0 ≤ (x99_3 : Int) := dec_
        have q705 : x99_3 < (l1.length : Int) := dec_
        obtain ⟨ad705, e705, hx705_0, hx705_1, hx705_2, hx705_3⟩ := at_T72 HR1.out x99_3 p705 q705
        cases e705
        obtain ⟨hx705_0, hx705_1, hx705_2, hx705_3⟩ := up4_ HB.out hx705_0 hx705_1 hx705_2 hx705_3
        replace p705 := eq_true p705
        replace q705 := eq_true q705
        go_wp2_with (first | ((with_reducible refine gate_dst (N := 11) rfl ?_); refine boxS_ 11 #[.string (⟨#[]⟩ : ByteArray), .int .i64 0, .int .i64 0, .string (⟨#[]⟩ : ByteArray)] 72 (fun gb706 hg w47 hbox hb => ?_); have n0_ := a0_ (below_step bq0_ hb); have n1_ := a0_ (hbox); have n2_ := a0_ (gw_ hg : w.heap.size ≤ gb706); have n3_ := n2_; clear HB; have HB := n0_; have BK706 := n1_; have GW706 := n2_; have GE706 := n3_; clear n0_ n1_ n2_ n3_; clear hb hbox hg; obtain ⟨z48_0, z48_1, z48_2, z48_3, q48_0, q48_1, q48_2, q48_3⟩ := bk4_ BK706.out) | ((with_reducible refine gate_store (t := 72) (p := 11) rfl ?_); (try (rw [drewN_self w47]; generalize hq_ : World.drewN w47 _ = w47; have n0_ := a0_ (blk_at hq_ BK706.out); have n1_ := a0_ (below_at hq_ HB.out); clear hq_ BK706 HB; have BK706 := n0_; have HB := n1_; clear n0_ n1_)); refine store_event (t := 72) (p := 11) (v := ?vo_w49) (w1 := ((((w47.setCell ⟨gb706, 0, none⟩ (.string ((rd_T72 l1 x99_3).f0))).setCell ⟨gb706, 1, none⟩ (.int .i64 ((rd_T72 l1 x99_3).f1))).setCell ⟨gb706, 2, none⟩ (.int .i64 ((rd_T72 l1 x99_3).f2))).setCell ⟨gb706, 3, none⟩ (.string ((rd_T72 l1 x99_3).f3)))) ?hg ?ho ?hn ?hr ?_; (case ho => rfl); (case hg => rfl); (case hn => rfl); (case hr => first | (go_simp; done) | (go_simp; rfl)); intro w49 hw; have n0_ : Aside0 (w49.heap[gb706]? = some (.cells #[.string ((rd_T72 l1 x99_3).f0), .int .i64 ((rd_T72 l1 x99_3).f1), .int .i64 ((rd_T72 l1 x99_3).f2), .string ((rd_T72 l1 x99_3).f3)] 72 (0, 0))) := ⟨(by rw [hw]; exact (put4_ BK706.out))⟩; have n1_ : Aside0 (Below w.heap.size w w49) := ⟨(by rw [hw]; exact bq1_)⟩; clear hw; clear BK706; clear HB; have BK706 := n0_; have HB := n1_; clear n0_ n1_; have q50 : (x99_3 : Int) ≤ ((l1.length : Int) : Int) := dec_; obtain ⟨i050, hi050, _, hsz50, _⟩ := info_parts info72; have hroom50 : l1.length ≤ c1 := HC1.out; have hC50 : Kd.C k72 _ (some ad705) l1.length l1 := HR1.out; have hcut50 := cut_to (P := Tryz.prog) 22 72 .i64 Tryz.underlying22 hi050 (some ad705) l1.length c1 x99_3 (dec_) q50 hroom50; have hr50 := Kd.C_take (m := (x99_3 : Int).toNat) hC50 (by omega); have hy50 : y707.length = (x99_3 : Int).toNat := (by rw [Ny707.out, List.length_take]; omega); rw [← Ny707.out] at hr50; rw [← hy50] at hcut50; have HR710 := a0_ hr50; have HC710 := a0_ (show y707.length ≤ c1 from by omega); clear hr50 hC50 hroom50 hi050 hsz50; have KY50 := a0_ hy50; clear hy50; replace q50 := eq_true q50))
        go_loopg [108] k3 (fun kq v108 w' => ∃ (x108_4 : Int), v108 = .int .i64 x108_4 ∧ Aside0 (spec_l6Rule.l3 kq a0 l1 l1 (l1.length : Int) x99_3 y707 (y707.length : Int) x108_4 ((rd_T72 l1 x99_3).f0) ((rd_T72 l1 x99_3).f1) ((rd_T72 l1 x99_3).f2) ((rd_T72 l1 x99_3).f3) = some r) ∧ Aside0 (kq ≤ k3) ∧ Aside0 (w'.heap[gb706]? = some (.cells #[.string ((rd_T72 l1 x99_3).f0), .int .i64 ((rd_T72 l1 x99_3).f1), .int .i64 ((rd_T72 l1 x99_3).f2), .string ((rd_T72 l1 x99_3).f3)] 72 (0, 0))) ∧ Aside0 (Below w.heap.size w w'))
        case atStart => exact ⟨(0), rs_, H', ⟨Nat.le_refl _⟩, ⟨by (with_reducible repeat (first | refine blk_drewN ?_ _ | refine blk_drew ?_ | refine blk_alloc ?_ _)); exact BK706.out⟩, ⟨bq1_⟩⟩
        case round =>
         clear H'
         try clear c1
         try clear c2
         try clear p2
         try clear c3
         try clear c3b0
         try clear c4
         try clear c4b0
         try clear c5
         try clear c5b0
         try clear q5
         try clear p6
         try clear q6
         try clear hx6
         try clear c7
         try clear p7
         try clear q7
         try clear hx7
         try clear c8
         try clear c8b0
         try clear c8b1
         try clear c9
         try clear c9b0
         try clear c9b1
         try clear c18
         try clear c18b0
         try clear c18b1
         try clear c19
         try clear c19b0
         try clear c20
         try clear c20b0
         try clear c21
         try clear c21b0
         try clear c22
         try clear c22b0
         try clear c24
         try clear c24b0
         try clear c25
         try clear c25b0
         try clear c26
         try clear c26b0
         try clear c26b1
         try clear c27
         try clear c27b0
         try clear c27b1
         try clear c28
         try clear c28b0
         try clear c28b1
         try clear c29
         try clear c29b0
         try clear c29b1
         try clear c42
         try clear c42b0
         try clear c43
         try clear c43b0
         try clear c44
         try clear c44b0
         try clear c45
         try clear c45b0
         try clear c46
         try clear c46b0
         try clear c46b1
         try clear q50
         try clear z11_0 z11_1 z11_2 z11_3
         try clear z13_0 z13_1 z13_2 z13_3
         try clear z15_0 z15_1 z15_2 z15_3
         try clear z17_0 z17_1 z17_2 z17_3
         try clear z31_0 z31_1 z31_2 z31_3
         try clear z33_0 z33_1 z33_2 z33_3
         try clear z35_0 z35_1 z35_2 z35_3
         try clear z37_0 z37_1 z37_2 z37_3
         try clear z39_0 z39_1 z39_2 z39_3
         try clear z41_0 z41_1 z41_2 z41_3
         try clear z48_0 z48_1 z48_2 z48_3
         try clear q11_0 q11_1 q11_2 q11_3
         try clear q13_0 q13_1 q13_2 q13_3
         try clear q15_0 q15_1 q15_2 q15_3
         try clear q17_0 q17_1 q17_2 q17_3
         try clear q31_0 q31_1 q31_2 q31_3
         try clear q33_0 q33_1 q33_2 q33_3
         try clear q35_0 q35_1 q35_2 q35_3
         try clear q37_0 q37_1 q37_2 q37_3
         try clear q39_0 q39_1 q39_2 q39_3
         try clear q41_0 q41_1 q41_2 q41_3
         try clear q48_0 q48_1 q48_2 q48_3
         try clear hx696_0
         try clear hx696_1
         try clear hx696_2
         try clear hx696_3
         try clear hx699_0
         try clear hx699_1
         try clear hx699_2
         try clear hx699_3
         try clear hx701_0
         try clear hx701_1
         try clear hx701_2
         try clear hx701_3
         try clear hx702_0
         try clear hx702_1
         try clear hx702_2
         try clear hx702_3
         try clear hx703_0
         try clear hx703_1
         try clear hx703_2
         try clear hx703_3
         try clear hx704_0
         try clear hx704_1
         try clear hx704_2
         try clear hx704_3
         try clear hx705_0
         try clear hx705_1
         try clear hx705_2
         try clear hx705_3
         try clear p2
         try clear p6
         try clear p696
         try clear p699
         try clear p7
         try clear p701
         try clear p702
         try clear p703
         try clear p704
         try clear p705
         try clear q50
         try clear q6
         try clear q696
         try clear q699
         try clear q7
         try clear q701
         try clear q702
         try clear q703
         try clear q704
         try clear q705
         obtain ⟨x108_4, rfl, HA, HK4, BK706, HB⟩ := hrel
         cases gk with
         | zero => exact absurd HA.out (by simp [spec_l6Rule.l3])
         | succ k4 =>
          have H := HA.out
          clear HA
          simp only [spec_l6Rule.l3] at H
          by_cases c51 : x108_4 < (y707.length : Int)
          case neg =>
           rw [if_neg c51] at H
           have c51b0 := decide_eq_false c51
           clear c51
           have H' := a0_ H
           clear H
           go_wp2
           go_roundg k4
           case measure => have := HK1.out; have := HK2.out; have := HK3.out; have := HK4.out; omega
           case rel => exact ⟨(wrap64 (x99_3 + 1)), rs_, H', ⟨by have := HK1.out; have := HK2.out; have := HK3.out; have := HK4.out; omega⟩, ⟨bq1_⟩⟩
          rw [if_pos c51] at H
          have c51b0 := decide_eq_true c51
          clear c51
          by_cases c52 : 0 ≤ x108_4
          case neg =>
           rw [if_neg c52] at H
           exact absurd H (by simp)
          rw [if_pos c52] at H
          have c52b0 := decide_eq_true c52
          clear c52
          by_cases c53 : x108_4 < (y707.length : Int)
          case neg =>
           rw [if_neg c53] at H
           exact absurd H (by simp)
          rw [if_pos c53] at H
          have c53b0 := decide_eq_true c53
          clear c53
          by_cases c54 : ((rd_T72 y707 x108_4).f0).toList = ((rd_T72 l1 x99_3).f0).toList
          case neg =>
           rw [if_neg c54] at H
           have c54b0 := beq_eq_false_iff_ne.mpr c54
           have c54b1 := bne_iff_ne.mpr c54
           have H' := a0_ H
           clear H
           have p711 : 0 ≤ (x108_4 : Int) := dec_
           have q711 : x108_4 < (y707.length : Int) := dec_
           obtain ⟨ad711, e711, hx711_0, hx711_1, hx711_2, hx711_3⟩ := at_T72 HR710.out x108_4 p711 q711
           obtain rfl : ad705 = ad711 := (by injection e711)
           obtain ⟨hx711_0, hx711_1, hx711_2, hx711_3⟩ := up4_ HB.out hx711_0 hx711_1 hx711_2 hx711_3
           replace p711 := eq_true p711
           replace q711 := eq_true q711
           go_wp2_with (first | ((with_reducible refine gate_dst (N := 13) rfl ?_); refine boxS_ 13 #[.string (⟨#[]⟩ : ByteArray), .int .i64 0, .int .i64 0, .string (⟨#[]⟩ : ByteArray)] 72 (fun gb712 hg w69 hbox hb => ?_); have n0_ := a0_ (bkB_ BK706 hb); have n1_ := a0_ (below_step bq1_ hb); have n2_ := a0_ (hbox); have n3_ := a0_ (gw_ hg (below_size bq1_) : w.heap.size ≤ gb712); have n4_ := n3_; have n5_ := a0_ ((by rw [hg]; exact Nat.ne_of_lt (blk_lt (g := gb706) (o := .cells #[.string ((rd_T72 l1 x99_3).f0), .int .i64 ((rd_T72 l1 x99_3).f1), .int .i64 ((rd_T72 l1 x99_3).f2), .string ((rd_T72 l1 x99_3).f3)] 72 (0, 0)) (kB_ BK706.out)) : gb706 ≠ gb712)); have n6_ := a0_ ((by rw [hg]; exact Nat.ne_of_gt (blk_lt (g := gb706) (o := .cells #[.string ((rd_T72 l1 x99_3).f0), .int .i64 ((rd_T72 l1 x99_3).f1), .int .i64 ((rd_T72 l1 x99_3).f2), .string ((rd_T72 l1 x99_3).f3)] 72 (0, 0)) (kB_ BK706.out)) : gb712 ≠ gb706)); clear BK706; clear HB; have BK706 := n0_; have HB := n1_; have BK712 := n2_; have GW712 := n3_; have GE712 := n4_; have NB706_712 := n5_; have NB712_706 := n6_; clear n0_ n1_ n2_ n3_ n4_ n5_ n6_; clear hb hbox hg; have hnb70 := NB712_706.out; have hnc70 := NB706_712.out; obtain ⟨z71_0, z71_1, z71_2, z71_3, q71_0, q71_1, q71_2, q71_3⟩ := bk4_ BK712.out; obtain ⟨z72_0, z72_1, z72_2, z72_3, q72_0, q72_1, q72_2, q72_3⟩ := bk4_ BK706.out))
           go_roundg k4
           case measure => have := HK1.out; have := HK2.out; have := HK3.out; have := HK4.out; omega
           case rel => exact ⟨(wrap64 (x108_4 + 1)), rs_, H', ⟨by have := HK1.out; have := HK2.out; have := HK3.out; have := HK4.out; omega⟩, ⟨bfar4_ NB706_712.out BK706.out⟩, ⟨bq1_⟩⟩
          rw [if_pos c54] at H
          have c54b0 := beq_iff_eq.mpr c54
          have c54b1 := bne_eq_false_iff_eq.mpr c54
          clear c54
          by_cases c55 : ((rd_T72 y707 x108_4).f1) = 5
          case pos =>
           rw [if_pos c55] at H
           have c55b0 := beq_iff_eq.mpr c55
           have c55b1 := bne_eq_false_iff_eq.mpr c55
           clear c55
           obtain rfl := Option.some.inj H
           have p711 : 0 ≤ (x108_4 : Int) := dec_
           have q711 : x108_4 < (y707.length : Int) := dec_
           obtain ⟨ad711, e711, hx711_0, hx711_1, hx711_2, hx711_3⟩ := at_T72 HR710.out x108_4 p711 q711
           obtain rfl : ad705 = ad711 := (by injection e711)
           obtain ⟨hx711_0, hx711_1, hx711_2, hx711_3⟩ := up4_ HB.out hx711_0 hx711_1 hx711_2 hx711_3
           replace p711 := eq_true p711
           replace q711 := eq_true q711
           go_wp2_with (first | ((with_reducible refine gate_dst (N := 13) rfl ?_); refine boxS_ 13 #[.string (⟨#[]⟩ : ByteArray), .int .i64 0, .int .i64 0, .string (⟨#[]⟩ : ByteArray)] 72 (fun gb712 hg w56 hbox hb => ?_); have n0_ := a0_ (bkB_ BK706 hb); have n1_ := a0_ (below_step bq1_ hb); have n2_ := a0_ (hbox); have n3_ := a0_ (gw_ hg (below_size bq1_) : w.heap.size ≤ gb712); have n4_ := n3_; have n5_ := a0_ ((by rw [hg]; exact Nat.ne_of_lt (blk_lt (g := gb706) (o := .cells #[.string ((rd_T72 l1 x99_3).f0), .int .i64 ((rd_T72 l1 x99_3).f1), .int .i64 ((rd_T72 l1 x99_3).f2), .string ((rd_T72 l1 x99_3).f3)] 72 (0, 0)) (kB_ BK706.out)) : gb706 ≠ gb712)); have n6_ := a0_ ((by rw [hg]; exact Nat.ne_of_gt (blk_lt (g := gb706) (o := .cells #[.string ((rd_T72 l1 x99_3).f0), .int .i64 ((rd_T72 l1 x99_3).f1), .int .i64 ((rd_T72 l1 x99_3).f2), .string ((rd_T72 l1 x99_3).f3)] 72 (0, 0)) (kB_ BK706.out)) : gb712 ≠ gb706)); clear BK706; clear HB; have BK706 := n0_; have HB := n1_; have BK712 := n2_; have GW712 := n3_; have GE712 := n4_; have NB706_712 := n5_; have NB712_706 := n6_; clear n0_ n1_ n2_ n3_ n4_ n5_ n6_; clear hb hbox hg; have hnb57 := NB712_706.out; have hnc57 := NB706_712.out; obtain ⟨z58_0, z58_1, z58_2, z58_3, q58_0, q58_1, q58_2, q58_3⟩ := bk4_ BK712.out; obtain ⟨z59_0, z59_1, z59_2, z59_3, q59_0, q59_1, q59_2, q59_3⟩ := bk4_ BK706.out))
           go_ret
           exact ⟨rr_, bq1_⟩
          rw [if_neg c55] at H
          have c55b0 := beq_eq_false_iff_ne.mpr c55
          have c55b1 := bne_iff_ne.mpr c55
          by_cases c60 : ((rd_T72 l1 x99_3).f1) = 5
          case pos =>
           rw [if_pos c60] at H
           have c60b0 := beq_iff_eq.mpr c60
           have c60b1 := bne_eq_false_iff_eq.mpr c60
           clear c60
           obtain rfl := Option.some.inj H
           have p711 : 0 ≤ (x108_4 : Int) := dec_
           have q711 : x108_4 < (y707.length : Int) := dec_
           obtain ⟨ad711, e711, hx711_0, hx711_1, hx711_2, hx711_3⟩ := at_T72 HR710.out x108_4 p711 q711
           obtain rfl : ad705 = ad711 := (by injection e711)
           obtain ⟨hx711_0, hx711_1, hx711_2, hx711_3⟩ := up4_ HB.out hx711_0 hx711_1 hx711_2 hx711_3
           replace p711 := eq_true p711
           replace q711 := eq_true q711
           go_wp2_with (first | ((with_reducible refine gate_dst (N := 13) rfl ?_); refine boxS_ 13 #[.string (⟨#[]⟩ : ByteArray), .int .i64 0, .int .i64 0, .string (⟨#[]⟩ : ByteArray)] 72 (fun gb712 hg w61 hbox hb => ?_); have n0_ := a0_ (bkB_ BK706 hb); have n1_ := a0_ (below_step bq1_ hb); have n2_ := a0_ (hbox); have n3_ := a0_ (gw_ hg (below_size bq1_) : w.heap.size ≤ gb712); have n4_ := n3_; have n5_ := a0_ ((by rw [hg]; exact Nat.ne_of_lt (blk_lt (g := gb706) (o := .cells #[.string ((rd_T72 l1 x99_3).f0), .int .i64 ((rd_T72 l1 x99_3).f1), .int .i64 ((rd_T72 l1 x99_3).f2), .string ((rd_T72 l1 x99_3).f3)] 72 (0, 0)) (kB_ BK706.out)) : gb706 ≠ gb712)); have n6_ := a0_ ((by rw [hg]; exact Nat.ne_of_gt (blk_lt (g := gb706) (o := .cells #[.string ((rd_T72 l1 x99_3).f0), .int .i64 ((rd_T72 l1 x99_3).f1), .int .i64 ((rd_T72 l1 x99_3).f2), .string ((rd_T72 l1 x99_3).f3)] 72 (0, 0)) (kB_ BK706.out)) : gb712 ≠ gb706)); clear BK706; clear HB; have BK706 := n0_; have HB := n1_; have BK712 := n2_; have GW712 := n3_; have GE712 := n4_; have NB706_712 := n5_; have NB712_706 := n6_; clear n0_ n1_ n2_ n3_ n4_ n5_ n6_; clear hb hbox hg; have hnb62 := NB712_706.out; have hnc62 := NB706_712.out; obtain ⟨z63_0, z63_1, z63_2, z63_3, q63_0, q63_1, q63_2, q63_3⟩ := bk4_ BK712.out; obtain ⟨z64_0, z64_1, z64_2, z64_3, q64_0, q64_1, q64_2, q64_3⟩ := bk4_ BK706.out))
           go_ret
           exact ⟨rr_, bq1_⟩
          rw [if_neg c60] at H
          have c60b0 := beq_eq_false_iff_ne.mpr c60
          have c60b1 := bne_iff_ne.mpr c60
          have H' := a0_ H
          clear H
          have p711 : 0 ≤ (x108_4 : Int) := dec_
          have q711 : x108_4 < (y707.length : Int) := dec_
          obtain ⟨ad711, e711, hx711_0, hx711_1, hx711_2, hx711_3⟩ := at_T72 HR710.out x108_4 p711 q711
          obtain rfl : ad705 = ad711 := (by injection e711)
          obtain ⟨hx711_0, hx711_1, hx711_2, hx711_3⟩ := up4_ HB.out hx711_0 hx711_1 hx711_2 hx711_3
          replace p711 := eq_true p711
          replace q711 := eq_true q711
          go_wp2_with (first | ((with_reducible refine gate_dst (N := 13) rfl ?_); refine boxS_ 13 #[.string (⟨#[]⟩ : ByteArray), .int .i64 0, .int .i64 0, .string (⟨#[]⟩ : ByteArray)] 72 (fun gb712 hg w65 hbox hb => ?_); have n0_ := a0_ (bkB_ BK706 hb); have n1_ := a0_ (below_step bq1_ hb); have n2_ := a0_ (hbox); have n3_ := a0_ (gw_ hg (below_size bq1_) : w.heap.size ≤ gb712); have n4_ := n3_; have n5_ := a0_ ((by rw [hg]; exact Nat.ne_of_lt (blk_lt (g := gb706) (o := .cells #[.string ((rd_T72 l1 x99_3).f0), .int .i64 ((rd_T72 l1 x99_3).f1), .int .i64 ((rd_T72 l1 x99_3).f2), .string ((rd_T72 l1 x99_3).f3)] 72 (0, 0)) (kB_ BK706.out)) : gb706 ≠ gb712)); have n6_ := a0_ ((by rw [hg]; exact Nat.ne_of_gt (blk_lt (g := gb706) (o := .cells #[.string ((rd_T72 l1 x99_3).f0), .int .i64 ((rd_T72 l1 x99_3).f1), .int .i64 ((rd_T72 l1 x99_3).f2), .string ((rd_T72 l1 x99_3).f3)] 72 (0, 0)) (kB_ BK706.out)) : gb712 ≠ gb706)); clear BK706; clear HB; have BK706 := n0_; have HB := n1_; have BK712 := n2_; have GW712 := n3_; have GE712 := n4_; have NB706_712 := n5_; have NB712_706 := n6_; clear n0_ n1_ n2_ n3_ n4_ n5_ n6_; clear hb hbox hg; have hnb66 := NB712_706.out; have hnc66 := NB706_712.out; obtain ⟨z67_0, z67_1, z67_2, z67_3, q67_0, q67_1, q67_2, q67_3⟩ := bk4_ BK712.out; obtain ⟨z68_0, z68_1, z68_2, z68_3, q68_0, q68_1, q68_2, q68_3⟩ := bk4_ BK706.out))
          go_roundg k4
          case measure => have := HK1.out; have := HK2.out; have := HK3.out; have := HK4.out; omega
          case rel => exact ⟨(wrap64 (x108_4 + 1)), rs_, H', ⟨by have := HK1.out; have := HK2.out; have := HK3.out; have := HK4.out; omega⟩, ⟨bfar4_ NB706_712.out BK706.out⟩, ⟨bq1_⟩⟩
       rw [if_neg c42] at H
       have c42b0 := decide_eq_false c42
       clear c42
       obtain ⟨t713, A730, H⟩ := Option.bind_eq_some_iff.mp H
       have A73 := a0_ A730
       clear A730
       by_cases c74 : t713 = true
       case pos =>
        subst c74
        rw [if_pos rfl] at H
        obtain rfl := Option.some.inj H
        go_wp2_with (first | (go_at_call 85; (with_reducible refine (spec_l6Has.calls k3 _ _ l1 a0 5 true _ ?side1 ?side2 A73.out).mono ?_); (case side1 => exact kC_ HR1.out HB.out); (case side2 => exact HC1.out); rintro e w75 ⟨rfl, hb⟩; replace HB := a0_ (below_step bq0_ hb); (try clear hb); (try clear hb2); (try clear hk); (try clear hi)))
        go_ret
        exact ⟨rr_, bq0_⟩
       replace c74 := Bool.eq_false_iff.mpr c74
       subst c74
       rw [if_neg (show ¬ (false = true) by decide)] at H
       have H' := a0_ H
       clear H
       go_wp2_with (first | (go_at_call 85; (with_reducible refine (spec_l6Has.calls k3 _ _ l1 a0 5 false _ ?side1 ?side2 A73.out).mono ?_); (case side1 => exact kC_ HR1.out HB.out); (case side2 => exact HC1.out); rintro e w76 ⟨rfl, hb⟩; replace HB := a0_ (below_step bq0_ hb); (try clear hb); (try clear hb2); (try clear hk); (try clear hi)))
       go_loopg [134] k3 (fun kq v134 w' => ∃ (x134_4 : Int), v134 = .int .i64 x134_4 ∧ Aside0 (spec_l6Rule.l4 kq a0 l1 l1 (l1.length : Int) x134_4 = some r) ∧ Aside0 (kq ≤ k3) ∧ Aside0 (Below w.heap.size w w'))
       case atStart => exact ⟨(0), rs_, H', ⟨Nat.le_refl _⟩, ⟨bq0_⟩⟩
       case round =>
        clear H'
        try clear c1
        try clear c2
        try clear p2
        try clear c3
        try clear c3b0
        try clear c4
        try clear c4b0
        try clear c5
        try clear c5b0
        try clear q5
        try clear c6
        try clear p6
        try clear q6
        try clear hx6
        try clear c7
        try clear p7
        try clear q7
        try clear hx7
        try clear c8
        try clear c8b0
        try clear c8b1
        try clear c9
        try clear c9b0
        try clear c9b1
        try clear c18
        try clear c18b0
        try clear c18b1
        try clear c19
        try clear c19b0
        try clear c20
        try clear c20b0
        try clear c21
        try clear c21b0
        try clear c22
        try clear c22b0
        try clear c24
        try clear c24b0
        try clear c25
        try clear c25b0
        try clear c26
        try clear c26b0
        try clear c26b1
        try clear c27
        try clear c27b0
        try clear c27b1
        try clear c28
        try clear c28b0
        try clear c28b1
        try clear c29
        try clear c29b0
        try clear c29b1
        try clear c42
        try clear c42b0
        try clear c43
        try clear c43b0
        try clear c44
        try clear c44b0
        try clear c45
        try clear c45b0
        try clear c46
        try clear c46b0
        try clear c46b1
        try clear q50
        try clear c51
        try clear c51b0
        try clear c52
        try clear c52b0
        try clear c53
        try clear c53b0
        try clear c54
        try clear c54b0
        try clear c54b1
        try clear c55
        try clear c55b0
        try clear c55b1
        try clear c57
        try clear c60
        try clear c60b0
        try clear c60b1
        try clear c62
        try clear p64
        try clear c66
        try clear p69
        try clear q69
        try clear hx69
        try clear c70
        try clear p70
        try clear q70
        try clear hx70
        try clear p71
        try clear q71
        try clear hx71
        try clear c74
        try clear z11_0 z11_1 z11_2 z11_3
        try clear z13_0 z13_1 z13_2 z13_3
        try clear z15_0 z15_1 z15_2 z15_3
        try clear z17_0 z17_1 z17_2 z17_3
        try clear z31_0 z31_1 z31_2 z31_3
        try clear z33_0 z33_1 z33_2 z33_3
        try clear z35_0 z35_1 z35_2 z35_3
        try clear z37_0 z37_1 z37_2 z37_3
        try clear z39_0 z39_1 z39_2 z39_3
        try clear z41_0 z41_1 z41_2 z41_3
        try clear z48_0 z48_1 z48_2 z48_3
        try clear z58_0 z58_1 z58_2 z58_3
        try clear z59_0 z59_1 z59_2 z59_3
        try clear z63_0 z63_1 z63_2 z63_3
        try clear z64_0 z64_1 z64_2 z64_3
        try clear z67_0 z67_1 z67_2 z67_3
        try clear z68_0 z68_1 z68_2 z68_3
        try clear z71_0 z71_1 z71_2 z71_3
        try clear z72_0 z72_1 z72_2 z72_3
        try clear q11_0 q11_1 q11_2 q11_3
        try clear q13_0 q13_1 q13_2 q13_3
        try clear q15_0 q15_1 q15_2 q15_3
        try clear q17_0 q17_1 q17_2 q17_3
        try clear q31_0 q31_1 q31_2 q31_3
        try clear q33_0 q33_1 q33_2 q33_3
        try clear q35_0 q35_1 q35_2 q35_3
        try clear q37_0 q37_1 q37_2 q37_3
        try clear q39_0 q39_1 q39_2 q39_3
        try clear q41_0 q41_1 q41_2 q41_3
        try clear q48_0 q48_1 q48_2 q48_3
        try clear q58_0 q58_1 q58_2 q58_3
        try clear q59_0 q59_1 q59_2 q59_3
        try clear q63_0 q63_1 q63_2 q63_3
        try clear q64_0 q64_1 q64_2 q64_3
        try clear q67_0 q67_1 q67_2 q67_3
        try clear q68_0 q68_1 q68_2 q68_3
        try clear q71_0 q71_1 q71_2 q71_3
        try clear q72_0 q72_1 q72_2 q72_3
        try clear hx696_0
        try clear hx696_1
        try clear hx696_2
        try clear hx696_3
        try clear hx699_0
        try clear hx699_1
        try clear hx699_2
        try clear hx699_3
        try clear hx701_0
        try clear hx701_1
        try clear hx701_2
        try clear hx701_3
        try clear hx702_0
        try clear hx702_1
        try clear hx702_2
        try clear hx702_3
        try clear hx703_0
        try clear hx703_1
        try clear hx703_2
        try clear hx703_3
        try clear hx704_0
        try clear hx704_1
        try clear hx704_2
        try clear hx704_3
        try clear hx705_0
        try clear hx705_1
        try clear hx705_2
        try clear hx705_3
        try clear hx711_0
        try clear hx711_1
        try clear hx711_2
        try clear hx711_3
        try clear p2
        try clear p6
        try clear p696
        try clear p699
        try clear p7
        try clear p701
        try clear p702
        try clear p703
        try clear p704
        try clear p705
        try clear p711
        try clear q5
        try clear q50
        try clear q6
        try clear q696
        try clear q699
        try clear q7
        try clear q701
        try clear q702
        try clear q703
        try clear q704
        try clear q705
        try clear q711
        obtain ⟨x134_4, rfl, HA, HK4, HB⟩ := hrel
        cases gk with
        | zero => exact absurd HA.out (by simp [spec_l6Rule.l4])
        | succ k4 =>
         have H := HA.out
         clear HA
         simp only [spec_l6Rule.l4] at H
         by_cases c77 : x134_4 < (l1.length : Int)
         case neg =>
          rw [if_neg c77] at H
          have c77b0 := decide_eq_false c77
          clear c77
          obtain rfl := Option.some.inj H
          go_wp2
          go_ret
          exact ⟨rr_, bq0_⟩
         rw [if_pos c77] at H
         have c77b0 := decide_eq_true c77
         clear c77
         by_cases c78 : 0 ≤ x134_4
         case neg =>
          rw [if_neg c78] at H
          exact absurd H (by simp)
         rw [if_pos c78] at H
         have c78b0 := decide_eq_true c78
         clear c78
         by_cases c79 : x134_4 < (l1.length : Int)
         case neg =>
          rw [if_neg c79] at H
          exact absurd H (by simp)
         rw [if_pos c79] at H
         have c79b0 := decide_eq_true c79
         clear c79
         obtain ⟨⟨t716, t717⟩, A800, H⟩ := Option.bind_eq_some_iff.mp H
         have A80 := a0_ A800
         clear A800
         by_cases c81 : t717 = true
         case neg =>
          replace c81 := Bool.eq_false_iff.mpr c81
          subst c81
          rw [if_neg (show ¬ (false = true) by decide)] at H
          have H' := a0_ H
          clear H
          have p714 : 0 ≤ (x134_4 : Int) := dec_
          have q714 : x134_4 < (l1.length : Int) := dec_
          obtain ⟨ad714, e714, hx714_0, hx714_1, hx714_2, hx714_3⟩ := at_T72 HR1.out x134_4 p714 q714
          cases e714
          obtain ⟨hx714_0, hx714_1, hx714_2, hx714_3⟩ := up4_ HB.out hx714_0 hx714_1 hx714_2 hx714_3
          replace p714 := eq_true p714
          replace q714 := eq_true q714
          go_wp2_with (first | ((with_reducible refine gate_dst (N := 15) rfl ?_); refine boxS_ 15 #[.string (⟨#[]⟩ : ByteArray), .int .i64 0, .int .i64 0, .string (⟨#[]⟩ : ByteArray)] 72 (fun gb715 hg w101 hbox hb => ?_); have n0_ := a0_ (below_step bq0_ hb); have n1_ := a0_ (hbox); have n2_ := a0_ (gw_ hg : w.heap.size ≤ gb715); have n3_ := n2_; clear HB; have HB := n0_; have BK715 := n1_; have GW715 := n2_; have GE715 := n3_; clear n0_ n1_ n2_ n3_; clear hb hbox hg; obtain ⟨z102_0, z102_1, z102_2, z102_3, q102_0, q102_1, q102_2, q102_3⟩ := bk4_ BK715.out) | (go_at_call 86; (with_reducible refine (spec_l6Cut.calls k4 a0 _ _ l1 ((rd_T72 l1 x134_4).f0) t716 false _ ?side1 ?side2 A80.out).mono ?_); (case side1 => exact Kd.C_below HR1.out bq1_); (case side2 => exact HC1.out); rintro e w103 ⟨rfl, hb⟩; replace BK715 := a0_ (blk_below (g := gb715) (o := .cells #[.string ((rd_T72 l1 x134_4).f0), .int .i64 ((rd_T72 l1 x134_4).f1), .int .i64 ((rd_T72 l1 x134_4).f2), .string ((rd_T72 l1 x134_4).f3)] 72 (0, 0)) (put4_ BK715.out) hb); replace HB := a0_ (below_step bq1_ hb); (try clear hb); (try clear hb2); (try clear hk); (try clear hi)))
          go_roundg k4
          case measure => have := HK1.out; have := HK2.out; have := HK3.out; have := HK4.out; omega
          case rel => exact ⟨(wrap64 (x134_4 + 1)), rs_, H', ⟨by have := HK1.out; have := HK2.out; have := HK3.out; have := HK4.out; omega⟩, ⟨bq1_⟩⟩
         subst c81
         rw [if_pos rfl] at H
         by_cases c82 : ((rd_T72 l1 x134_4).f1) = 1
         case pos =>
          rw [if_pos c82] at H
          have c82b0 := beq_iff_eq.mpr c82
          have c82b1 := bne_eq_false_iff_eq.mpr c82
          clear c82
          have H' := a0_ H
          clear H
          have p714 : 0 ≤ (x134_4 : Int) := dec_
          have q714 : x134_4 < (l1.length : Int) := dec_
          obtain ⟨ad714, e714, hx714_0, hx714_1, hx714_2, hx714_3⟩ := at_T72 HR1.out x134_4 p714 q714
          cases e714
          obtain ⟨hx714_0, hx714_1, hx714_2, hx714_3⟩ := up4_ HB.out hx714_0 hx714_1 hx714_2 hx714_3
          replace p714 := eq_true p714
          replace q714 := eq_true q714
          go_wp2_with (first | ((with_reducible refine gate_dst (N := 15) rfl ?_); refine boxS_ 15 #[.string (⟨#[]⟩ : ByteArray), .int .i64 0, .int .i64 0, .string (⟨#[]⟩ : ByteArray)] 72 (fun gb715 hg w83 hbox hb => ?_); have n0_ := a0_ (below_step bq0_ hb); have n1_ := a0_ (hbox); have n2_ := a0_ (gw_ hg : w.heap.size ≤ gb715); have n3_ := n2_; clear HB; have HB := n0_; have BK715 := n1_; have GW715 := n2_; have GE715 := n3_; clear n0_ n1_ n2_ n3_; clear hb hbox hg; obtain ⟨z84_0, z84_1, z84_2, z84_3, q84_0, q84_1, q84_2, q84_3⟩ := bk4_ BK715.out) | (go_at_call 86; (with_reducible refine (spec_l6Cut.calls k4 a0 _ _ l1 ((rd_T72 l1 x134_4).f0) t716 true _ ?side1 ?side2 A80.out).mono ?_); (case side1 => exact Kd.C_below HR1.out bq1_); (case side2 => exact HC1.out); rintro e w85 ⟨rfl, hb⟩; replace BK715 := a0_ (blk_below (g := gb715) (o := .cells #[.string ((rd_T72 l1 x134_4).f0), .int .i64 ((rd_T72 l1 x134_4).f1), .int .i64 ((rd_T72 l1 x134_4).f2), .string ((rd_T72 l1 x134_4).f3)] 72 (0, 0)) (put4_ BK715.out) hb); replace HB := a0_ (below_step bq1_ hb); (try clear hb); (try clear hb2); (try clear hk); (try clear hi); obtain ⟨z86_0, z86_1, z86_2, z86_3, q86_0, q86_1, q86_2, q86_3⟩ := bk4_ BK715.out))
          go_roundg k4
          case measure => have := HK1.out; have := HK2.out; have := HK3.out; have := HK4.out; omega
          case rel => exact ⟨(wrap64 (x134_4 + 1)), rs_, H', ⟨by have := HK1.out; have := HK2.out; have := HK3.out; have := HK4.out; omega⟩, ⟨bq1_⟩⟩
         rw [if_neg c82] at H
         have c82b0 := beq_eq_false_iff_ne.mpr c82
         have c82b1 := bne_iff_ne.mpr c82
         by_cases c87 : ((rd_T72 l1 x134_4).f1) = 2
         case neg =>
          rw [if_neg c87] at H
          have c87b0 := beq_eq_false_iff_ne.mpr c87
          have c87b1 := bne_iff_ne.mpr c87
          obtain rfl := Option.some.inj H
          have p714 : 0 ≤ (x134_4 : Int) := dec_
          have q714 : x134_4 < (l1.length : Int) := dec_
          obtain ⟨ad714, e714, hx714_0, hx714_1, hx714_2, hx714_3⟩ := at_T72 HR1.out x134_4 p714 q714
          cases e714
          obtain ⟨hx714_0, hx714_1, hx714_2, hx714_3⟩ := up4_ HB.out hx714_0 hx714_1 hx714_2 hx714_3
          replace p714 := eq_true p714
          replace q714 := eq_true q714
          go_wp2_with (first | ((with_reducible refine gate_dst (N := 15) rfl ?_); refine boxS_ 15 #[.string (⟨#[]⟩ : ByteArray), .int .i64 0, .int .i64 0, .string (⟨#[]⟩ : ByteArray)] 72 (fun gb715 hg w97 hbox hb => ?_); have n0_ := a0_ (below_step bq0_ hb); have n1_ := a0_ (hbox); have n2_ := a0_ (gw_ hg : w.heap.size ≤ gb715); have n3_ := n2_; clear HB; have HB := n0_; have BK715 := n1_; have GW715 := n2_; have GE715 := n3_; clear n0_ n1_ n2_ n3_; clear hb hbox hg; obtain ⟨z98_0, z98_1, z98_2, z98_3, q98_0, q98_1, q98_2, q98_3⟩ := bk4_ BK715.out) | (go_at_call 86; (with_reducible refine (spec_l6Cut.calls k4 a0 _ _ l1 ((rd_T72 l1 x134_4).f0) t716 true _ ?side1 ?side2 A80.out).mono ?_); (case side1 => exact Kd.C_below HR1.out bq1_); (case side2 => exact HC1.out); rintro e w99 ⟨rfl, hb⟩; replace BK715 := a0_ (blk_below (g := gb715) (o := .cells #[.string ((rd_T72 l1 x134_4).f0), .int .i64 ((rd_T72 l1 x134_4).f1), .int .i64 ((rd_T72 l1 x134_4).f2), .string ((rd_T72 l1 x134_4).f3)] 72 (0, 0)) (put4_ BK715.out) hb); replace HB := a0_ (below_step bq1_ hb); (try clear hb); (try clear hb2); (try clear hk); (try clear hi); obtain ⟨z100_0, z100_1, z100_2, z100_3, q100_0, q100_1, q100_2, q100_3⟩ := bk4_ BK715.out))
          go_ret
          exact ⟨rr_, bq1_⟩
         rw [if_pos c87] at H
         have c87b0 := beq_iff_eq.mpr c87
         have c87b1 := bne_eq_false_iff_eq.mpr c87
         clear c87
         by_cases c88 : ((rd_T72 l1 x134_4).f0).toList = t716.toList
         case neg =>
          rw [if_neg c88] at H
          have c88b0 := beq_eq_false_iff_ne.mpr c88
          have c88b1 := bne_iff_ne.mpr c88
          obtain rfl := Option.some.inj H
          have p714 : 0 ≤ (x134_4 : Int) := dec_
          have q714 : x134_4 < (l1.length : Int) := dec_
          obtain ⟨ad714, e714, hx714_0, hx714_1, hx714_2, hx714_3⟩ := at_T72 HR1.out x134_4 p714 q714
          cases e714
          obtain ⟨hx714_0, hx714_1, hx714_2, hx714_3⟩ := up4_ HB.out hx714_0 hx714_1 hx714_2 hx714_3
          replace p714 := eq_true p714
          replace q714 := eq_true q714
          go_wp2_with (first | ((with_reducible refine gate_dst (N := 15) rfl ?_); refine boxS_ 15 #[.string (⟨#[]⟩ : ByteArray), .int .i64 0, .int .i64 0, .string (⟨#[]⟩ : ByteArray)] 72 (fun gb715 hg w93 hbox hb => ?_); have n0_ := a0_ (below_step bq0_ hb); have n1_ := a0_ (hbox); have n2_ := a0_ (gw_ hg : w.heap.size ≤ gb715); have n3_ := n2_; clear HB; have HB := n0_; have BK715 := n1_; have GW715 := n2_; have GE715 := n3_; clear n0_ n1_ n2_ n3_; clear hb hbox hg; obtain ⟨z94_0, z94_1, z94_2, z94_3, q94_0, q94_1, q94_2, q94_3⟩ := bk4_ BK715.out) | (go_at_call 86; (with_reducible refine (spec_l6Cut.calls k4 a0 _ _ l1 ((rd_T72 l1 x134_4).f0) t716 true _ ?side1 ?side2 A80.out).mono ?_); (case side1 => exact Kd.C_below HR1.out bq1_); (case side2 => exact HC1.out); rintro e w95 ⟨rfl, hb⟩; replace BK715 := a0_ (blk_below (g := gb715) (o := .cells #[.string ((rd_T72 l1 x134_4).f0), .int .i64 ((rd_T72 l1 x134_4).f1), .int .i64 ((rd_T72 l1 x134_4).f2), .string ((rd_T72 l1 x134_4).f3)] 72 (0, 0)) (put4_ BK715.out) hb); replace HB := a0_ (below_step bq1_ hb); (try clear hb); (try clear hb2); (try clear hk); (try clear hi); obtain ⟨z96_0, z96_1, z96_2, z96_3, q96_0, q96_1, q96_2, q96_3⟩ := bk4_ BK715.out))
          go_ret
          exact ⟨rr_, bq1_⟩
         rw [if_pos c88] at H
         have c88b0 := beq_iff_eq.mpr c88
         have c88b1 := bne_eq_false_iff_eq.mpr c88
         clear c88
         have H' := a0_ H
         clear H
         have p714 : 0 ≤ (x134_4 : Int) := dec_
         have q714 : x134_4 < (l1.length : Int) := dec_
         obtain ⟨ad714, e714, hx714_0, hx714_1, hx714_2, hx714_3⟩ := at_T72 HR1.out x134_4 p714 q714
         cases e714
         obtain ⟨hx714_0, hx714_1, hx714_2, hx714_3⟩ := up4_ HB.out hx714_0 hx714_1 hx714_2 hx714_3
         replace p714 := eq_true p714
         replace q714 := eq_true q714
         go_wp2_with (first | ((with_reducible refine gate_dst (N := 15) rfl ?_); refine boxS_ 15 #[.string (⟨#[]⟩ : ByteArray), .int .i64 0, .int .i64 0, .string (⟨#[]⟩ : ByteArray)] 72 (fun gb715 hg w89 hbox hb => ?_); have n0_ := a0_ (below_step bq0_ hb); have n1_ := a0_ (hbox); have n2_ := a0_ (gw_ hg : w.heap.size ≤ gb715); have n3_ := n2_; clear HB; have HB := n0_; have BK715 := n1_; have GW715 := n2_; have GE715 := n3_; clear n0_ n1_ n2_ n3_; clear hb hbox hg; obtain ⟨z90_0, z90_1, z90_2, z90_3, q90_0, q90_1, q90_2, q90_3⟩ := bk4_ BK715.out) | (go_at_call 86; (with_reducible refine (spec_l6Cut.calls k4 a0 _ _ l1 ((rd_T72 l1 x134_4).f0) t716 true _ ?side1 ?side2 A80.out).mono ?_); (case side1 => exact Kd.C_below HR1.out bq1_); (case side2 => exact HC1.out); rintro e w91 ⟨rfl, hb⟩; replace BK715 := a0_ (blk_below (g := gb715) (o := .cells #[.string ((rd_T72 l1 x134_4).f0), .int .i64 ((rd_T72 l1 x134_4).f1), .int .i64 ((rd_T72 l1 x134_4).f2), .string ((rd_T72 l1 x134_4).f3)] 72 (0, 0)) (put4_ BK715.out) hb); replace HB := a0_ (below_step bq1_ hb); (try clear hb); (try clear hb2); (try clear hk); (try clear hi); obtain ⟨z92_0, z92_1, z92_2, z92_3, q92_0, q92_1, q92_2, q92_3⟩ := bk4_ BK715.out))
         go_roundg k4
         case measure => have := HK1.out; have := HK2.out; have := HK3.out; have := HK4.out; omega
         case rel => exact ⟨(wrap64 (x134_4 + 1)), rs_, H', ⟨by have := HK1.out; have := HK2.out; have := HK3.out; have := HK4.out; omega⟩, ⟨bq1_⟩⟩
end Go.Proofs.YtkpkfallgjdkmaaGreatDoor.P
