/- FnExactNamesIn: part 16 of 30 of my texts for this claim, joined; the theorem stands in the last. Conditions: none beyond the statement's. -/
import Derived.Test.YtkpkfallgjdkmaaGreatDoorMFnExactNamesInx3
import Derived.Test.YtkpkfallgjdkmaaGreatDoorMFnExactNamesInx12
import Derived.Test.YtkpkfallgjdkmaaGreatDoorMFnExactNamesInx5
import Derived.Test.YtkpkfallgjdkmaaGreatDoorMFnExactNamesInx14
import Derived.Test.YtkpkfallgjdkmaaGreatDoorMFnExactNamesInx7
import Derived.Test.YtkpkfallgjdkmaaGreatDoorMFnExactNamesInx8
namespace Go.Proofs.YtkpkfallgjdkmaaGreatDoor.P
open Go.RowKit Go.Proofs.YtkpkfallgjdkmaaGreatDoorW.PrintWords Go.Proofs.YtkpkfallgjdkmaaGreatDoorW.PrintLast Go.Proofs.YtkpkfallgjdkmaaGreatDoorW.PrintMore
attribute [local go_sem] max2_int min2_int max_two min_two max_three min_three max_four min_four
set_option linter.unusedVariables false
set_option linter.unusedSimpArgs false
attribute [local go_sem] gtr_less
mutual
def spec_l1Compare.l0 : Nat → List ByteArray → List ByteArray → Int → Option (Int)
 | 0, _, _, _ => none
 | k + 1, x5, x7, x9 => if x9 ≤ (x5.length : Int) then (spec_l1Compare.j1 k x5 x7 x9 (decide (x9 ≤ (x7.length : Int)))) else (spec_l1Compare.j1 k x5 x7 x9 false)
def spec_l1Compare.j1 : Nat → List ByteArray → List ByteArray → Int → Bool → Option (Int)
 | 0, _, _, _, _ => none
 | k + 1, x5, x7, x9, x31 => if x31 = true then (if 0 ≤ (wrap64 ((x5.length : Int) - x9)) then (if (wrap64 ((x5.length : Int) - x9)) < (x5.length : Int) then (if 0 ≤ (wrap64 ((x7.length : Int) - x9)) then (if (wrap64 ((x7.length : Int) - x9)) < (x7.length : Int) then (if (Op.bytesLess ((rdOf ByteArray.empty x5 (wrap64 ((x5.length : Int) - x9))).toList) ((rdOf ByteArray.empty x7 (wrap64 ((x7.length : Int) - x9))).toList)) = true then (some (-1)) else (if (Op.bytesLess ((rdOf ByteArray.empty x7 (wrap64 ((x7.length : Int) - x9))).toList) ((rdOf ByteArray.empty x5 (wrap64 ((x5.length : Int) - x9))).toList)) = true then (some 1) else (spec_l1Compare.l0 k x5 x7 (wrap64 (x9 + 1))))) else (none)) else (none)) else (none)) else (none)) else (if (x5.length : Int) < (x7.length : Int) then (some (-1)) else (if (x5.length : Int) > (x7.length : Int) then (some 1) else (some 0)))
end
def spec_l1Compare.f (k : Nat) (a0 : ByteArray) (a1 : ByteArray) : Option (Int) := (spec_l1Labels.f k a0).bind fun bt665 => ((spec_l1Labels.f k a1).bind fun bt669 => (spec_l1Compare.l0 k bt665.1 bt669.1 1))
set_option maxHeartbeats 8000000 in
set_option maxRecDepth 100000 in
theorem spec_l1Compare.calls (k : Nat) (a0 : ByteArray) (a1 : ByteArray) (r : Int) (w : World) (h : spec_l1Compare.f k a0 a1 = some r) :
 Calls Tryz.prog 110 #[.string a0, .string a1] w fun e w' => e = .returned (.int .i64 r) ∧ Below w.heap.size w w' := by
 have HB := a0_ (Below.refl w.heap.size w)
 have H : ((spec_l1Labels.f k a0).bind fun bt665 => ((spec_l1Labels.f k a1).bind fun bt669 => (spec_l1Compare.l0 k bt665.1 bt669.1 1))) = some r := h
 clear h
 obtain ⟨⟨t665, t666⟩, A30, H⟩ := Option.bind_eq_some_iff.mp H
 have A3 := a0_ A30
 clear A30
 obtain ⟨⟨t669, t670⟩, A40, H⟩ := Option.bind_eq_some_iff.mp H
 have A4 := a0_ A40
 clear A40
 have H' := a0_ H
 clear H
 go_enter Tryz.func110, Tryz.ntmps110
 go_wp2_with (first | ((with_reducible refine gate_callee (f := 81) rfl ?_); refine goesL_ (some 14) rfl rfl Tryz.func81 (by kernel_rfl) rfl #[.string a0] rfl argsS_ ?_; (with_reducible refine (spec_l1Labels.calls k a0 t665 t666 _ A3.out).mono ?_); rintro e w5 ⟨v667, rfl, ho0, hb⟩; refine ⟨_, rfl, ?_⟩; have HO668 := a0_ (Kd.R_lower ho0 (below_size bq0_)); replace HB := a0_ (below_step bq0_ hb); (try clear hb); (try clear hb2); (try clear hk); (try clear hi); (try clear ho0)) | ((with_reducible refine gate_callee (f := 81) rfl ?_); refine goesL_ (some 19) rfl rfl Tryz.func81 (by kernel_rfl) rfl #[.string a1] rfl argsS_ ?_; (with_reducible refine (spec_l1Labels.calls k a1 t669 t670 _ A4.out).mono ?_); rintro e w6 ⟨v671, rfl, ho0, hb⟩; refine ⟨_, rfl, ?_⟩; have n0_ := a0_ (Kd.R_elder' (kR_ HO668.out) (Kd.R_base ho0) hb); have n1_ := a0_ (Kd.R_lower (Kd.R_new' ho0 (Kd.R_lt (kR_ HO668.out))) (below_size bq0_)); have n2_ := a0_ (below_step bq0_ hb); clear HO668; clear HB; have HO668 := n0_; have HO672 := n1_; have HB := n2_; clear n0_ n1_ n2_; (try clear hb); (try clear hb2); (try clear hk); (try clear hi); (try clear ho0)))
 go_loopg [9] k (fun kq v9 w' => ∃ (x9_1 : Int), v9 = .int .i64 x9_1 ∧ Aside0 (spec_l1Compare.l0 kq t665 t669 x9_1 = some r) ∧ Aside0 (kq ≤ k) ∧ Aside0 (Kd.R Kd.string 9 w' w.heap.size (fun k_ => some k_ ≠ (v671 : Value).ownBlock) v667 t665) ∧ Aside0 (Kd.R Kd.string 9 w' w.heap.size (fun k_ => some k_ ≠ (v667 : Value).ownBlock) v671 t669) ∧ Aside0 (Below w.heap.size w w'))
 case atStart => exact ⟨(1), rs_, H', ⟨Nat.le_refl _⟩, ⟨by (with_reducible repeat (first | apply Kd.R_alloc | apply Kd.R_drewN | apply Kd.R_drew)); exact Kd.R_mono HO668.out (fun _ hk => hk.2)⟩, ⟨by (with_reducible repeat (first | apply Kd.R_alloc | apply Kd.R_drewN | apply Kd.R_drew)); exact Kd.R_mono HO672.out (fun _ hk => hk.2)⟩, ⟨bq0_⟩⟩
 case round =>
  clear H'
  try clear c1
  try clear p2
  obtain ⟨x9_1, rfl, HA, HK1, HO_5, HO_7, HB⟩ := hrel
  cases gk with
  | zero => exact absurd HA.out (by simp [spec_l1Compare.l0])
  | succ k1 =>
   have H := HA.out
   clear HA
   simp only [spec_l1Compare.l0] at H
   have HC7 := a0_ H
   clear H
   go_upto_region 4 with (fail)
   go_cut [31] (fun v31 wc => ∃ (kq : Nat) (x31_6 : Bool), v31 = .bool x31_6 ∧ Aside0 (spec_l1Compare.j1 kq t665 t669 x9_1 x31_6 = some r) ∧ Aside0 (kq ≤ k1) ∧ Aside0 (Kd.R Kd.string 9 wc w.heap.size (fun k_ => some k_ ≠ (v671 : Value).ownBlock) v667 t665) ∧ Aside0 (Kd.R Kd.string 9 wc w.heap.size (fun k_ => some k_ ≠ (v667 : Value).ownBlock) v671 t669) ∧ Aside0 (Below w.heap.size w wc))
   case first =>
    have H := HC7.out
    clear HC7
    by_cases c8 : x9_1 ≤ (t665.length : Int)
    case neg =>
     rw [if_neg c8] at H
     have c8b0 := decide_eq_false c8
     clear c8
     (first | rw [c8b0] | (simp only [i64_w, i32_w]; rw [c8b0]) | skip)
     have H' := a0_ H
     clear H
     obtain ⟨Ao11, co11, eo11⟩ := Kd.R_slice HO_5.out
     subst eo11
     go_wp2
     go_meet
     case rel => exact ⟨_, (false), rs_, H', ⟨by have := HK1.out; first | omega | exact Nat.le_refl _⟩, ⟨by (with_reducible repeat (first | apply Kd.R_alloc | apply Kd.R_drewN | apply Kd.R_drew)); exact HO_5.out⟩, ⟨by (with_reducible repeat (first | apply Kd.R_alloc | apply Kd.R_drewN | apply Kd.R_drew)); exact HO_7.out⟩, ⟨bq0_⟩⟩
    rw [if_pos c8] at H
    have c8b0 := decide_eq_true c8
    clear c8
    (first | rw [c8b0] | (simp only [i64_w, i32_w]; rw [c8b0]) | skip)
    have H' := a0_ H
    clear H
    obtain ⟨Ao9, co9, eo9⟩ := Kd.R_slice HO_5.out
    subst eo9
    obtain ⟨Ao10, co10, eo10⟩ := Kd.R_slice HO_7.out
    subst eo10
    go_wp2
    go_meet
    case rel => exact ⟨_, (decide (x9_1 ≤ (t669.length : Int))), rs_, H', ⟨by have := HK1.out; first | omega | exact Nat.le_refl _⟩, ⟨by (with_reducible repeat (first | apply Kd.R_alloc | apply Kd.R_drewN | apply Kd.R_drew)); exact HO_5.out⟩, ⟨by (with_reducible repeat (first | apply Kd.R_alloc | apply Kd.R_drewN | apply Kd.R_drew)); exact HO_7.out⟩, ⟨bq0_⟩⟩
   case rest =>
    clear HC7
    try clear c1
    try clear p2
    try clear c8
    try clear c8b0
    try clear c11
    try clear p2
    obtain ⟨kq, x31_6, rfl, HA, HJ6, HO_5, HO_7, HB⟩ := hcut
    cases kq with
    | zero => exact absurd HA.out (by simp [spec_l1Compare.j1])
    | succ kj6 =>
     have H := HA.out
     clear HA
     simp only [spec_l1Compare.j1] at H
     by_cases c12 : x31_6 = true
     case neg =>
      replace c12 := Bool.eq_false_iff.mpr c12
      subst c12
      rw [if_neg (show ¬ (false = true) by decide)] at H
      by_cases c27 : (t665.length : Int) < (t669.length : Int)
      case pos =>
       rw [if_pos c27] at H
       have c27b0 := decide_eq_true c27
       have c27b1 : decide (t665.length < t669.length) = true := decide_eq_true (Int.ofNat_lt.mp c27)
       clear c27
       obtain rfl := Option.some.inj H
       obtain ⟨Ao28, co28, eo28⟩ := Kd.R_slice HO_5.out
       subst eo28
       obtain ⟨Ao29, co29, eo29⟩ := Kd.R_slice HO_7.out
       subst eo29
       go_wp2
       go_ret
       exact ⟨rr_, bq0_⟩
      rw [if_neg c27] at H
      have c27b0 := decide_eq_false c27
      have c27b1 : decide (t665.length < t669.length) = false := decide_eq_false (fun h => c27 (Int.ofNat_lt.mpr h))
      clear c27
      by_cases c30 : (t665.length : Int) > (t669.length : Int)
      case neg =>
       rw [if_neg c30] at H
       have c30b0 := decide_eq_false c30
       have c30b1 : decide (t669.length < t665.length) = false := decide_eq_false (fun h => c30 (Int.ofNat_lt.mpr h))
       clear c30
       obtain rfl := Option.some.inj H
       obtain ⟨Ao33, co33, eo33⟩ := Kd.R_slice HO_5.out
       subst eo33
       obtain ⟨Ao34, co34, eo34⟩ := Kd.R_slice HO_7.out
       subst eo34
       go_wp2
       go_ret
       exact ⟨rr_, bq0_⟩
      rw [if_pos c30] at H
      have c30b0 := decide_eq_true c30
      have c30b1 : decide (t669.length < t665.length) = true := decide_eq_true (Int.ofNat_lt.mp c30)
      clear c30
      obtain rfl := Option.some.inj H
      obtain ⟨Ao31, co31, eo31⟩ := Kd.R_slice HO_5.out
      subst eo31
      obtain ⟨Ao32, co32, eo32⟩ := Kd.R_slice HO_7.out
      subst eo32
      go_wp2
      go_ret
      exact ⟨rr_, bq0_⟩
     subst c12
     rw [if_pos rfl] at H
     obtain ⟨ji13, hji13⟩ : ∃ j_ : Int, (wrap64 ((t665.length : Int) - x9_1)) = j_ := ⟨_, rfl⟩
     replace H : (if 0 ≤ (ji13) then (if (ji13) < (t665.length : Int) then (if 0 ≤ (wrap64 ((t669.length : Int) - x9_1)) then (if (wrap64 ((t669.length : Int) - x9_1)) < (t669.length : Int) then (if (Op.bytesLess ((rdOf ByteArray.empty t665 (ji13)).toList) ((rdOf ByteArray.empty t669 (wrap64 ((t669.length : Int) - x9_1))).toList)) = true then (some (-1)) else (if (Op.bytesLess ((rdOf ByteArray.empty t669 (wrap64 ((t669.length : Int) - x9_1))).toList) ((rdOf ByteArray.empty t665 (ji13)).toList)) = true then (some 1) else (spec_l1Compare.l0 kj6 t665 t669 (wrap64 (x9_1 + 1))))) else (none)) else (none)) else (none)) else (none)) = some r := by first | (rw [hji13] at H; exact H) | (simp only [hji13] at H ⊢; exact H)
     have hji13w : (IntKind.i64.wrap ((t665.length : Int) - x9_1)) = ji13 := (i64_w _).trans hji13
     by_cases c14 : 0 ≤ (ji13)
     case neg =>
      rw [if_neg c14] at H
      exact absurd H (by simp)
     rw [if_pos c14] at H
     have c14b0 := decide_eq_true c14
     clear c14
     by_cases c15 : (ji13) < (t665.length : Int)
     case neg =>
      rw [if_neg c15] at H
      exact absurd H (by simp)
     rw [if_pos c15] at H
     have c15b0 := decide_eq_true c15
     clear c15
     obtain ⟨ji16, hji16⟩ : ∃ j_ : Int, (wrap64 ((t669.length : Int) - x9_1)) = j_ := ⟨_, rfl⟩
     replace H : (if 0 ≤ (ji16) then (if (ji16) < (t669.length : Int) then (if (Op.bytesLess ((rdOf ByteArray.empty t665 (ji13)).toList) ((rdOf ByteArray.empty t669 (ji16)).toList)) = true then (some (-1)) else (if (Op.bytesLess ((rdOf ByteArray.empty t669 (ji16)).toList) ((rdOf ByteArray.empty t665 (ji13)).toList)) = true then (some 1) else (spec_l1Compare.l0 kj6 t665 t669 (wrap64 (x9_1 + 1))))) else (none)) else (none)) = some r := by first | (rw [hji16] at H; exact H) | (simp only [hji16] at H ⊢; exact H)
     have hji16w : (IntKind.i64.wrap ((t669.length : Int) - x9_1)) = ji16 := (i64_w _).trans hji16
     by_cases c17 : 0 ≤ (ji16)
     case neg =>
      rw [if_neg c17] at H
      exact absurd H (by simp)
     rw [if_pos c17] at H
     have c17b0 := decide_eq_true c17
     clear c17
     by_cases c18 : (ji16) < (t669.length : Int)
     case neg =>
      rw [if_neg c18] at H
      exact absurd H (by simp)
     rw [if_pos c18] at H
     have c18b0 := decide_eq_true c18
     clear c18
     by_cases c19 : (Op.bytesLess ((rdOf ByteArray.empty t665 (ji13)).toList) ((rdOf ByteArray.empty t669 (ji16)).toList)) = true
     case pos =>
      rw [if_pos c19] at H
      have c19b0 : (Op.bytesLess ((rdOf ByteArray.empty t665 (ji13)).toList) ((rdOf ByteArray.empty t669 (ji16)).toList)) = true := c19
      clear c19
      obtain rfl := Option.some.inj H
      obtain ⟨Ao20, co20, eo20⟩ := Kd.R_slice HO_5.out
      subst eo20
      have p673 : 0 ≤ ((ji13) : Int) := dec_
      have q673 : (ji13) < (t665.length : Int) := dec_
      obtain ⟨ad673, e673, hx673_0⟩ := Kd.at_string (Kd.R_reads' HO_5.out).2.2 (ji13) p673 q673
      cases e673
      replace p673 := eq_true p673
      replace q673 := eq_true q673
      obtain ⟨Ao21, co21, eo21⟩ := Kd.R_slice HO_7.out
      subst eo21
      have p674 : 0 ≤ ((ji16) : Int) := dec_
      have q674 : (ji16) < (t669.length : Int) := dec_
      obtain ⟨ad674, e674, hx674_0⟩ := Kd.at_string (Kd.R_reads' HO_7.out).2.2 (ji16) p674 q674
      cases e674
      replace p674 := eq_true p674
      replace q674 := eq_true q674
      go_wp2
      go_ret
      exact ⟨by first | rfl | (simp [errW_none, errW_some] <;> rfl) | (simp only [← hji13, ← hji16]; first | rfl | (simp [errW_none, errW_some] <;> rfl)) | (simp [*, errW_none, errW_some] <;> rfl), bq0_⟩
     rw [if_neg c19] at H
     have c19b0 : (Op.bytesLess ((rdOf ByteArray.empty t665 (ji13)).toList) ((rdOf ByteArray.empty t669 (ji16)).toList)) = false := by simpa using c19
     clear c19
     by_cases c22 : (Op.bytesLess ((rdOf ByteArray.empty t669 (ji16)).toList) ((rdOf ByteArray.empty t665 (ji13)).toList)) = true
     case pos =>
      rw [if_pos c22] at H
      have c22b0 : (Op.bytesLess ((rdOf ByteArray.empty t669 (ji16)).toList) ((rdOf ByteArray.empty t665 (ji13)).toList)) = true := c22
      clear c22
      obtain rfl := Option.some.inj H
      obtain ⟨Ao23, co23, eo23⟩ := Kd.R_slice HO_5.out
      subst eo23
      have p673 : 0 ≤ ((ji13) : Int) := dec_
      have q673 : (ji13) < (t665.length : Int) := dec_
      obtain ⟨ad673, e673, hx673_0⟩ := Kd.at_string (Kd.R_reads' HO_5.out).2.2 (ji13) p673 q673
      cases e673
      replace p673 := eq_true p673
      replace q673 := eq_true q673
      obtain ⟨Ao24, co24, eo24⟩ := Kd.R_slice HO_7.out
      subst eo24
      have p674 : 0 ≤ ((ji16) : Int) := dec_
      have q674 : (ji16) < (t669.length : Int) := dec_
      obtain ⟨ad674, e674, hx674_0⟩ := Kd.at_string (Kd.R_reads' HO_7.out).2.2 (ji16) p674 q674
      cases e674
      replace p674 := eq_true p674
      replace q674 := eq_true q674
      go_wp2
      go_ret
      exact ⟨by first | rfl | (simp [errW_none, errW_some] <;> rfl) | (simp only [← hji13, ← hji16]; first | rfl | (simp [errW_none, errW_some] <;> rfl)) | (simp [*, errW_none, errW_some] <;> rfl), bq0_⟩
     rw [if_neg c22] at H
     have c22b0 : (Op.bytesLess ((rdOf ByteArray.empty t669 (ji16)).toList) ((rdOf ByteArray.empty t665 (ji13)).toList)) = false := by simpa using c22
     clear c22
     have H' := a0_ H
     clear H
     obtain ⟨Ao25, co25, eo25⟩ := Kd.R_slice HO_5.out
     subst eo25
     have p673 : 0 ≤ ((ji13) : Int) := dec_
     have q673 : (ji13) < (t665.length : Int) := dec_
     obtain ⟨ad673, e673, hx673_0⟩ := Kd.at_string (Kd.R_reads' HO_5.out).2.2 (ji13) p673 q673
     cases e673
     replace p673 := eq_true p673
     replace q673 := eq_true q673
     obtain ⟨Ao26, co26, eo26⟩ := Kd.R_slice HO_7.out
     subst eo26
     have p674 : 0 ≤ ((ji16) : Int) := dec_
     have q674 : (ji16) < (t669.length : Int) := dec_
     obtain ⟨ad674, e674, hx674_0⟩ := Kd.at_string (Kd.R_reads' HO_7.out).2.2 (ji16) p674 q674
     cases e674
     replace p674 := eq_true p674
     replace q674 := eq_true q674
     go_wp2
     go_roundg kj6
     case measure => have := HK1.out; have := HJ6.out; omega
     case rel => exact ⟨(wrap64 (x9_1 + 1)), rs_, H', ⟨by have := HK1.out; have := HJ6.out; omega⟩, ⟨by (with_reducible repeat (first | apply Kd.R_alloc | apply Kd.R_drewN | apply Kd.R_drew)); exact HO_5.out⟩, ⟨by (with_reducible repeat (first | apply Kd.R_alloc | apply Kd.R_drewN | apply Kd.R_drew)); exact HO_7.out⟩, ⟨bq0_⟩⟩
end Go.Proofs.YtkpkfallgjdkmaaGreatDoor.P
namespace Go.Proofs.YtkpkfallgjdkmaaGreatDoor.P
open Go.RowKit Go.Proofs.YtkpkfallgjdkmaaGreatDoorW.PrintWords Go.Proofs.YtkpkfallgjdkmaaGreatDoorW.PrintLast Go.Proofs.YtkpkfallgjdkmaaGreatDoorW.PrintMore
attribute [local go_sem] max2_int min2_int max_two min_two max_three min_three max_four min_four
set_option linter.unusedVariables false
set_option linter.unusedSimpArgs false
def impl_serialText.f (a0 : Int) : Option (ByteArray) := (strconv_Itoa.f (Int.tmod a0 4294967296)).bind fun t615 => (some t615)
set_option maxHeartbeats 8000000 in
set_option maxRecDepth 100000 in
theorem impl_serialText.calls (a0 : Int) (r : ByteArray) (w : World) (h : impl_serialText.f a0 = some r) (hv_ : Vars w := by exact vv_) :
 Calls Tryz.prog 66 #[.int .i64 a0] w fun e w' => e = .returned (.string r) ∧ Below w.heap.size w w' := by
 have HV_ := a0_ hv_
 clear hv_
 have HB := a0_ (Below.refl w.heap.size w)
 have H : ((strconv_Itoa.f (Int.tmod a0 4294967296)).bind fun t615 => (some t615)) = some r := h
 clear h
 obtain ⟨t615, A20, H⟩ := Option.bind_eq_some_iff.mp H
 have A2 := a0_ A20
 clear A20
 obtain rfl := Option.some.inj H
 go_enter Tryz.func66, Tryz.ntmps66
 go_wp2_with (first | ((with_reducible refine gate_callee (f := 94) rfl ?_); refine goesL_ (some 5) rfl rfl Tryz.func94 (by kernel_rfl) rfl #[.int .i64 (Int.tmod a0 4294967296)] rfl argsS_ ?_; (with_reducible refine (strconv_Itoa.calls (Int.tmod a0 4294967296) t615 _ A2.out).mono ?_); rintro e w3 ⟨rfl, hb⟩; refine ⟨_, rfl, ?_⟩; replace HB := a0_ (below_step bq0_ hb); (try clear hb); (try clear hb2); (try clear hk); (try clear hi)))
 go_ret
 exact ⟨rr_, bq0_⟩
end Go.Proofs.YtkpkfallgjdkmaaGreatDoor.P
namespace Go.Proofs.YtkpkfallgjdkmaaGreatDoor.P
open Go.RowKit Go.Proofs.YtkpkfallgjdkmaaGreatDoorW.PrintWords Go.Proofs.YtkpkfallgjdkmaaGreatDoorW.PrintLast Go.Proofs.YtkpkfallgjdkmaaGreatDoorW.PrintMore
set_option linter.unusedVariables false
theorem within_eq (n a b : Int) : impl_within.f n a b = some (decide (a ≤ n ∧ n ≤ b)) := by
 unfold impl_within.f
 by_cases h : n ≥ a
 · rw [if_pos h]; congr 1; rw [decide_eq_decide]; omega
 · rw [if_neg h]; congr 1; rw [eq_comm, decide_eq_false_iff_not]; omega
theorem cutset_byte (b : UInt8) : (([97, 98, 99, 100, 101, 102, 103, 104, 105, 106, 107, 108, 109, 110, 111, 112, 113, 114, 115, 116, 117, 118, 119, 120, 121, 122, 48, 49, 50, 51, 52, 53, 54, 55, 56, 57, 45, 95] : List UInt8).contains b) = labelByte b := by
 have h : ∀ n : Fin 256, (([97, 98, 99, 100, 101, 102, 103, 104, 105, 106, 107, 108, 109, 110, 111, 112, 113, 114, 115, 116, 117, 118, 119, 120, 121, 122, 48, 49, 50, 51, 52, 53, 54, 55, 56, 57, 45, 95] : List UInt8).contains (UInt8.ofFin n)) = labelByte (UInt8.ofFin n) := by decide +kernel
 exact h b.toFin
theorem isLabel_eq (s : ByteArray) : impl_isLabel.f s = some (isLabelL s.data.toList) := by
 unfold impl_isLabel.f isLabelL
 rw [Lib.toList_data, within_eq]
 by_cases h0 : s.data.toList = [42]
 · rw [if_pos h0, h0]; rfl
 · rw [if_neg h0, show (s.data.toList == [42]) = false from beq_eq_false_iff_ne.mpr h0, Bool.false_or]
   simp only [Option.bind_some]
   have hl : decide ((1 : Int) ≤ (s.size : Int) ∧ (s.size : Int) ≤ 20) = decide (1 ≤ s.data.toList.length ∧ s.data.toList.length ≤ 20) := by
    rw [decide_eq_decide, size_len]; omega
   rw [hl]
   by_cases h1 : 1 ≤ s.data.toList.length ∧ s.data.toList.length ≤ 20
   · rw [decide_eq_true h1, if_pos rfl, Bool.true_and]
     unfold strings_Trim.f
     rw [if_pos (by rw [size_len]; omega), if_pos (by decide), if_pos (by decide)]
     simp only [Option.bind_some]
     congr 1
     rw [Lib.toList_data, mkB_data]
     have ht := trimS_nil s.data.toList [97, 98, 99, 100, 101, 102, 103, 104, 105, 106, 107, 108, 109, 110, 111, 112, 113, 114, 115, 116, 117, 118, 119, 120, 121, 122, 48, 49, 50, 51, 52, 53, 54, 55, 56, 57, 45, 95]
     have ha : s.data.toList.all (([97, 98, 99, 100, 101, 102, 103, 104, 105, 106, 107, 108, 109, 110, 111, 112, 113, 114, 115, 116, 117, 118, 119, 120, 121, 122, 48, 49, 50, 51, 52, 53, 54, 55, 56, 57, 45, 95] : List UInt8).contains ·) = s.data.toList.all labelByte := by
      congr 1
      funext b
      exact cutset_byte b
     rw [ha] at ht
     show (Lib.trimS s.data.toList [97, 98, 99, 100, 101, 102, 103, 104, 105, 106, 107, 108, 109, 110, 111, 112, 113, 114, 115, 116, 117, 118, 119, 120, 121, 122, 48, 49, 50, 51, 52, 53, 54, 55, 56, 57, 45, 95] == []) = _
     cases hb : s.data.toList.all labelByte with
     | true => rw [ht.2 hb]; rfl
     | false =>
      rw [beq_eq_false_iff_ne]
      intro h
      rw [ht.1 h] at hb
      cases hb
   · rw [decide_eq_false h1]
     rfl
theorem labelsOf_eq (s : ByteArray) (h : s.size < 4294967281) : impl_labelsOf.f s = some ((labelsL s.data.toList).map mkB) := by
 unfold impl_labelsOf.f labelsL strings_Split.f
 rw [Lib.toList_data]
 by_cases h0 : s.data.toList = []
 · rw [if_pos h0, if_pos h0]; rfl
 · rw [if_neg h0, if_neg h0, if_pos (show (⟨#[46]⟩ : ByteArray).size = 1 from rfl), if_pos h]; rfl
theorem good_closure (x : ByteArray) (W : World) : Calls Tryz.prog 101 #[.string x] W fun e W' => e = .returned (.bool (!isLabelL x.data.toList)) ∧ Below W.heap.size W W' :=
 impl_GoodName_1.calls x _ W (by unfold impl_GoodName_1.f; rw [isLabel_eq]; rfl)
def impl_GoodName.f (s : ByteArray) : Option Bool := some (goodL s.data.toList)
set_option maxHeartbeats 4000000 in
theorem impl_GoodName.calls (a0 : ByteArray) (r : Bool) (w : World) (h : impl_GoodName.f a0 = some r) :
 Calls Tryz.prog 72 #[.string a0] w fun e w' => e = .returned (.bool r) ∧ Below w.heap.size w w' := by
 have HG : Aside0 (goodL a0.data.toList = r) := ⟨Option.some.inj h⟩
 clear h
 by_cases h1 : 60 < a0.size
 · have hg : goodL a0.data.toList = false := by
    unfold goodL
    rw [decide_eq_false (by rw [← size_len]; omega)]
    rfl
   obtain rfl := hg.symm.trans HG.out
   have h2 : decide (60 < a0.size) = true := decide_eq_true h1
   have h3 : decide ((60 : Int) < (a0.size : Int)) = true := decide_eq_true (by omega)
   clear HG hg h1
   go_enter Tryz.func72, Tryz.ntmps72
   go_wp2
   go_ret
   exact ⟨rfl, Below.refl _ _⟩
 · have h2 : decide (60 < a0.size) = false := decide_eq_false h1
   have h3 : decide ((60 : Int) < (a0.size : Int)) = false := decide_eq_false (by omega)
   have cl := impl_labelsOf.calls a0 _ w (labelsOf_eq a0 (by omega))
   have eg : ∀ args w, (callFunc 101 args).run Tryz.prog w = .ok (.enter 101 args) w := enters_of Tryz.func101 (by kernel_rfl) rfl
   have cc := fun A c W hr => contains_str A c ((labelsL a0.data.toList).map mkB) 101 #[] (fun x => !isLabelL x.data.toList) W hr eg (fun x _ W' _ => good_closure x W')
   have hany : ((labelsL a0.data.toList).map mkB).any (fun x => !isLabelL x.data.toList) = !(labelsL a0.data.toList).all isLabelL := by
    rw [List.any_map, List.not_all_eq_any_not]
    simp [Function.comp_def, mkB_data]
   have hlen : ((labelsL a0.data.toList).map mkB).length = (labelsL a0.data.toList).length := List.length_map ..
   have hgd : goodL a0.data.toList = (decide ((labelsL a0.data.toList).length ≤ 8) && (labelsL a0.data.toList).all isLabelL) := by
    unfold goodL
    rw [decide_eq_true (by rw [← size_len]; omega), Bool.true_and]
   rw [hany] at cc
   rw [hgd] at HG
   generalize (labelsL a0.data.toList).map mkB = ls at cl cc hlen
   generalize (labelsL a0.data.toList).length = n at hlen HG
   generalize (labelsL a0.data.toList).all isLabelL = b at cc HG
   clear h1 hany hgd
   by_cases h8 : ls.length ≤ 8
   · have h8a : decide (ls.length ≤ 8) = true := decide_eq_true h8
     have h8b : decide ((ls.length : Int) ≤ 8) = true := decide_eq_true (by omega)
     have hr : b = r := by
      have := HG.out
      rwa [decide_eq_true (by omega), Bool.true_and] at this
     subst hr
     clear HG hlen h8
     go_enter Tryz.func72, Tryz.ntmps72
     go_wp2_with (first | (go_at_call 99; refine cl.mono ?_; rintro e w1 ⟨v, rfl, hR, hb⟩; obtain ⟨A, c, rfl⟩ := Kd.R_slice hR; have hC := (Kd.R_reads' hR).2.2) | (go_at_call 100; refine (cc A c _ hC).mono ?_; rintro e w2 ⟨rfl, hb2⟩))
     go_ret
     exact ⟨by simp, below_then hb hb.size hb2⟩
   · have h8a : decide (ls.length ≤ 8) = false := decide_eq_false h8
     have h8b : decide ((ls.length : Int) ≤ 8) = false := decide_eq_false (by omega)
     have hr : false = r := by
      have := HG.out
      rwa [decide_eq_false (by omega), Bool.false_and] at this
     subst hr
     clear HG hlen h8
     go_enter Tryz.func72, Tryz.ntmps72
     go_wp2_with (first | (go_at_call 99; refine cl.mono ?_; rintro e w1 ⟨v, rfl, hR, hb⟩; obtain ⟨A, c, rfl⟩ := Kd.R_slice hR; have hC := (Kd.R_reads' hR).2.2))
     go_ret
     exact ⟨rfl, hb⟩
end Go.Proofs.YtkpkfallgjdkmaaGreatDoor.P
namespace Go.Proofs.YtkpkfallgjdkmaaGreatDoor.P
open Go.RowKit Go.Proofs.YtkpkfallgjdkmaaGreatDoorW.PrintWords Go.Proofs.YtkpkfallgjdkmaaGreatDoorW.PrintLast Go.Proofs.YtkpkfallgjdkmaaGreatDoorW.PrintMore
attribute [local go_sem] max2_int min2_int max_two min_two max_three min_three max_four min_four
set_option linter.unusedVariables false
set_option linter.unusedSimpArgs false
def impl_compareNames.f (k : Nat) (a0 : ByteArray) (a1 : ByteArray) : Option (Int) := (impl_labelsOf.f a0).bind fun t566 => ((impl_labelsOf.f a1).bind fun t569 => ((slices_Reverse_string_string.f k t566).bind fun t572 => ((slices_Reverse_string_string.f k t569).bind fun t573 => ((slices_Compare_string_string.f k t572 t573).bind fun t574 => (some t574)))))
set_option maxHeartbeats 8000000 in
set_option maxRecDepth 100000 in
theorem impl_compareNames.calls (k : Nat) (a0 : ByteArray) (a1 : ByteArray) (r : Int) (w : World) (h : impl_compareNames.f k a0 a1 = some r) :
 Calls Tryz.prog 150 #[.string a0, .string a1] w fun e w' => e = .returned (.int .i64 r) ∧ Below w.heap.size w w' := by
 have HB := a0_ (Below.refl w.heap.size w)
 have H : ((impl_labelsOf.f a0).bind fun t566 => ((impl_labelsOf.f a1).bind fun t569 => ((slices_Reverse_string_string.f k t566).bind fun t572 => ((slices_Reverse_string_string.f k t569).bind fun t573 => ((slices_Compare_string_string.f k t572 t573).bind fun t574 => (some t574)))))) = some r := h
 clear h
 obtain ⟨t566, A30, H⟩ := Option.bind_eq_some_iff.mp H
 have A3 := a0_ A30
 clear A30
 obtain ⟨t569, A40, H⟩ := Option.bind_eq_some_iff.mp H
 have A4 := a0_ A40
 clear A40
 obtain ⟨t572, A50, H⟩ := Option.bind_eq_some_iff.mp H
 have A5 := a0_ A50
 clear A50
 obtain ⟨t573, A60, H⟩ := Option.bind_eq_some_iff.mp H
 have A6 := a0_ A60
 clear A60
 obtain ⟨t574, A70, H⟩ := Option.bind_eq_some_iff.mp H
 have A7 := a0_ A70
 clear A70
 obtain rfl := Option.some.inj H
 go_enter Tryz.func150, Tryz.ntmps150
 go_wp2_with (first | ((with_reducible refine gate_callee (f := 99) rfl ?_); refine goesL_ (some 8) rfl rfl Tryz.func99 (by kernel_rfl) rfl #[.string a0] rfl argsS_ ?_; (with_reducible refine (impl_labelsOf.calls a0 t566 _ A3.out).mono ?_); rintro e w8 ⟨v567, rfl, ho0, hb⟩; refine ⟨_, rfl, ?_⟩; have HO568 := a0_ (Kd.R_lower ho0 (below_size bq0_)); replace HB := a0_ (below_step bq0_ hb); (try clear hb); (try clear hb2); (try clear hk); (try clear hi); (try clear ho0)) | ((with_reducible refine gate_callee (f := 99) rfl ?_); refine goesL_ (some 10) rfl rfl Tryz.func99 (by kernel_rfl) rfl #[.string a1] rfl argsS_ ?_; (with_reducible refine (impl_labelsOf.calls a1 t569 _ A4.out).mono ?_); rintro e w9 ⟨v570, rfl, ho0, hb⟩; refine ⟨_, rfl, ?_⟩; have n0_ := a0_ (Kd.R_elder' (kR_ HO568.out) (Kd.R_base ho0) hb); have n1_ := a0_ (Kd.R_lower (Kd.R_new' ho0 (Kd.R_lt (kR_ HO568.out))) (below_size bq0_)); have n2_ := a0_ (below_step bq0_ hb); clear HO568; clear HB; have HO568 := n0_; have HO571 := n1_; have HB := n2_; clear n0_ n1_ n2_; (try clear hb); (try clear hb2); (try clear hk); (try clear hi); (try clear ho0); obtain ⟨Ao10, co10, eo10⟩ := Kd.R_slice HO568.out; subst eo10) | ((with_reducible refine gate_callee (f := 170) rfl ?_); refine goesL_ (some 12) rfl rfl Tryz.func170 (by kernel_rfl) rfl #[.slice Ao10 t566.length co10] rfl argsS_ ?_; (with_reducible refine (slices_Reverse_string_string.calls k (fun k_ => some k_ = (.slice Ao10 t566.length co10 : Value).ownBlock) (.slice Ao10 t566.length co10) t566 t572 w _ ?side1 ?side2 A5.out).mono ?_); (case side1 => repeat (first | (with_reducible first | exact HB.out | apply below_alloc | apply pw_below_drewN | apply below_drew1) | exact HB.out)); (case side2 => exact Kd.R_tight rfl HO568.out); rintro e w11 ⟨rfl, hy0, hb, hkp⟩; refine ⟨_, rfl, ?_⟩; replace HO568 := a0_ (Kd.R_reok rfl hy0 (fun k_ e_ => HO568.out.1 k_ e_)); replace HO571 := a0_ (Kd.R_mono (ok' := fun k_ => nw_ k_ Ao10 t566.length co10) (Kd.R_keptB (HO571.out) hkp (fun k_ hk_ hs_ => (hk_.2) hs_)) (fun k_ hk_ => hk_.1.2)); replace HB := a0_ (hb); (try clear hb); (try clear hkp); (try clear hy0); obtain ⟨Ao12, co12, eo12⟩ := Kd.R_slice HO571.out; subst eo12) | ((with_reducible refine gate_callee (f := 170) rfl ?_); refine goesL_ (some 14) rfl rfl Tryz.func170 (by kernel_rfl) rfl #[.slice Ao12 t569.length co12] rfl argsS_ ?_; (with_reducible refine (slices_Reverse_string_string.calls k (fun k_ => some k_ = (.slice Ao12 t569.length co12 : Value).ownBlock) (.slice Ao12 t569.length co12) t569 t573 w _ ?side1 ?side2 A6.out).mono ?_); (case side1 => repeat (first | (with_reducible first | exact HB.out | apply below_alloc | apply pw_below_drewN | apply below_drew1) | exact HB.out)); (case side2 => exact Kd.R_tight rfl HO571.out); rintro e w13 ⟨rfl, hy0, hb, hkp⟩; refine ⟨_, rfl, ?_⟩; replace HO568 := a0_ (Kd.R_mono (ok' := fun k_ => nw_ k_ Ao12 t569.length co12) (Kd.R_keptB (HO568.out) hkp (fun k_ hk_ hs_ => (hk_.2) hs_)) (fun k_ hk_ => hk_.1.2)); replace HO571 := a0_ (Kd.R_reok rfl hy0 (fun k_ e_ => HO571.out.1 k_ e_)); replace HB := a0_ (hb); (try clear hb); (try clear hkp); (try clear hy0)) | ((with_reducible refine gate_callee (f := 171) rfl ?_); refine goesL_ (some 17) rfl rfl Tryz.func171 (by kernel_rfl) rfl #[.slice Ao10 t572.length co10, .slice Ao12 t573.length co12] rfl (by (try simp only [List.map_toArray, List.map_cons, List.map_nil]); first | done | (rw [show t572.length = t566.length from (Kd.R_reads' HO568.out).1.symm, show t573.length = t569.length from (Kd.R_reads' HO571.out).1.symm] <;> rfl) | rfl | (simp only [List.length_drop, List.length_take]; rfl)) ?_; (with_reducible refine (slices_Compare_string_string.calls k _ _ t572 _ _ t573 t574 _ ?side1 ?side2 ?side3 ?side4 A7.out).mono ?_); (case side1 => exact kD_ (Kd.R_reads' HO568.out).2.2); (case side2 => rw [show t572.length = t566.length from (Kd.R_reads' HO568.out).1.symm]; exact (Kd.R_reads' HO568.out).2.1); (case side3 => exact kD_ (Kd.R_reads' HO571.out).2.2); (case side4 => rw [show t573.length = t569.length from (Kd.R_reads' HO571.out).1.symm]; exact (Kd.R_reads' HO571.out).2.1); rintro e w' ⟨rfl, ⟨nd, rfl⟩⟩; refine ⟨_, rfl, ?_⟩))
 go_ret
 exact ⟨rr_, bq0_⟩
def impl_recordText.f (a0_0 : ByteArray) (a0_1 : Int) (a0_2 : Int) (a0_3 : ByteArray) : Option (ByteArray) := (impl_told.f a0_0).bind fun t820 => (if t820.size + 1 ≤ 9223372036854775807 then ((strconv_Itoa.f a0_2).bind fun t821 => (if (t820 ++ (⟨#[32]⟩ : ByteArray)).size + t821.size ≤ 9223372036854775807 then (if ((t820 ++ (⟨#[32]⟩ : ByteArray)) ++ t821).size + 1 ≤ 9223372036854775807 then ((strconv_Itoa.f a0_1).bind fun t822 => (if (((t820 ++ (⟨#[32]⟩ : ByteArray)) ++ t821) ++ (⟨#[32]⟩ : ByteArray)).size + t822.size ≤ 9223372036854775807 then (if ((((t820 ++ (⟨#[32]⟩ : ByteArray)) ++ t821) ++ (⟨#[32]⟩ : ByteArray)) ++ t822).size + 1 ≤ 9223372036854775807 then (if (((((t820 ++ (⟨#[32]⟩ : ByteArray)) ++ t821) ++ (⟨#[32]⟩ : ByteArray)) ++ t822) ++ (⟨#[32]⟩ : ByteArray)).size + a0_3.size ≤ 9223372036854775807 then (some ((((((t820 ++ (⟨#[32]⟩ : ByteArray)) ++ t821) ++ (⟨#[32]⟩ : ByteArray)) ++ t822) ++ (⟨#[32]⟩ : ByteArray)) ++ a0_3)) else (none)) else (none)) else (none))) else (none)) else (none))) else (none))
def impl_recordText.T1 : Bool × List (List Nat × List Nat) := (true, [([], []), ([0], [0]), ([1], [1]), ([2], [2]), ([], []), ([4], [4]), ([5, 2], [5]), ([3, 6], [3, 6]), ([7], [7]), ([], []), ([9], [9]), ([10, 6], [10]), ([8, 11], [8, 11]), ([12], [12]), ([], []), ([14], [14]), ([13, 15], [13, 15]), ([16, 11, 0, 1, 2, 3, 4, 5, 6, 7, 8, 9, 10, 11, 12, 13, 14, 15, 16], [16])])
def impl_recordText.B1 : List Nat := [0, 1, 3, 7, 0, 16, 55, 127, 255, 0, 512, 1655, 4095, 8191, 0, 16384, 65535, 131071]
end Go.Proofs.YtkpkfallgjdkmaaGreatDoor.P
