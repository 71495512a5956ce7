/- FnExactRuleOf: part 12 of 26 of my texts for this claim, joined; the theorem stands in the last. Conditions: none beyond the statement's. -/
import Derived.Test.YtkpkfallgjdkmaaGreatDoorMFnExactRuleOfx2
import Derived.Test.YtkpkfallgjdkmaaGreatDoorMFnExactRuleOfx3
import Derived.Test.YtkpkfallgjdkmaaGreatDoorMFnExactRuleOfx10
namespace Go.Proofs.YtkpkfallgjdkmaaGreatDoor.P
open Go.RowKit Go.Proofs.YtkpkfallgjdkmaaGreatDoorW.PrintWords Go.Proofs.YtkpkfallgjdkmaaGreatDoorW.PrintLast Go.Proofs.YtkpkfallgjdkmaaGreatDoorW.PrintMore
attribute [local go_sem] max2_int min2_int max_two min_two max_three min_three max_four min_four
set_option linter.unusedVariables false
set_option linter.unusedSimpArgs false
def spec_l6Has.l0 : Nat → ByteArray → Int → List (S72) → Int → Int → Option (Bool)
  | 0, _, _, _, _, _ => none
  | k + 1, x1, x2, x9, x10, x11 => if x11 < x10 then (if 0 ≤ x11 then (if x11 < (x9.length : Int) then (if ((rd_T72 x9 x11).f0).toList = x1.toList then (if ((rd_T72 x9 x11).f1) = x2 then (some true) else (spec_l6Has.l0 k x1 x2 x9 x10 (wrap64 (x11 + 1)))) else (spec_l6Has.l0 k x1 x2 x9 x10 (wrap64 (x11 + 1)))) else (none)) else (none)) else (some false)
def spec_l6Has.f (k : Nat) (l0 : List (S72)) (a1 : ByteArray) (a2 : Int) : Option (Bool) := spec_l6Has.l0 k a1 a2 l0 (l0.length : Int) 0
set_option maxHeartbeats 8000000 in
set_option maxRecDepth 100000 in
theorem spec_l6Has.calls (k : Nat) (A0 : Option Addr) (c0 : Nat) (l0 : List (S72)) (a1 : ByteArray) (a2 : Int) (r : Bool) (w : World) (hr0 : Kd.C k72 w A0 l0.length l0) (hc0 : l0.length ≤ c0) (h : spec_l6Has.f k l0 a1 a2 = some r) :
    Calls Tryz.prog 85 #[.slice A0 l0.length c0, .string a1, .int .i64 a2] w fun e w' => e = .returned (.bool r) ∧ Below w.heap.size w w' := by
  have hu72 := Tryz.underlying72
  have HR0 := a0_ hr0
  have HC0 := a0_ hc0
  clear hr0 hc0
  have HB := a0_ (Below.refl w.heap.size w)
  have H : (spec_l6Has.l0 k a1 a2 l0 (l0.length : Int) 0) = some r := h
  clear h
  have H' := a0_ H
  clear H
  go_enter Tryz.func85, Tryz.ntmps85
  go_wp2
  go_loopg [11] k (fun kq v11 w' => ∃ (x11_1 : Int), v11 = .int .i64 x11_1 ∧ Aside0 (spec_l6Has.l0 kq a1 a2 l0 (l0.length : Int) x11_1 = some r) ∧ Aside0 (kq ≤ k) ∧ Aside0 (Below w.heap.size w w'))
  case atStart => exact ⟨(0), (by first | rfl | (simp; done) | (simp [*]; done)), H', ⟨Nat.le_refl _⟩, ⟨by repeat (first | (with_reducible first | exact HB.out | apply below_alloc | apply pw_below_drewN | apply below_drew1) | exact HB.out)⟩⟩
  case round =>
    clear H'
    try clear p2
    obtain ⟨x11_1, rfl, HA, HK1, HB⟩ := hrel
    cases gk with
    | zero => exact absurd HA.out (by simp [spec_l6Has.l0])
    | succ k1 =>
      have H := HA.out
      clear HA
      simp only [spec_l6Has.l0] at H
      by_cases c4 : x11_1 < (l0.length : Int)
      · rw [if_pos c4] at H
        have c4b0 : decide (x11_1 < (l0.length : Int)) = true := decide_eq_true c4
        clear c4
        by_cases c5 : 0 ≤ x11_1
        · rw [if_pos c5] at H
          have c5b0 : decide (0 ≤ x11_1) = true := decide_eq_true c5
          clear c5
          by_cases c6 : x11_1 < (l0.length : Int)
          · rw [if_pos c6] at H
            have c6b0 : decide (x11_1 < (l0.length : Int)) = true := decide_eq_true c6
            clear c6
            by_cases c7 : ((rd_T72 l0 x11_1).f0).toList = a1.toList
            · rw [if_pos c7] at H
              have c7b0 : (((rd_T72 l0 x11_1).f0).toList == a1.toList) = true := beq_iff_eq.mpr c7
              have c7b1 : (((rd_T72 l0 x11_1).f0).toList != a1.toList) = false := bne_eq_false_iff_eq.mpr c7
              clear c7
              by_cases c8 : ((rd_T72 l0 x11_1).f1) = a2
              · rw [if_pos c8] at H
                have c8b0 : (((rd_T72 l0 x11_1).f1) == a2) = true := beq_iff_eq.mpr c8
                have c8b1 : (((rd_T72 l0 x11_1).f1) != a2) = false := bne_eq_false_iff_eq.mpr c8
                clear c8
                obtain rfl := Option.some.inj H
                have p690 : 0 ≤ (x11_1 : Int) := dec_
                have q690 : x11_1 < (l0.length : Int) := dec_
                obtain ⟨ad690, e690, hx690_0, hx690_1, hx690_2, hx690_3⟩ := at_T72 HR0.out x11_1 p690 q690
                cases e690
                obtain ⟨hx690_0, hx690_1, hx690_2, hx690_3⟩ := up4_ HB.out hx690_0 hx690_1 hx690_2 hx690_3
                replace p690 := eq_true p690
                replace q690 := eq_true q690
                go_wp2_with (first | ((with_reducible refine gate_dst (N := 8) rfl ?_); refine boxS_ 8 #[.string (⟨#[]⟩ : ByteArray), .int .i64 0, .int .i64 0, .string (⟨#[]⟩ : ByteArray)] 72 (fun gb691 hg w9 hbox hb => ?_); have n0_ := a0_ (below_step bq0_ hb); have n1_ := a0_ (hbox); have n2_ := a0_ (gw_ hg : w.heap.size ≤ gb691); have n3_ := n2_; clear HB; have HB := n0_; have BK691 := n1_; have GW691 := n2_; have GE691 := n3_; clear n0_ n1_ n2_ n3_; clear hb hbox hg; obtain ⟨z10_0, z10_1, z10_2, z10_3, q10_0, q10_1, q10_2, q10_3⟩ := bk4_ BK691.out))
                go_ret
                exact ⟨by first | rfl | (simp [errW_none, errW_some] <;> rfl) | (simp [*, errW_none, errW_some] <;> rfl), by repeat (first | (with_reducible first | exact HB.out | apply below_alloc | apply pw_below_drewN | apply below_drew1 | refine below_set ?_ GE691.out) | exact HB.out)⟩
              · rw [if_neg c8] at H
                have c8b0 : (((rd_T72 l0 x11_1).f1) == a2) = false := beq_eq_false_iff_ne.mpr c8
                have c8b1 : (((rd_T72 l0 x11_1).f1) != a2) = true := bne_iff_ne.mpr c8
                have H' := a0_ H
                clear H
                have p690 : 0 ≤ (x11_1 : Int) := dec_
                have q690 : x11_1 < (l0.length : Int) := dec_
                obtain ⟨ad690, e690, hx690_0, hx690_1, hx690_2, hx690_3⟩ := at_T72 HR0.out x11_1 p690 q690
                cases e690
                obtain ⟨hx690_0, hx690_1, hx690_2, hx690_3⟩ := up4_ HB.out hx690_0 hx690_1 hx690_2 hx690_3
                replace p690 := eq_true p690
                replace q690 := eq_true q690
                go_wp2_with (first | ((with_reducible refine gate_dst (N := 8) rfl ?_); refine boxS_ 8 #[.string (⟨#[]⟩ : ByteArray), .int .i64 0, .int .i64 0, .string (⟨#[]⟩ : ByteArray)] 72 (fun gb691 hg w11 hbox hb => ?_); have n0_ := a0_ (below_step bq0_ hb); have n1_ := a0_ (hbox); have n2_ := a0_ (gw_ hg : w.heap.size ≤ gb691); have n3_ := n2_; clear HB; have HB := n0_; have BK691 := n1_; have GW691 := n2_; have GE691 := n3_; clear n0_ n1_ n2_ n3_; clear hb hbox hg; obtain ⟨z12_0, z12_1, z12_2, z12_3, q12_0, q12_1, q12_2, q12_3⟩ := bk4_ BK691.out))
                go_roundg k1
                case measure => have := HK1.out; omega
                case rel => exact ⟨(wrap64 (x11_1 + 1)), (by first | rfl | (simp; done) | (simp [*]; done)), H', ⟨by have := HK1.out; omega⟩, ⟨by repeat (first | (with_reducible first | exact HB.out | apply below_alloc | apply pw_below_drewN | apply below_drew1 | refine below_set ?_ GE691.out) | exact HB.out)⟩⟩
            · rw [if_neg c7] at H
              have c7b0 : (((rd_T72 l0 x11_1).f0).toList == a1.toList) = false := beq_eq_false_iff_ne.mpr c7
              have c7b1 : (((rd_T72 l0 x11_1).f0).toList != a1.toList) = true := bne_iff_ne.mpr c7
              have H' := a0_ H
              clear H
              have p690 : 0 ≤ (x11_1 : Int) := dec_
              have q690 : x11_1 < (l0.length : Int) := dec_
              obtain ⟨ad690, e690, hx690_0, hx690_1, hx690_2, hx690_3⟩ := at_T72 HR0.out x11_1 p690 q690
              cases e690
              obtain ⟨hx690_0, hx690_1, hx690_2, hx690_3⟩ := up4_ HB.out hx690_0 hx690_1 hx690_2 hx690_3
              replace p690 := eq_true p690
              replace q690 := eq_true q690
              go_wp2_with (first | ((with_reducible refine gate_dst (N := 8) rfl ?_); refine boxS_ 8 #[.string (⟨#[]⟩ : ByteArray), .int .i64 0, .int .i64 0, .string (⟨#[]⟩ : ByteArray)] 72 (fun gb691 hg w13 hbox hb => ?_); have n0_ := a0_ (below_step bq0_ hb); have n1_ := a0_ (hbox); have n2_ := a0_ (gw_ hg : w.heap.size ≤ gb691); have n3_ := n2_; clear HB; have HB := n0_; have BK691 := n1_; have GW691 := n2_; have GE691 := n3_; clear n0_ n1_ n2_ n3_; clear hb hbox hg; obtain ⟨z14_0, z14_1, z14_2, z14_3, q14_0, q14_1, q14_2, q14_3⟩ := bk4_ BK691.out))
              go_roundg k1
              case measure => have := HK1.out; omega
              case rel => exact ⟨(wrap64 (x11_1 + 1)), (by first | rfl | (simp; done) | (simp [*]; done)), H', ⟨by have := HK1.out; omega⟩, ⟨by repeat (first | (with_reducible first | exact HB.out | apply below_alloc | apply pw_below_drewN | apply below_drew1 | refine below_set ?_ GE691.out) | exact HB.out)⟩⟩
          · rw [if_neg c6] at H
            exact absurd H (by simp)
        · rw [if_neg c5] at H
          exact absurd H (by simp)
      · rw [if_neg c4] at H
        have c4b0 : decide (x11_1 < (l0.length : Int)) = false := decide_eq_false c4
        clear c4
        obtain rfl := Option.some.inj H
        go_wp2
        go_ret
        exact ⟨by first | rfl | (simp [errW_none, errW_some] <;> rfl) | (simp [*, errW_none, errW_some] <;> rfl), by repeat (first | (with_reducible first | exact HB.out | apply below_alloc | apply pw_below_drewN | apply below_drew1) | exact HB.out)⟩
def spec_l1Parent.l0 : Nat → ByteArray → Int → Option (ByteArray)
  | 0, _, _ => none
  | k + 1, x0, x3 => if x3 < (x0.size : Int) then (if 0 ≤ x3 then (if (bt x0 x3) = 46 then (if 0 ≤ (wrap64 (x3 + 1)) then (if (wrap64 (x3 + 1)) ≤ (x0.size : Int) then (some (x0.extract ((wrap64 (x3 + 1)) : Int).toNat x0.size)) else (none)) else (none)) else (spec_l1Parent.l0 k x0 (wrap64 (x3 + 1)))) else (none)) else (some (⟨#[]⟩ : ByteArray))
def spec_l1Parent.f (k : Nat) (a0 : ByteArray) : Option (ByteArray) := spec_l1Parent.l0 k a0 0
theorem spec_l1Parent.mono_l : ∀ k, (∀ y0 y1, LeO (spec_l1Parent.l0 k y0 y1) (spec_l1Parent.l0 (k + 1) y0 y1))
  | 0 => fun _ _ r h => by simp [spec_l1Parent.l0] at h
  | k + 1 => by
    have ih0 := spec_l1Parent.mono_l k
    · intro y0 y1
      unfold spec_l1Parent.l0
      repeat' first
      | (with_reducible exact ih0 _ _)
      | (with_reducible exact LeO.refl _)
      | (with_reducible exact LeO.none _)
      | (with_reducible refine LeO.ite ?_ ?_)
      | (with_reducible refine LeO.bind ?_ (fun _ => ?_))
      | exact ih0 _ _
      | exact LeO.none _
      | refine LeO.ite ?_ ?_
      | refine LeO.bind ?_ (fun _ => ?_)
theorem spec_l1Parent.mono : ∀ a0 k, LeO (spec_l1Parent.f k a0) (spec_l1Parent.f (k + 1) a0) := by
  intro a0 k
  have ih0 := spec_l1Parent.mono_l k
  unfold spec_l1Parent.f
  repeat' first
      | (with_reducible exact ih0 _ _)
      | (with_reducible exact LeO.refl _)
      | (with_reducible exact LeO.none _)
      | (with_reducible refine LeO.ite ?_ ?_)
      | (with_reducible refine LeO.bind ?_ (fun _ => ?_))
      | exact ih0 _ _
      | exact LeO.none _
      | refine LeO.ite ?_ ?_
      | refine LeO.bind ?_ (fun _ => ?_)
set_option maxHeartbeats 8000000 in
set_option maxRecDepth 100000 in
theorem spec_l1Parent.calls (k : Nat) (a0 : ByteArray) (r : ByteArray) (w : World) (h : spec_l1Parent.f k a0 = some r) :
    Calls Tryz.prog 112 #[.string a0] w fun e w' => e = .returned (.string r) ∧ Drawn0 w w' := by
  have H : (spec_l1Parent.l0 k a0 0) = some r := h
  clear h
  have H' := a0_ H
  clear H
  go_enter Tryz.func112, Tryz.ntmps112
  go_wp2
  go_loopg [3] k (fun kq v3 w' => ∃ (x3_1 : Int), v3 = .int .i64 x3_1 ∧ Aside0 (spec_l1Parent.l0 kq a0 x3_1 = some r) ∧ Aside0 (kq ≤ k) ∧ Drawn0 w w')
  case atStart => exact ⟨(0), (by first | rfl | (simp; done) | (simp [*]; done)), H', ⟨Nat.le_refl _⟩, by repeat (first | exact Drawn0.refl _ | apply Drawn0.step)⟩
  case round =>
    clear H'
    try clear c1
    obtain ⟨x3_1, rfl, HA, HK1, ⟨m1, rfl⟩⟩ := hrel
    cases gk with
    | zero => exact absurd HA.out (by simp [spec_l1Parent.l0])
    | succ k1 =>
      have H := HA.out
      clear HA
      simp only [spec_l1Parent.l0] at H
      by_cases c2 : x3_1 < (a0.size : Int)
      · rw [if_pos c2] at H
        have c2b0 : decide (x3_1 < (a0.size : Int)) = true := decide_eq_true c2
        clear c2
        by_cases c3 : 0 ≤ x3_1
        · rw [if_pos c3] at H
          have c3b0 : decide (0 ≤ x3_1) = true := decide_eq_true c3
          clear c3
          by_cases c5 : (bt a0 x3_1) = 46
          · rw [if_pos c5] at H
            have c5b0 : ((bt a0 x3_1) == 46) = true := beq_iff_eq.mpr c5
            have c5b1 : ((bt a0 x3_1) != 46) = false := bne_eq_false_iff_eq.mpr c5
            clear c5
            obtain ⟨ji6, hji6⟩ : ∃ j_ : Int, (wrap64 (x3_1 + 1)) = j_ := ⟨_, rfl⟩
            replace H : (if 0 ≤ (ji6) then (if (ji6) ≤ (a0.size : Int) then (some (a0.extract ((ji6) : Int).toNat a0.size)) else (none)) else (none)) = some r := by first | (rw [hji6] at H; exact H) | (simp only [hji6] at H ⊢; exact H)
            have hji6w : (IntKind.i64.wrap (x3_1 + 1)) = ji6 := (i64_w _).trans hji6
            by_cases c7 : 0 ≤ (ji6)
            · rw [if_pos c7] at H
              have c7b0 := eq_true c7
              have c7b1 : decide (0 ≤ (ji6)) = true := decide_eq_true c7
              clear c7
              by_cases c8 : (ji6) ≤ (a0.size : Int)
              · rw [if_pos c8] at H
                have c8b0 := eq_true c8
                have c8b1 : decide ((ji6) ≤ (a0.size : Int)) = true := decide_eq_true c8
                clear c8
                obtain rfl := Option.some.inj H
                have p4 : 0 ≤ (x3_1 : Int) := dec_
                have q4 : x3_1 < (a0.size : Int) := dec_
                have hx4 := bt_at a0 x3_1
                replace p4 := eq_true p4
                replace q4 := eq_true q4
                go_wp2
                go_ret
                exact ⟨by first | rfl | (simp; done) | (simp only [← hji6] <;> (first | rfl | simp)) | (simp [*]; done), by repeat (first | exact Drawn0.refl _ | apply Drawn0.step)⟩
              · rw [if_neg c8] at H
                exact absurd H (by simp)
            · rw [if_neg c7] at H
              exact absurd H (by simp)
          · rw [if_neg c5] at H
            have c5b0 : ((bt a0 x3_1) == 46) = false := beq_eq_false_iff_ne.mpr c5
            have c5b1 : ((bt a0 x3_1) != 46) = true := bne_iff_ne.mpr c5
            have H' := a0_ H
            clear H
            have p4 : 0 ≤ (x3_1 : Int) := dec_
            have q4 : x3_1 < (a0.size : Int) := dec_
            have hx4 := bt_at a0 x3_1
            replace p4 := eq_true p4
            replace q4 := eq_true q4
            go_wp2
            go_roundg k1
            case measure => have := HK1.out; omega
            case rel => exact ⟨(wrap64 (x3_1 + 1)), (by first | rfl | (simp; done) | (simp [*]; done)), H', ⟨by have := HK1.out; omega⟩, by repeat (first | exact Drawn0.refl _ | apply Drawn0.step)⟩
        · rw [if_neg c3] at H
          exact absurd H (by simp)
      · rw [if_neg c2] at H
        have c2b0 : decide (x3_1 < (a0.size : Int)) = false := decide_eq_false c2
        clear c2
        obtain rfl := Option.some.inj H
        go_wp2
        go_ret
        exact ⟨by first | rfl | (simp; done) | (simp [*]; done), by repeat (first | exact Drawn0.refl _ | apply Drawn0.step)⟩
mutual
def spec_l6Cut.l0 : Nat → ByteArray → List (S72) → ByteArray → ByteArray → Bool → Option (ByteArray × Bool)
  | 0, _, _, _, _, _ => none
  | k + 1, x0, x1, x2, x8, x9 => if x2.toList = x0.toList then (spec_l6Cut.j1 k x0 x1 x2 x8 x9 false) else ((spec_l1Below.f x2 x0).bind fun t692 => (spec_l6Cut.j1 k x0 x1 x2 x8 x9 t692))
def spec_l6Cut.j1 : Nat → ByteArray → List (S72) → ByteArray → ByteArray → Bool → Bool → Option (ByteArray × Bool)
  | 0, _, _, _, _, _, _ => none
  | k + 1, x0, x1, x2, x8, x9, x17 => if x17 = true then ((spec_l6Has.f k x1 x2 2).bind fun t693 => (if t693 = true then (if x2.toList = ([] : List UInt8) then (some (x2, true)) else ((spec_l1Parent.f k x2).bind fun t694 => (spec_l6Cut.l0 k x0 x1 t694 x2 true))) else (if x2.toList = ([] : List UInt8) then (some (x8, x9)) else ((spec_l1Parent.f k x2).bind fun t695 => (spec_l6Cut.l0 k x0 x1 t695 x8 x9))))) else (some (x8, x9))
end
def spec_l6Cut.f (k : Nat) (a0 : ByteArray) (l1 : List (S72)) (a2 : ByteArray) : Option (ByteArray × Bool) := spec_l6Cut.l0 k a0 l1 a2 (⟨#[]⟩ : ByteArray) false
set_option maxHeartbeats 8000000 in
set_option maxRecDepth 100000 in
theorem spec_l6Cut.calls (k : Nat) (a0 : ByteArray) (A1 : Option Addr) (c1 : Nat) (l1 : List (S72)) (a2 : ByteArray) (r1 : ByteArray) (r2 : Bool) (w : World) (hr1 : Kd.C k72 w A1 l1.length l1) (hc1 : l1.length ≤ c1) (h : spec_l6Cut.f k a0 l1 a2 = some (r1, r2)) :
    Calls Tryz.prog 86 #[.string a0, .slice A1 l1.length c1, .string a2] w fun e w' => e = .returned (.tuple #[.string r1, .bool r2]) ∧ Below w.heap.size w w' := by
  have HR1 := a0_ hr1
  have HC1 := a0_ hc1
  clear hr1 hc1
  have HB := a0_ (Below.refl w.heap.size w)
  have H : (spec_l6Cut.l0 k a0 l1 a2 (⟨#[]⟩ : ByteArray) false) = some (r1, r2) := h
  clear h
  have H' := a0_ H
  clear H
  go_enter Tryz.func86, Tryz.ntmps86
  go_wp2
  go_loopg [2, 8, 9] k (fun kq v2 v8 v9 w' => ∃ (x2_1 : ByteArray) (x8_1 : ByteArray) (x9_1 : Bool), v2 = .string x2_1 ∧ v8 = .string x8_1 ∧ v9 = .bool x9_1 ∧ Aside0 (spec_l6Cut.l0 kq a0 l1 x2_1 x8_1 x9_1 = some (r1, r2)) ∧ Aside0 (kq ≤ k) ∧ Aside0 (Below w.heap.size w w'))
  case atStart => exact ⟨(a2), ((⟨#[]⟩ : ByteArray)), (false), (by first | rfl | (simp; done) | (simp [*]; done)), (by first | rfl | (simp; done) | (simp [*]; done)), (by first | rfl | (simp; done) | (simp [*]; done)), H', ⟨Nat.le_refl _⟩, ⟨by repeat (first | (with_reducible first | exact HB.out | apply below_alloc | apply pw_below_drewN | apply below_drew1) | exact HB.out)⟩⟩
  case round =>
    clear H'
    try clear c1
    try clear p2
    obtain ⟨x2_1, x8_1, x9_1, rfl, rfl, rfl, HA, HK1, HB⟩ := hrel
    cases gk with
    | zero => exact absurd HA.out (by simp [spec_l6Cut.l0])
    | succ k1 =>
      have H := HA.out
      clear HA
      simp only [spec_l6Cut.l0] at H
      have HC4 := a0_ H
      clear H
      go_upto_region 3 with (fail)
      go_cut [17] (fun v17 wc => ∃ (kq : Nat) (x17_3 : Bool), v17 = .bool x17_3 ∧ Aside0 (spec_l6Cut.j1 kq a0 l1 x2_1 x8_1 x9_1 x17_3 = some (r1, r2)) ∧ Aside0 (kq ≤ k1) ∧ Aside0 (Below w.heap.size w wc))
      case first =>
        have H := HC4.out
        clear HC4
        by_cases c5 : x2_1.toList = a0.toList
        · rw [if_pos c5] at H
          have c5b0 : (x2_1.toList == a0.toList) = true := beq_iff_eq.mpr c5
          have c5b1 : (x2_1.toList != a0.toList) = false := bne_eq_false_iff_eq.mpr c5
          clear c5
          (first | rw [c5b0] | (simp only [i64_w, i32_w]; rw [c5b0]) | skip)
          have H' := a0_ H
          clear H
          go_wp2
          go_meet
          case rel => exact ⟨_, (false), (by first | rfl | (simp; done) | (simp [*]; done)), H', ⟨by have := HK1.out; first | omega | exact Nat.le_refl _⟩, ⟨by repeat (first | (with_reducible first | exact HB.out | apply below_alloc | apply pw_below_drewN | apply below_drew1) | exact HB.out)⟩⟩
        · rw [if_neg c5] at H
          have c5b0 : (x2_1.toList == a0.toList) = false := beq_eq_false_iff_ne.mpr c5
          have c5b1 : (x2_1.toList != a0.toList) = true := bne_iff_ne.mpr c5
          (first | rw [c5b0] | (simp only [i64_w, i32_w]; rw [c5b0]) | skip)
          replace H := Option.bind_eq_some_iff.mp H
          obtain ⟨t692, A60, H⟩ := H
          replace H : (spec_l6Cut.j1 k1 a0 l1 x2_1 x8_1 x9_1 t692) = some (r1, r2) := H
          have A6 := a0_ A60
          clear A60
          have H' := a0_ H
          clear H
          go_wp2_with (first | (go_at_call 84; (with_reducible refine (spec_l1Below.calls x2_1 a0 t692 _ A6.out).mono ?_); rintro e w' ⟨rfl, ⟨nd, rfl⟩⟩))
          go_meet
          case rel => exact ⟨_, (t692), (by first | rfl | (simp; done) | (simp [*]; done)), H', ⟨by have := HK1.out; first | omega | exact Nat.le_refl _⟩, ⟨by repeat (first | (with_reducible first | exact HB.out | apply below_alloc | apply pw_below_drewN | apply below_drew1) | exact HB.out)⟩⟩
      case rest =>
        clear HC4
        try clear c1
        try clear p2
        try clear c5
        try clear c5b0
        try clear c5b1
        try clear p2
        obtain ⟨kq, x17_3, rfl, HA, HJ3, HB⟩ := hcut
        cases kq with
        | zero => exact absurd HA.out (by simp [spec_l6Cut.j1])
        | succ kj3 =>
          have H := HA.out
          clear HA
          simp only [spec_l6Cut.j1] at H
          by_cases c7 : x17_3 = true
          · subst c7
            have H1 : ((spec_l6Has.f kj3 l1 x2_1 2).bind fun t693 => (if t693 = true then (if x2_1.toList = ([] : List UInt8) then (some (x2_1, true)) else ((spec_l1Parent.f kj3 x2_1).bind fun t694 => (spec_l6Cut.l0 kj3 a0 l1 t694 x2_1 true))) else (if x2_1.toList = ([] : List UInt8) then (some (x8_1, x9_1)) else ((spec_l1Parent.f kj3 x2_1).bind fun t695 => (spec_l6Cut.l0 kj3 a0 l1 t695 x8_1 x9_1))))) = some (r1, r2) := by rw [if_pos rfl] at H; exact H
            clear H
            have H := H1
            clear H1
            replace H := Option.bind_eq_some_iff.mp H
            obtain ⟨t693, A80, H⟩ := H
            replace H : (if t693 = true then (if x2_1.toList = ([] : List UInt8) then (some (x2_1, true)) else ((spec_l1Parent.f kj3 x2_1).bind fun t694 => (spec_l6Cut.l0 kj3 a0 l1 t694 x2_1 true))) else (if x2_1.toList = ([] : List UInt8) then (some (x8_1, x9_1)) else ((spec_l1Parent.f kj3 x2_1).bind fun t695 => (spec_l6Cut.l0 kj3 a0 l1 t695 x8_1 x9_1)))) = some (r1, r2) := H
            have A8 := a0_ A80
            clear A80
            by_cases c9 : t693 = true
            · subst c9
              have H1 : (if x2_1.toList = ([] : List UInt8) then (some (x2_1, true)) else ((spec_l1Parent.f kj3 x2_1).bind fun t694 => (spec_l6Cut.l0 kj3 a0 l1 t694 x2_1 true))) = some (r1, r2) := by rw [if_pos rfl] at H; exact H
              clear H
              have H := H1
              clear H1
              by_cases c10 : x2_1.toList = ([] : List UInt8)
              · rw [if_pos c10] at H
                have c10b0 : (x2_1.toList == ([] : List UInt8)) = true := beq_iff_eq.mpr c10
                have c10b1 : (x2_1.toList != ([] : List UInt8)) = false := bne_eq_false_iff_eq.mpr c10
                clear c10
                simp only [Option.some.injEq, Prod.mk.injEq] at H
                obtain ⟨rfl, rfl⟩ := H
                go_wp2_with (first | ((with_reducible refine gate_callee (f := 85) rfl ?_); refine goesS_ (some 20) Tryz.func85 #[.slice A1 l1.length c1, .string x2_1, .int .i64 2] ?_; (with_reducible refine (spec_l6Has.calls kj3 _ _ l1 x2_1 2 true _ ?side1 ?side2 A8.out).mono ?_); (case side1 => exact kC_ HR1.out HB.out); (case side2 => exact HC1.out); rintro e w11 ⟨rfl, hb⟩; refine ⟨_, rfl, ?_⟩; replace HB := a0_ (below_step bq0_ hb); (try clear hb); (try clear hb2); (try clear hk); (try clear hi)))
                go_ret2
                exact ⟨by first | rfl | (simp [errW_none, errW_some] <;> rfl) | (simp [*, errW_none, errW_some] <;> rfl), by repeat (first | (with_reducible first | exact HB.out | apply below_alloc | apply pw_below_drewN | apply below_drew1) | exact HB.out)⟩
              · rw [if_neg c10] at H
                have c10b0 : (x2_1.toList == ([] : List UInt8)) = false := beq_eq_false_iff_ne.mpr c10
                have c10b1 : (x2_1.toList != ([] : List UInt8)) = true := bne_iff_ne.mpr c10
                replace H := Option.bind_eq_some_iff.mp H
                obtain ⟨t694, A120, H⟩ := H
                replace H : (spec_l6Cut.l0 kj3 a0 l1 t694 x2_1 true) = some (r1, r2) := H
                have A12 := a0_ A120
                clear A120
                have H' := a0_ H
                clear H
                go_wp2_with (first | ((with_reducible refine gate_callee (f := 85) rfl ?_); refine goesS_ (some 20) Tryz.func85 #[.slice A1 l1.length c1, .string x2_1, .int .i64 2] ?_; (with_reducible refine (spec_l6Has.calls kj3 _ _ l1 x2_1 2 true _ ?side1 ?side2 A8.out).mono ?_); (case side1 => exact kC_ HR1.out HB.out); (case side2 => exact HC1.out); rintro e w13 ⟨rfl, hb⟩; refine ⟨_, rfl, ?_⟩; replace HB := a0_ (below_step bq0_ hb); (try clear hb); (try clear hb2); (try clear hk); (try clear hi)) | ((with_reducible refine gate_callee (f := 112) rfl ?_); refine goesS_ (some 25) Tryz.func112 #[.string x2_1] ?_; (with_reducible refine (spec_l1Parent.calls kj3 x2_1 t694 _ A12.out).mono ?_); rintro e w' ⟨rfl, ⟨nd, rfl⟩⟩; refine ⟨_, rfl, ?_⟩))
                go_roundg kj3
                case measure => have := HK1.out; have := HJ3.out; omega
                case rel => exact ⟨(t694), (x2_1), (true), (by first | rfl | (simp; done) | (simp [*]; done)), (by first | rfl | (simp; done) | (simp [*]; done)), (by first | rfl | (simp; done) | (simp [*]; done)), H', ⟨by have := HK1.out; have := HJ3.out; omega⟩, ⟨by repeat (first | (with_reducible first | exact HB.out | apply below_alloc | apply pw_below_drewN | apply below_drew1) | exact HB.out)⟩⟩
            · replace c9 := Bool.eq_false_iff.mpr c9
              subst c9
              have H1 : (if x2_1.toList = ([] : List UInt8) then (some (x8_1, x9_1)) else ((spec_l1Parent.f kj3 x2_1).bind fun t695 => (spec_l6Cut.l0 kj3 a0 l1 t695 x8_1 x9_1))) = some (r1, r2) := by rw [if_neg (show ¬ (false = true) by decide)] at H; exact H
              clear H
              have H := H1
              clear H1
              by_cases c14 : x2_1.toList = ([] : List UInt8)
              · rw [if_pos c14] at H
                have c14b0 : (x2_1.toList == ([] : List UInt8)) = true := beq_iff_eq.mpr c14
                have c14b1 : (x2_1.toList != ([] : List UInt8)) = false := bne_eq_false_iff_eq.mpr c14
                clear c14
                simp only [Option.some.injEq, Prod.mk.injEq] at H
                obtain ⟨rfl, rfl⟩ := H
                go_wp2_with (first | ((with_reducible refine gate_callee (f := 85) rfl ?_); refine goesS_ (some 20) Tryz.func85 #[.slice A1 l1.length c1, .string x2_1, .int .i64 2] ?_; (with_reducible refine (spec_l6Has.calls kj3 _ _ l1 x2_1 2 false _ ?side1 ?side2 A8.out).mono ?_); (case side1 => exact kC_ HR1.out HB.out); (case side2 => exact HC1.out); rintro e w15 ⟨rfl, hb⟩; refine ⟨_, rfl, ?_⟩; replace HB := a0_ (below_step bq0_ hb); (try clear hb); (try clear hb2); (try clear hk); (try clear hi)))
                go_ret2
                exact ⟨by first | rfl | (simp [errW_none, errW_some] <;> rfl) | (simp [*, errW_none, errW_some] <;> rfl), by repeat (first | (with_reducible first | exact HB.out | apply below_alloc | apply pw_below_drewN | apply below_drew1) | exact HB.out)⟩
              · rw [if_neg c14] at H
                have c14b0 : (x2_1.toList == ([] : List UInt8)) = false := beq_eq_false_iff_ne.mpr c14
                have c14b1 : (x2_1.toList != ([] : List UInt8)) = true := bne_iff_ne.mpr c14
                replace H := Option.bind_eq_some_iff.mp H
                obtain ⟨t695, A160, H⟩ := H
                replace H : (spec_l6Cut.l0 kj3 a0 l1 t695 x8_1 x9_1) = some (r1, r2) := H
                have A16 := a0_ A160
                clear A160
                have H' := a0_ H
                clear H
                go_wp2_with (first | ((with_reducible refine gate_callee (f := 85) rfl ?_); refine goesS_ (some 20) Tryz.func85 #[.slice A1 l1.length c1, .string x2_1, .int .i64 2] ?_; (with_reducible refine (spec_l6Has.calls kj3 _ _ l1 x2_1 2 false _ ?side1 ?side2 A8.out).mono ?_); (case side1 => exact kC_ HR1.out HB.out); (case side2 => exact HC1.out); rintro e w17 ⟨rfl, hb⟩; refine ⟨_, rfl, ?_⟩; replace HB := a0_ (below_step bq0_ hb); (try clear hb); (try clear hb2); (try clear hk); (try clear hi)) | ((with_reducible refine gate_callee (f := 112) rfl ?_); refine goesS_ (some 25) Tryz.func112 #[.string x2_1] ?_; (with_reducible refine (spec_l1Parent.calls kj3 x2_1 t695 _ A16.out).mono ?_); rintro e w' ⟨rfl, ⟨nd, rfl⟩⟩; refine ⟨_, rfl, ?_⟩))
                go_roundg kj3
                case measure => have := HK1.out; have := HJ3.out; omega
                case rel => exact ⟨(t695), (x8_1), (x9_1), (by first | rfl | (simp; done) | (simp [*]; done)), (by first | rfl | (simp; done) | (simp [*]; done)), (by first | rfl | (simp; done) | (simp [*]; done)), H', ⟨by have := HK1.out; have := HJ3.out; omega⟩, ⟨by repeat (first | (with_reducible first | exact HB.out | apply below_alloc | apply pw_below_drewN | apply below_drew1) | exact HB.out)⟩⟩
          · replace c7 := Bool.eq_false_iff.mpr c7
            subst c7
            have H1 : (some (x8_1, x9_1)) = some (r1, r2) := by rw [if_neg (show ¬ (false = true) by decide)] at H; exact H
            clear H
            have H := H1
            clear H1
            simp only [Option.some.injEq, Prod.mk.injEq] at H
            obtain ⟨rfl, rfl⟩ := H
            go_wp2
            go_ret2
            exact ⟨by first | rfl | (simp [errW_none, errW_some] <;> rfl) | (simp [*, errW_none, errW_some] <;> rfl), by repeat (first | (with_reducible first | exact HB.out | apply below_alloc | apply pw_below_drewN | apply below_drew1) | exact HB.out)⟩
end Go.Proofs.YtkpkfallgjdkmaaGreatDoor.P
namespace Go.Proofs.YtkpkfallgjdkmaaGreatDoor.P
open Go.RowKit Go.Proofs.YtkpkfallgjdkmaaGreatDoorW.PrintWords Go.Proofs.YtkpkfallgjdkmaaGreatDoorW.PrintLast Go.Proofs.YtkpkfallgjdkmaaGreatDoorW.PrintMore
theorem hyn4_ {w : World} {g : Nat} {p : Addr} {u a b c d : Value} (h : ((((w.setCell ⟨g, 0, none⟩ a).setCell ⟨g, 1, none⟩ b).setCell ⟨g, 2, none⟩ c).setCell ⟨g, 3, none⟩ d).cell? p = some u) : ∀ n_ : Nat, (((((w.drewN n_).setCell ⟨g, 0, none⟩ a).setCell ⟨g, 1, none⟩ b).setCell ⟨g, 2, none⟩ c).setCell ⟨g, 3, none⟩ d).cell? p = some u := fun _ => h
theorem nbl_ {w : World} {p ad : Addr} {g : Nat} {u : Value} (h : w.cell? p = some u) (hw : w.heap.size ≤ g) (e : ad.block = p.block := by first | rfl | exact (add_block _ _).symm) : ad.block ≠ g := Nat.ne_of_lt (Nat.lt_of_lt_of_le (by have := World.block_lt_of_cell? _ _ h; rwa [← e] at this) hw)
end Go.Proofs.YtkpkfallgjdkmaaGreatDoor.P
