/- FnExactRuleOf: part 16 of 26 of my texts for this claim, joined; the theorem stands in the last. Conditions: none beyond the statement's. -/
import Derived.Test.YtkpkfallgjdkmaaGreatDoorMFnExactRuleOfx2
import Derived.Test.YtkpkfallgjdkmaaGreatDoorMFnExactRuleOfx3
import Derived.Test.YtkpkfallgjdkmaaGreatDoorMFnExactRuleOfx8
import Derived.Test.YtkpkfallgjdkmaaGreatDoorMFnExactRuleOfx14
import Derived.Test.YtkpkfallgjdkmaaGreatDoorMFnExactRuleOfx13
import Derived.Sort.Walk0
import Derived.Sort.Statements
import Derived.Lib.SlicesCompact
namespace Go.Proofs.YtkpkfallgjdkmaaGreatDoor.P
open Go.RowKit Go.Proofs.YtkpkfallgjdkmaaGreatDoorW.PrintWords Go.Proofs.YtkpkfallgjdkmaaGreatDoorW.PrintLast Go.Proofs.YtkpkfallgjdkmaaGreatDoorW.PrintMore
attribute [local go_sem] max2_int min2_int max_two min_two max_three min_three max_four min_four
set_option linter.unusedVariables false
set_option linter.unusedSimpArgs false
def cmp_isNaN_string.f (a0 : ByteArray) : Option (Bool) := some (a0.toList != a0.toList)
set_option maxHeartbeats 8000000 in
set_option maxRecDepth 100000 in
theorem cmp_isNaN_string.calls (a0 : ByteArray) (r : Bool) (w : World) (h : cmp_isNaN_string.f a0 = some r) :
    Calls Tryz.prog 197 #[.string a0] w fun e w' => e = .returned (.bool r) ∧ Drawn0 w w' := by
  have H : (some (a0.toList != a0.toList)) = some r := h
  clear h
  obtain rfl := Option.some.inj H
  go_enter Tryz.func197, Tryz.ntmps197
  go_wp2
  go_ret
  exact ⟨by first | rfl | (simp; done) | (simp [*]; done), by repeat (first | exact Drawn0.refl _ | apply Drawn0.step)⟩
end Go.Proofs.YtkpkfallgjdkmaaGreatDoor.P
namespace Go.Proofs.YtkpkfallgjdkmaaGreatDoor.P
open Go.RowKit Go.Proofs.YtkpkfallgjdkmaaGreatDoorW.PrintWords Go.Proofs.YtkpkfallgjdkmaaGreatDoorW.PrintLast Go.Proofs.YtkpkfallgjdkmaaGreatDoorW.PrintMore
attribute [local go_sem] max2_int min2_int max_two min_two max_three min_three max_four min_four
set_option linter.unusedVariables false
set_option linter.unusedSimpArgs false
attribute [local go_sem] gtr_less
def cmp_Compare_string.f (a0 : ByteArray) (a1 : ByteArray) : Option (Int) := (cmp_isNaN_string.f a0).bind fun t561 => ((cmp_isNaN_string.f a1).bind fun t562 => (if t561 = true then (if t562 = true then (some 0) else (some (-1))) else (if t562 = true then (some 1) else (if (Op.bytesLess a0.toList a1.toList) = true then (some (-1)) else (if (Op.bytesLess a1.toList a0.toList) = true then (some 1) else (some 0))))))
set_option maxHeartbeats 8000000 in
set_option maxRecDepth 100000 in
theorem cmp_Compare_string.calls (a0 : ByteArray) (a1 : ByteArray) (r : Int) (w : World) (h : cmp_Compare_string.f a0 a1 = some r) :
    Calls Tryz.prog 187 #[.string a0, .string a1] w fun e w' => e = .returned (.int .i64 r) ∧ Drawn0 w w' := by
  have H : ((cmp_isNaN_string.f a0).bind fun t561 => ((cmp_isNaN_string.f a1).bind fun t562 => (if t561 = true then (if t562 = true then (some 0) else (some (-1))) else (if t562 = true then (some 1) else (if (Op.bytesLess a0.toList a1.toList) = true then (some (-1)) else (if (Op.bytesLess a1.toList a0.toList) = true then (some 1) else (some 0))))))) = some r := h
  clear h
  replace H := Option.bind_eq_some_iff.mp H
  obtain ⟨t561, A30, H⟩ := H
  replace H : ((cmp_isNaN_string.f a1).bind fun t562 => (if t561 = true then (if t562 = true then (some 0) else (some (-1))) else (if t562 = true then (some 1) else (if (Op.bytesLess a0.toList a1.toList) = true then (some (-1)) else (if (Op.bytesLess a1.toList a0.toList) = true then (some 1) else (some 0)))))) = some r := H
  have A3 := a0_ A30
  clear A30
  replace H := Option.bind_eq_some_iff.mp H
  obtain ⟨t562, A40, H⟩ := H
  replace H : (if t561 = true then (if t562 = true then (some 0) else (some (-1))) else (if t562 = true then (some 1) else (if (Op.bytesLess a0.toList a1.toList) = true then (some (-1)) else (if (Op.bytesLess a1.toList a0.toList) = true then (some 1) else (some 0))))) = some r := H
  have A4 := a0_ A40
  clear A40
  by_cases c5 : t561 = true
  · subst c5
    have H1 : (if t562 = true then (some 0) else (some (-1))) = some r := by rw [if_pos rfl] at H; exact H
    clear H
    have H := H1
    clear H1
    by_cases c6 : t562 = true
    · subst c6
      have H1 : (some 0) = some r := by rw [if_pos rfl] at H; exact H
      clear H
      have H := H1
      clear H1
      obtain rfl := Option.some.inj H
      go_enter Tryz.func187, Tryz.ntmps187
      go_wp2_with (first | ((with_reducible refine gate_callee (f := 197) rfl ?_); refine goesS_ (some 8) Tryz.func197 #[.string a0] ?_; (with_reducible refine (cmp_isNaN_string.calls a0 true _ A3.out).mono ?_); rintro e w' ⟨rfl, ⟨nd, rfl⟩⟩; refine ⟨_, rfl, ?_⟩) | ((with_reducible refine gate_callee (f := 197) rfl ?_); refine goesS_ (some 10) Tryz.func197 #[.string a1] ?_; (with_reducible refine (cmp_isNaN_string.calls a1 true _ A4.out).mono ?_); rintro e w' ⟨rfl, ⟨nd, rfl⟩⟩; refine ⟨_, rfl, ?_⟩))
      go_ret
      exact ⟨by first | rfl | (simp; done) | (simp [*]; done), by repeat (first | exact Drawn0.refl _ | apply Drawn0.step)⟩
    · replace c6 := Bool.eq_false_iff.mpr c6
      subst c6
      have H1 : (some (-1)) = some r := by rw [if_neg (show ¬ (false = true) by decide)] at H; exact H
      clear H
      have H := H1
      clear H1
      obtain rfl := Option.some.inj H
      go_enter Tryz.func187, Tryz.ntmps187
      go_wp2_with (first | ((with_reducible refine gate_callee (f := 197) rfl ?_); refine goesS_ (some 8) Tryz.func197 #[.string a0] ?_; (with_reducible refine (cmp_isNaN_string.calls a0 true _ A3.out).mono ?_); rintro e w' ⟨rfl, ⟨nd, rfl⟩⟩; refine ⟨_, rfl, ?_⟩) | ((with_reducible refine gate_callee (f := 197) rfl ?_); refine goesS_ (some 10) Tryz.func197 #[.string a1] ?_; (with_reducible refine (cmp_isNaN_string.calls a1 false _ A4.out).mono ?_); rintro e w' ⟨rfl, ⟨nd, rfl⟩⟩; refine ⟨_, rfl, ?_⟩))
      go_ret
      exact ⟨by first | rfl | (simp; done) | (simp [*]; done), by repeat (first | exact Drawn0.refl _ | apply Drawn0.step)⟩
  · replace c5 := Bool.eq_false_iff.mpr c5
    subst c5
    have H1 : (if t562 = true then (some 1) else (if (Op.bytesLess a0.toList a1.toList) = true then (some (-1)) else (if (Op.bytesLess a1.toList a0.toList) = true then (some 1) else (some 0)))) = some r := by rw [if_neg (show ¬ (false = true) by decide)] at H; exact H
    clear H
    have H := H1
    clear H1
    by_cases c7 : t562 = true
    · subst c7
      have H1 : (some 1) = some r := by rw [if_pos rfl] at H; exact H
      clear H
      have H := H1
      clear H1
      obtain rfl := Option.some.inj H
      go_enter Tryz.func187, Tryz.ntmps187
      go_wp2_with (first | ((with_reducible refine gate_callee (f := 197) rfl ?_); refine goesS_ (some 8) Tryz.func197 #[.string a0] ?_; (with_reducible refine (cmp_isNaN_string.calls a0 false _ A3.out).mono ?_); rintro e w' ⟨rfl, ⟨nd, rfl⟩⟩; refine ⟨_, rfl, ?_⟩) | ((with_reducible refine gate_callee (f := 197) rfl ?_); refine goesS_ (some 10) Tryz.func197 #[.string a1] ?_; (with_reducible refine (cmp_isNaN_string.calls a1 true _ A4.out).mono ?_); rintro e w' ⟨rfl, ⟨nd, rfl⟩⟩; refine ⟨_, rfl, ?_⟩))
      go_ret
      exact ⟨by first | rfl | (simp; done) | (simp [*]; done), by repeat (first | exact Drawn0.refl _ | apply Drawn0.step)⟩
    · replace c7 := Bool.eq_false_iff.mpr c7
      subst c7
      have H1 : (if (Op.bytesLess a0.toList a1.toList) = true then (some (-1)) else (if (Op.bytesLess a1.toList a0.toList) = true then (some 1) else (some 0))) = some r := by rw [if_neg (show ¬ (false = true) by decide)] at H; exact H
      clear H
      have H := H1
      clear H1
      by_cases c8 : (Op.bytesLess a0.toList a1.toList) = true
      · rw [if_pos c8] at H
        have c8b0 : (Op.bytesLess a0.toList a1.toList) = true := c8
        clear c8
        obtain rfl := Option.some.inj H
        go_enter Tryz.func187, Tryz.ntmps187
        go_wp2_with (first | ((with_reducible refine gate_callee (f := 197) rfl ?_); refine goesS_ (some 8) Tryz.func197 #[.string a0] ?_; (with_reducible refine (cmp_isNaN_string.calls a0 false _ A3.out).mono ?_); rintro e w' ⟨rfl, ⟨nd, rfl⟩⟩; refine ⟨_, rfl, ?_⟩) | ((with_reducible refine gate_callee (f := 197) rfl ?_); refine goesS_ (some 10) Tryz.func197 #[.string a1] ?_; (with_reducible refine (cmp_isNaN_string.calls a1 false _ A4.out).mono ?_); rintro e w' ⟨rfl, ⟨nd, rfl⟩⟩; refine ⟨_, rfl, ?_⟩))
        go_ret
        exact ⟨by first | rfl | (simp; done) | (simp [*]; done), by repeat (first | exact Drawn0.refl _ | apply Drawn0.step)⟩
      · rw [if_neg c8] at H
        have c8b0 : (Op.bytesLess a0.toList a1.toList) = false := by simpa using c8
        clear c8
        by_cases c9 : (Op.bytesLess a1.toList a0.toList) = true
        · rw [if_pos c9] at H
          have c9b0 : (Op.bytesLess a1.toList a0.toList) = true := c9
          clear c9
          obtain rfl := Option.some.inj H
          go_enter Tryz.func187, Tryz.ntmps187
          go_wp2_with (first | ((with_reducible refine gate_callee (f := 197) rfl ?_); refine goesS_ (some 8) Tryz.func197 #[.string a0] ?_; (with_reducible refine (cmp_isNaN_string.calls a0 false _ A3.out).mono ?_); rintro e w' ⟨rfl, ⟨nd, rfl⟩⟩; refine ⟨_, rfl, ?_⟩) | ((with_reducible refine gate_callee (f := 197) rfl ?_); refine goesS_ (some 10) Tryz.func197 #[.string a1] ?_; (with_reducible refine (cmp_isNaN_string.calls a1 false _ A4.out).mono ?_); rintro e w' ⟨rfl, ⟨nd, rfl⟩⟩; refine ⟨_, rfl, ?_⟩))
          go_ret
          exact ⟨by first | rfl | (simp; done) | (simp [*]; done), by repeat (first | exact Drawn0.refl _ | apply Drawn0.step)⟩
        · rw [if_neg c9] at H
          have c9b0 : (Op.bytesLess a1.toList a0.toList) = false := by simpa using c9
          clear c9
          obtain rfl := Option.some.inj H
          go_enter Tryz.func187, Tryz.ntmps187
          go_wp2_with (first | ((with_reducible refine gate_callee (f := 197) rfl ?_); refine goesS_ (some 8) Tryz.func197 #[.string a0] ?_; (with_reducible refine (cmp_isNaN_string.calls a0 false _ A3.out).mono ?_); rintro e w' ⟨rfl, ⟨nd, rfl⟩⟩; refine ⟨_, rfl, ?_⟩) | ((with_reducible refine gate_callee (f := 197) rfl ?_); refine goesS_ (some 10) Tryz.func197 #[.string a1] ?_; (with_reducible refine (cmp_isNaN_string.calls a1 false _ A4.out).mono ?_); rintro e w' ⟨rfl, ⟨nd, rfl⟩⟩; refine ⟨_, rfl, ?_⟩))
          go_ret
          exact ⟨by first | rfl | (simp; done) | (simp [*]; done), by repeat (first | exact Drawn0.refl _ | apply Drawn0.step)⟩
end Go.Proofs.YtkpkfallgjdkmaaGreatDoor.P
namespace Go.Proofs.YtkpkfallgjdkmaaGreatDoor.P
open Go.RowKit Go.Proofs.YtkpkfallgjdkmaaGreatDoorW.PrintWords Go.Proofs.YtkpkfallgjdkmaaGreatDoorW.PrintLast Go.Proofs.YtkpkfallgjdkmaaGreatDoorW.PrintMore
attribute [local go_sem] max2_int min2_int max_two min_two max_three min_three max_four min_four
set_option linter.unusedVariables false
set_option linter.unusedSimpArgs false
def slices_Compare_string_string.l0 : Nat → List ByteArray → List ByteArray → List ByteArray → Int → Int → Option (Int)
  | 0, _, _, _, _, _ => none
  | k + 1, x0, x1, x9, x10, x11 => if x11 < x10 then (if 0 ≤ x11 then (if x11 < (x9.length : Int) then (if x11 ≥ (x1.length : Int) then (some 1) else (if x11 < (x1.length : Int) then ((cmp_Compare_string.f (rdOf ByteArray.empty x9 x11) (rdOf ByteArray.empty x1 x11)).bind fun t565 => (if t565 = 0 then (slices_Compare_string_string.l0 k x0 x1 x9 x10 (wrap64 (x11 + 1))) else (some t565))) else (none))) else (none)) else (none)) else (if (x0.length : Int) < (x1.length : Int) then (some (-1)) else (some 0))
def slices_Compare_string_string.f (k : Nat) (l0 : List ByteArray) (l1 : List ByteArray) : Option (Int) := slices_Compare_string_string.l0 k l0 l1 l0 (l0.length : Int) 0
set_option maxHeartbeats 8000000 in
set_option maxRecDepth 100000 in
theorem slices_Compare_string_string.calls (k : Nat) (A0 : Option Addr) (c0 : Nat) (l0 : List ByteArray) (A1 : Option Addr) (c1 : Nat) (l1 : List ByteArray) (r : Int) (w : World) (hr0 : Kd.C Kd.string w A0 l0.length l0) (hc0 : l0.length ≤ c0) (hr1 : Kd.C Kd.string w A1 l1.length l1) (hc1 : l1.length ≤ c1) (h : slices_Compare_string_string.f k l0 l1 = some r) :
    Calls Tryz.prog 171 #[.slice A0 l0.length c0, .slice A1 l1.length c1] w fun e w' => e = .returned (.int .i64 r) ∧ Drawn0 w w' := by
  have HR0 := a0_ hr0
  have HC0 := a0_ hc0
  clear hr0 hc0
  have HR1 := a0_ hr1
  have HC1 := a0_ hc1
  clear hr1 hc1
  have H : (slices_Compare_string_string.l0 k l0 l1 l0 (l0.length : Int) 0) = some r := h
  clear h
  have H' := a0_ H
  clear H
  go_enter Tryz.func171, Tryz.ntmps171
  go_wp2
  go_loopg [11] k (fun kq v11 w' => ∃ (x11_1 : Int), v11 = .int .i64 x11_1 ∧ Aside0 (slices_Compare_string_string.l0 kq l0 l1 l0 (l0.length : Int) x11_1 = some r) ∧ Aside0 (kq ≤ k) ∧ Drawn0 w w')
  case atStart => exact ⟨(0), (by first | rfl | (simp; done) | (simp [*]; done)), H', ⟨Nat.le_refl _⟩, by repeat (first | exact Drawn0.refl _ | apply Drawn0.step)⟩
  case round =>
    clear H'
    try clear c1
    try clear p2
    obtain ⟨x11_1, rfl, HA, HK1, ⟨m1, rfl⟩⟩ := hrel
    cases gk with
    | zero => exact absurd HA.out (by simp [slices_Compare_string_string.l0])
    | succ k1 =>
      have H := HA.out
      clear HA
      simp only [slices_Compare_string_string.l0] at H
      by_cases c3 : x11_1 < (l0.length : Int)
      · rw [if_pos c3] at H
        have c3b0 : decide (x11_1 < (l0.length : Int)) = true := decide_eq_true c3
        clear c3
        by_cases c4 : 0 ≤ x11_1
        · rw [if_pos c4] at H
          have c4b0 : decide (0 ≤ x11_1) = true := decide_eq_true c4
          clear c4
          by_cases c5 : x11_1 < (l0.length : Int)
          · rw [if_pos c5] at H
            have c5b0 : decide (x11_1 < (l0.length : Int)) = true := decide_eq_true c5
            clear c5
            by_cases c6 : x11_1 ≥ (l1.length : Int)
            · rw [if_pos c6] at H
              have c6b0 : decide ((l1.length : Int) ≤ x11_1) = true := decide_eq_true c6
              clear c6
              obtain rfl := Option.some.inj H
              have p563 : 0 ≤ (x11_1 : Int) := dec_
              have q563 : x11_1 < (l0.length : Int) := dec_
              obtain ⟨ad563, e563, hx563_0⟩ := Kd.at_string HR0.out x11_1 p563 q563
              cases e563
              replace p563 := eq_true p563
              replace q563 := eq_true q563
              go_wp2
              go_ret
              exact ⟨by first | rfl | (simp; done) | (simp [*]; done), by repeat (first | exact Drawn0.refl _ | apply Drawn0.step)⟩
            · rw [if_neg c6] at H
              have c6b0 : decide ((l1.length : Int) ≤ x11_1) = false := decide_eq_false c6
              clear c6
              by_cases c7 : x11_1 < (l1.length : Int)
              · rw [if_pos c7] at H
                have c7b0 : decide (x11_1 < (l1.length : Int)) = true := decide_eq_true c7
                clear c7
                replace H := Option.bind_eq_some_iff.mp H
                obtain ⟨t565, A80, H⟩ := H
                replace H : (if t565 = 0 then (slices_Compare_string_string.l0 k1 l0 l1 l0 (l0.length : Int) (wrap64 (x11_1 + 1))) else (some t565)) = some r := H
                have A8 := a0_ A80
                clear A80
                by_cases c9 : t565 = 0
                · rw [if_pos c9] at H
                  have c9b0 : (t565 == 0) = true := beq_iff_eq.mpr c9
                  have c9b1 : (t565 != 0) = false := bne_eq_false_iff_eq.mpr c9
                  clear c9
                  have H' := a0_ H
                  clear H
                  have p563 : 0 ≤ (x11_1 : Int) := dec_
                  have q563 : x11_1 < (l0.length : Int) := dec_
                  obtain ⟨ad563, e563, hx563_0⟩ := Kd.at_string HR0.out x11_1 p563 q563
                  cases e563
                  replace p563 := eq_true p563
                  replace q563 := eq_true q563
                  have p564 : 0 ≤ (x11_1 : Int) := dec_
                  have q564 : x11_1 < (l1.length : Int) := dec_
                  obtain ⟨ad564, e564, hx564_0⟩ := Kd.at_string HR1.out x11_1 p564 q564
                  cases e564
                  replace p564 := eq_true p564
                  replace q564 := eq_true q564
                  go_wp2_with (first | ((with_reducible refine gate_callee (f := 187) rfl ?_); refine goesS_ (some 26) Tryz.func187 #[.string (rdOf ByteArray.empty l0 x11_1), .string (rdOf ByteArray.empty l1 x11_1)] ?_; (with_reducible refine (cmp_Compare_string.calls (rdOf ByteArray.empty l0 x11_1) (rdOf ByteArray.empty l1 x11_1) t565 _ A8.out).mono ?_); rintro e w' ⟨rfl, ⟨nd, rfl⟩⟩; refine ⟨_, rfl, ?_⟩))
                  go_roundg k1
                  case measure => have := HK1.out; omega
                  case rel => exact ⟨(wrap64 (x11_1 + 1)), (by first | rfl | (simp; done) | (simp [*]; done)), H', ⟨by have := HK1.out; omega⟩, by repeat (first | exact Drawn0.refl _ | apply Drawn0.step)⟩
                · rw [if_neg c9] at H
                  have c9b0 : (t565 == 0) = false := beq_eq_false_iff_ne.mpr c9
                  have c9b1 : (t565 != 0) = true := bne_iff_ne.mpr c9
                  obtain rfl := Option.some.inj H
                  have p563 : 0 ≤ (x11_1 : Int) := dec_
                  have q563 : x11_1 < (l0.length : Int) := dec_
                  obtain ⟨ad563, e563, hx563_0⟩ := Kd.at_string HR0.out x11_1 p563 q563
                  cases e563
                  replace p563 := eq_true p563
                  replace q563 := eq_true q563
                  have p564 : 0 ≤ (x11_1 : Int) := dec_
                  have q564 : x11_1 < (l1.length : Int) := dec_
                  obtain ⟨ad564, e564, hx564_0⟩ := Kd.at_string HR1.out x11_1 p564 q564
                  cases e564
                  replace p564 := eq_true p564
                  replace q564 := eq_true q564
                  go_wp2_with (first | ((with_reducible refine gate_callee (f := 187) rfl ?_); refine goesS_ (some 26) Tryz.func187 #[.string (rdOf ByteArray.empty l0 x11_1), .string (rdOf ByteArray.empty l1 x11_1)] ?_; (with_reducible refine (cmp_Compare_string.calls (rdOf ByteArray.empty l0 x11_1) (rdOf ByteArray.empty l1 x11_1) t565 _ A8.out).mono ?_); rintro e w' ⟨rfl, ⟨nd, rfl⟩⟩; refine ⟨_, rfl, ?_⟩))
                  go_ret
                  exact ⟨by first | rfl | (simp; done) | (simp [*]; done), by repeat (first | exact Drawn0.refl _ | apply Drawn0.step)⟩
              · rw [if_neg c7] at H
                exact absurd H (by simp)
          · rw [if_neg c5] at H
            exact absurd H (by simp)
        · rw [if_neg c4] at H
          exact absurd H (by simp)
      · rw [if_neg c3] at H
        have c3b0 : decide (x11_1 < (l0.length : Int)) = false := decide_eq_false c3
        clear c3
        by_cases c10 : (l0.length : Int) < (l1.length : Int)
        · rw [if_pos c10] at H
          have c10b0 : decide ((l0.length : Int) < (l1.length : Int)) = true := decide_eq_true c10
          have c10b1 : decide (l0.length < l1.length) = true := decide_eq_true (Int.ofNat_lt.mp c10)
          clear c10
          obtain rfl := Option.some.inj H
          go_wp2
          go_ret
          exact ⟨by first | rfl | (simp; done) | (simp [*]; done), by repeat (first | exact Drawn0.refl _ | apply Drawn0.step)⟩
        · rw [if_neg c10] at H
          have c10b0 : decide ((l0.length : Int) < (l1.length : Int)) = false := decide_eq_false c10
          have c10b1 : decide (l0.length < l1.length) = false := decide_eq_false (fun h => c10 (Int.ofNat_lt.mpr h))
          clear c10
          obtain rfl := Option.some.inj H
          go_wp2
          go_ret
          exact ⟨by first | rfl | (simp; done) | (simp [*]; done), by repeat (first | exact Drawn0.refl _ | apply Drawn0.step)⟩
def impl_compareNames.f (k : Nat) (a0 : ByteArray) (a1 : ByteArray) : Option (Int) := (impl_labelsOf.f a0).bind fun t566 => ((impl_labelsOf.f a1).bind fun t569 => ((slices_Reverse_string_string.f k t566).bind fun t572 => ((slices_Reverse_string_string.f k t569).bind fun t573 => ((slices_Compare_string_string.f k t572 t573).bind fun t574 => (some t574)))))
set_option maxHeartbeats 8000000 in
set_option maxRecDepth 100000 in
theorem impl_compareNames.calls (k : Nat) (a0 : ByteArray) (a1 : ByteArray) (r : Int) (w : World) (h : impl_compareNames.f k a0 a1 = some r) :
    Calls Tryz.prog 150 #[.string a0, .string a1] w fun e w' => e = .returned (.int .i64 r) ∧ Below w.heap.size w w' := by
  have HB := a0_ (Below.refl w.heap.size w)
  have H : ((impl_labelsOf.f a0).bind fun t566 => ((impl_labelsOf.f a1).bind fun t569 => ((slices_Reverse_string_string.f k t566).bind fun t572 => ((slices_Reverse_string_string.f k t569).bind fun t573 => ((slices_Compare_string_string.f k t572 t573).bind fun t574 => (some t574)))))) = some r := h
  clear h
  replace H := Option.bind_eq_some_iff.mp H
  obtain ⟨t566, A30, H⟩ := H
  replace H : ((impl_labelsOf.f a1).bind fun t569 => ((slices_Reverse_string_string.f k t566).bind fun t572 => ((slices_Reverse_string_string.f k t569).bind fun t573 => ((slices_Compare_string_string.f k t572 t573).bind fun t574 => (some t574))))) = some r := H
  have A3 := a0_ A30
  clear A30
  replace H := Option.bind_eq_some_iff.mp H
  obtain ⟨t569, A40, H⟩ := H
  replace H : ((slices_Reverse_string_string.f k t566).bind fun t572 => ((slices_Reverse_string_string.f k t569).bind fun t573 => ((slices_Compare_string_string.f k t572 t573).bind fun t574 => (some t574)))) = some r := H
  have A4 := a0_ A40
  clear A40
  replace H := Option.bind_eq_some_iff.mp H
  obtain ⟨t572, A50, H⟩ := H
  replace H : ((slices_Reverse_string_string.f k t569).bind fun t573 => ((slices_Compare_string_string.f k t572 t573).bind fun t574 => (some t574))) = some r := H
  have A5 := a0_ A50
  clear A50
  replace H := Option.bind_eq_some_iff.mp H
  obtain ⟨t573, A60, H⟩ := H
  replace H : ((slices_Compare_string_string.f k t572 t573).bind fun t574 => (some t574)) = some r := H
  have A6 := a0_ A60
  clear A60
  replace H := Option.bind_eq_some_iff.mp H
  obtain ⟨t574, A70, H⟩ := H
  replace H : (some t574) = some r := H
  have A7 := a0_ A70
  clear A70
  obtain rfl := Option.some.inj H
  go_enter Tryz.func150, Tryz.ntmps150
  go_wp2_with (first | ((with_reducible refine gate_callee (f := 99) rfl ?_); refine goesS_ (some 8) Tryz.func99 #[.string a0] ?_; (with_reducible refine (impl_labelsOf.calls a0 t566 _ A3.out).mono ?_); rintro e w8 ⟨v567, rfl, ho0, hb⟩; refine ⟨_, rfl, ?_⟩; have HO568 := a0_ (Kd.R_lower ho0 (below_size bq0_)); replace HB := a0_ (below_step bq0_ hb); (try clear hb); (try clear hb2); (try clear hk); (try clear hi); (try clear ho0)) | ((with_reducible refine gate_callee (f := 99) rfl ?_); refine goesS_ (some 10) Tryz.func99 #[.string a1] ?_; (with_reducible refine (impl_labelsOf.calls a1 t569 _ A4.out).mono ?_); rintro e w9 ⟨v570, rfl, ho0, hb⟩; refine ⟨_, rfl, ?_⟩; have n0_ := a0_ (Kd.R_elder' (kR_ HO568.out) (Kd.R_base ho0) hb); have n1_ := a0_ (Kd.R_lower (Kd.R_new' ho0 (Kd.R_lt (kR_ HO568.out))) (below_size bq0_)); have n2_ := a0_ (below_step bq0_ hb); clear HO568; clear HB; have HO568 := n0_; have HO571 := n1_; have HB := n2_; clear n0_ n1_ n2_; (try clear hb); (try clear hb2); (try clear hk); (try clear hi); (try clear ho0); obtain ⟨Ao10, co10, eo10⟩ := Kd.R_slice HO568.out; subst eo10) | ((with_reducible refine gate_callee (f := 170) rfl ?_); refine goesS_ (some 12) Tryz.func170 #[.slice Ao10 t566.length co10] ?_; (with_reducible refine (slices_Reverse_string_string.calls k (fun k_ => some k_ = (.slice Ao10 t566.length co10 : Value).ownBlock) (.slice Ao10 t566.length co10) t566 t572 w _ ?side1 ?side2 A5.out).mono ?_); (case side1 => repeat (first | (with_reducible first | exact HB.out | apply below_alloc | apply pw_below_drewN | apply below_drew1) | exact HB.out)); (case side2 => exact Kd.R_tight rfl HO568.out); rintro e w11 ⟨rfl, hy0, hb, hkp⟩; refine ⟨_, rfl, ?_⟩; replace HO568 := a0_ (Kd.R_reok rfl hy0 (fun k_ e_ => HO568.out.1 k_ e_)); replace HO571 := a0_ (Kd.R_mono (ok' := fun k_ => some k_ ≠ (.slice Ao10 t566.length co10 : Value).ownBlock) (Kd.R_keptB (HO571.out) hkp (fun k_ hk_ hs_ => (hk_.2) hs_)) (fun k_ hk_ => hk_.1.2)); replace HB := a0_ (hb); (try clear hb); (try clear hkp); (try clear hy0); obtain ⟨Ao12, co12, eo12⟩ := Kd.R_slice HO571.out; subst eo12) | ((with_reducible refine gate_callee (f := 170) rfl ?_); refine goesS_ (some 14) Tryz.func170 #[.slice Ao12 t569.length co12] ?_; (with_reducible refine (slices_Reverse_string_string.calls k (fun k_ => some k_ = (.slice Ao12 t569.length co12 : Value).ownBlock) (.slice Ao12 t569.length co12) t569 t573 w _ ?side1 ?side2 A6.out).mono ?_); (case side1 => repeat (first | (with_reducible first | exact HB.out | apply below_alloc | apply pw_below_drewN | apply below_drew1) | exact HB.out)); (case side2 => exact Kd.R_tight rfl HO571.out); rintro e w13 ⟨rfl, hy0, hb, hkp⟩; refine ⟨_, rfl, ?_⟩; replace HO568 := a0_ (Kd.R_mono (ok' := fun k_ => some k_ ≠ (.slice Ao12 t569.length co12 : Value).ownBlock) (Kd.R_keptB (HO568.out) hkp (fun k_ hk_ hs_ => (hk_.2) hs_)) (fun k_ hk_ => hk_.1.2)); replace HO571 := a0_ (Kd.R_reok rfl hy0 (fun k_ e_ => HO571.out.1 k_ e_)); replace HB := a0_ (hb); (try clear hb); (try clear hkp); (try clear hy0)) | ((with_reducible refine gate_callee (f := 171) rfl ?_); refine goesL_ (some 17) rfl rfl Tryz.func171 (by kernel_rfl) rfl #[.slice Ao10 t572.length co10, .slice Ao12 t573.length co12] rfl (by (try simp only [List.map_toArray, List.map_cons, List.map_nil]); first | done | (rw [show t572.length = t566.length from (Kd.R_reads' HO568.out).1.symm, show t573.length = t569.length from (Kd.R_reads' HO571.out).1.symm] <;> rfl) | rfl | (simp only [List.length_drop, List.length_take]; rfl)) ?_; (with_reducible refine (slices_Compare_string_string.calls k _ _ t572 _ _ t573 t574 _ ?side1 ?side2 ?side3 ?side4 A7.out).mono ?_); (case side1 => repeat (first | exact (Kd.R_reads' HO568.out).2.2 | (with_reducible refine Kd.C_alloc ?_ _) | (with_reducible refine Kd.C_drewN ?_ _) | (with_reducible refine Kd.C_drew ?_))); (case side2 => rw [show t572.length = t566.length from (Kd.R_reads' HO568.out).1.symm]; exact (Kd.R_reads' HO568.out).2.1); (case side3 => repeat (first | exact (Kd.R_reads' HO571.out).2.2 | (with_reducible refine Kd.C_alloc ?_ _) | (with_reducible refine Kd.C_drewN ?_ _) | (with_reducible refine Kd.C_drew ?_))); (case side4 => rw [show t573.length = t569.length from (Kd.R_reads' HO571.out).1.symm]; exact (Kd.R_reads' HO571.out).2.1); rintro e w' ⟨rfl, ⟨nd, rfl⟩⟩; refine ⟨_, rfl, ?_⟩))
  go_ret
  exact ⟨by first | rfl | (simp [errW_none, errW_some] <;> rfl) | (simp [*, errW_none, errW_some] <;> rfl), by repeat (first | (with_reducible first | exact HB.out | apply below_alloc | apply pw_below_drewN | apply below_drew1) | exact HB.out)⟩
end Go.Proofs.YtkpkfallgjdkmaaGreatDoor.P
namespace Go.Proofs.YtkpkfallgjdkmaaGreatDoor.Pure
open Go.RowKit Go.Proofs.YtkpkfallgjdkmaaGreatDoor.P Go.Proofs.YtkpkfallgjdkmaaGreatDoorW.PrintWords Go.Proofs.YtkpkfallgjdkmaaGreatDoorW.PrintLast
set_option linter.unusedVariables false
set_option linter.unusedSimpArgs false
theorem swap_ends (p m q : List ByteArray) (a b : ByteArray) : ((p ++ (a :: (m ++ [b])) ++ q).set p.length b).set (p.length + m.length + 1) a = (p ++ [b]) ++ m ++ (a :: q) := by
  have h1 : (p ++ (a :: (m ++ [b])) ++ q).set p.length b = p ++ b :: (m ++ b :: q) := by simp [List.set_append]
  have h2 : (p ++ b :: (m ++ b :: q)) = (p ++ b :: m) ++ b :: q := by simp
  have h3 : p.length + m.length + 1 = (p ++ b :: m).length := by simp; omega
  rw [h1, h2, h3, List.set_append_right _ _ (Nat.le_refl _), Nat.sub_self]
  simp
theorem get_first (p m q : List ByteArray) (a b : ByteArray) : rdOf ByteArray.empty (p ++ (a :: (m ++ [b])) ++ q) (p.length : Int) = a := by
  unfold rdOf
  simp [List.getD_eq_getElem?_getD]
theorem get_last (p m q : List ByteArray) (a b : ByteArray) : rdOf ByteArray.empty (p ++ (a :: (m ++ [b])) ++ q) ((p.length + m.length + 1 : Nat) : Int) = b := by
  have h2 : p ++ (a :: (m ++ [b])) ++ q = (p ++ a :: m) ++ b :: q := by simp
  have h3 : p.length + m.length + 1 = (p ++ a :: m).length := by simp; omega
  unfold rdOf
  rw [Int.toNat_natCast, h2, h3]
  simp [List.getD_eq_getElem?_getD]
theorem reverse_loop : ∀ (n : Nat) (p m q : List ByteArray), m.length ≤ n → p.length + m.length + q.length < 1099511627776 →
    Ev (fun k => slices_Reverse_string_string.l0 k (p ++ m ++ q) (p.length : Int) ((p.length : Int) + (m.length : Int) - 1)) (p ++ m.reverse ++ q)
  | n, p, [], q, hn, hb => by
    refine Ev.step (f := fun _ => some _) (fun k => ?_) (Ev.now _)
    show slices_Reverse_string_string.l0 (k + 1) (p ++ [] ++ q) (p.length : Int) ((p.length : Int) + (0 : Int) - 1) = _
    unfold slices_Reverse_string_string.l0
    rw [if_neg (by omega)]
    rfl
  | n, p, a :: t, q, hn, hb => by
    rcases List.eq_nil_or_concat t with rfl | ⟨m, b, rfl⟩
    · refine Ev.step (f := fun _ => some _) (fun k => ?_) (Ev.now _)
      show slices_Reverse_string_string.l0 (k + 1) (p ++ [a] ++ q) (p.length : Int) ((p.length : Int) + (1 : Int) - 1) = _
      unfold slices_Reverse_string_string.l0
      rw [if_neg (by omega)]
      rfl
    · rw [List.concat_eq_append] at hn hb ⊢
      have hl : (a :: (m ++ [b])).length = m.length + 2 := by simp
      rw [hl] at hn hb ⊢
      match n, hn with
      | n + 1, hn =>
        have ih := reverse_loop n (p ++ [b]) m (a :: q) (by omega) (by simp; omega)
        have e : p ++ (a :: (m ++ [b])).reverse ++ q = (p ++ [b]) ++ m.reverse ++ (a :: q) := by simp
        rw [e]
        refine Ev.step (fun k => ?_) ih
        show slices_Reverse_string_string.l0 (k + 1) (p ++ (a :: (m ++ [b])) ++ q) (p.length : Int) ((p.length : Int) + ((m.length + 2 : Nat) : Int) - 1) = _
        have hj : (p.length : Int) + ((m.length + 2 : Nat) : Int) - 1 = ((p.length + m.length + 1 : Nat) : Int) := by omega
        have hlen : (p ++ (a :: (m ++ [b])) ++ q).length = p.length + m.length + 2 + q.length := by simp; omega
        rw [hj]
        conv => lhs; unfold slices_Reverse_string_string.l0
        rw [hlen, if_pos (by omega), if_pos (by omega), if_pos (by omega), if_pos (by omega), if_pos (by omega), get_first, get_last, Int.toNat_natCast, Int.toNat_natCast, swap_ends]
        rw [w64n (by omega), show wrap64 (((p.length + m.length + 1 : Nat) : Int) - 1) = ((p.length + m.length : Nat) : Int) by unfold wrap64; omega]
        have e1 : (p ++ [b]).length = p.length + 1 := by simp
        rw [e1]
        congr 1
        omega
theorem reverse_ev (l : List ByteArray) (h : l.length < 1099511627776) : Ev (fun k => slices_Reverse_string_string.f k l) l.reverse := by
  have := reverse_loop l.length [] l [] (Nat.le_refl _) (by simpa using h)
  simp only [List.nil_append, List.append_nil, List.length_nil] at this
  refine Ev.congr (fun k => ?_) this
  unfold slices_Reverse_string_string.f
  congr 1
  unfold wrap64
  show _ = (0 : Int) + (l.length : Int) - 1
  omega
def cmpP (a b : ByteArray) : Int := if Op.bytesLess a.toList b.toList = true then -1 else (if Op.bytesLess b.toList a.toList = true then 1 else 0)
def cmpL : List ByteArray → List ByteArray → Int
  | [], [] => 0
  | [], _ :: _ => -1
  | _ :: _, [] => 1
  | a :: x, b :: y => if cmpP a b = 0 then cmpL x y else cmpP a b
theorem cmp_eq (a b : ByteArray) : cmp_Compare_string.f a b = some (cmpP a b) := by
  unfold cmp_Compare_string.f cmp_isNaN_string.f cmpP
  simp only [bne_self_eq_false, Option.bind_some]
  rw [if_neg (by simp), if_neg (by simp)]
  split
  · rfl
  · split <;> rfl
theorem rd_at (l : List ByteArray) (i : Nat) (h : i < l.length) : rdOf ByteArray.empty l (i : Int) = l[i] := by
  unfold rdOf
  rw [Int.toNat_natCast, List.getD_eq_getElem?_getD, List.getElem?_eq_getElem h]
  rfl
theorem compare_loop (x y : List ByteArray) (hx : x.length < 1099511627776) (hy : y.length < 1099511627776) : ∀ (m i : Nat), i + m = x.length → i ≤ y.length →
    Ev (fun k => slices_Compare_string_string.l0 k x y x (x.length : Int) (i : Int)) (cmpL (x.drop i) (y.drop i))
  | 0, i, h, hiy => by
    refine Ev.step (f := fun _ => some _) (fun k => ?_) (Ev.now _)
    show slices_Compare_string_string.l0 (k + 1) x y x (x.length : Int) (i : Int) = _
    unfold slices_Compare_string_string.l0
    rw [if_neg (by omega), List.drop_of_length_le (by omega)]
    by_cases hl : (x.length : Int) < (y.length : Int)
    · rw [if_pos hl, List.drop_eq_getElem_cons (show i < y.length by omega)]
      rfl
    · rw [if_neg hl, List.drop_of_length_le (by omega)]
      rfl
  | m + 1, i, h, hiy => by
    by_cases hl : (i : Int) ≥ (y.length : Int)
    · refine Ev.step (f := fun _ => some _) (fun k => ?_) (Ev.now _)
      show slices_Compare_string_string.l0 (k + 1) x y x (x.length : Int) (i : Int) = _
      unfold slices_Compare_string_string.l0
      rw [if_pos (by omega), if_pos (by omega), if_pos (by omega), if_pos hl, List.drop_of_length_le (show y.length ≤ i by omega), List.drop_eq_getElem_cons (show i < x.length by omega)]
      rfl
    · have ih := compare_loop x y hx hy m (i + 1) (by omega) (by omega)
      have hc : cmpL (x.drop i) (y.drop i) = if cmpP x[i] y[i] = 0 then cmpL (x.drop (i + 1)) (y.drop (i + 1)) else cmpP x[i] y[i] := by
        rw [List.drop_eq_getElem_cons (show i < x.length by omega), List.drop_eq_getElem_cons (show i < y.length by omega)]
        rfl
      refine Ev.step (f := fun k => if cmpP x[i] y[i] = 0 then slices_Compare_string_string.l0 k x y x (x.length : Int) ((i + 1 : Nat) : Int) else some (cmpP x[i] y[i])) (fun k => ?_) ?_
      · show slices_Compare_string_string.l0 (k + 1) x y x (x.length : Int) (i : Int) = _
        conv => lhs; unfold slices_Compare_string_string.l0
        rw [if_pos (by omega), if_pos (by omega), if_pos (by omega), if_neg hl, if_pos (by omega), rd_at x i (by omega), rd_at y i (by omega), cmp_eq, w64n (by omega)]
        rfl
      · rw [hc]
        by_cases h0 : cmpP x[i] y[i] = 0
        · simp only [if_pos h0]; exact ih
        · simp only [if_neg h0]; exact Ev.now _
theorem compare_ev (x y : List ByteArray) (hx : x.length < 1099511627776) (hy : y.length < 1099511627776) : Ev (fun k => slices_Compare_string_string.f k x y) (cmpL x y) := by
  have := compare_loop x y hx hy x.length 0 (by omega) (by omega)
  exact this
theorem speccomp_loop (x y : List ByteArray) (hx : x.length < 1099511627776) (hy : y.length < 1099511627776) : ∀ (m i : Nat), i + m = x.length → i ≤ y.length →
    Ev (fun k => spec_l1Compare.l0 k x y ((i + 1 : Nat) : Int)) (cmpL (x.reverse.drop i) (y.reverse.drop i))
  | m, i, h, hiy => by
    have hj : ∀ k, spec_l1Compare.l0 (k + 1) x y ((i + 1 : Nat) : Int) = spec_l1Compare.j1 k x y ((i + 1 : Nat) : Int) (decide (i + 1 ≤ x.length ∧ i + 1 ≤ y.length)) := by
      intro k
      conv => lhs; unfold spec_l1Compare.l0
      by_cases hl : ((i + 1 : Nat) : Int) ≤ (x.length : Int)
      · rw [if_pos hl]
        congr 1
        rw [decide_eq_decide]; omega
      · rw [if_neg hl]
        congr 1
        rw [eq_comm, decide_eq_false_iff_not]; omega
    refine Ev.step hj ?_
    by_cases hd : i + 1 ≤ x.length ∧ i + 1 ≤ y.length
    · obtain ⟨m, rfl⟩ : ∃ m', m = m' + 1 := ⟨m - 1, by omega⟩
      have hrx : i < x.reverse.length := by rw [List.length_reverse]; omega
      have hry : i < y.reverse.length := by rw [List.length_reverse]; omega
      have ih := speccomp_loop x y hx hy m (i + 1) (by omega) (by omega)
      have hwx : wrap64 ((x.length : Int) - ((i + 1 : Nat) : Int)) = ((x.length - 1 - i : Nat) : Int) := by unfold wrap64; omega
      have hwy : wrap64 ((y.length : Int) - ((i + 1 : Nat) : Int)) = ((y.length - 1 - i : Nat) : Int) := by unfold wrap64; omega
      have gx : rdOf ByteArray.empty x ((x.length - 1 - i : Nat) : Int) = x.reverse[i] := by rw [rd_at _ _ (by omega), List.getElem_reverse]
      have gy : rdOf ByteArray.empty y ((y.length - 1 - i : Nat) : Int) = y.reverse[i] := by rw [rd_at _ _ (by omega), List.getElem_reverse]
      have hc : cmpL (x.reverse.drop i) (y.reverse.drop i) = if cmpP x.reverse[i] y.reverse[i] = 0 then cmpL (x.reverse.drop (i + 1)) (y.reverse.drop (i + 1)) else cmpP x.reverse[i] y.reverse[i] := by
        rw [List.drop_eq_getElem_cons hrx, List.drop_eq_getElem_cons hry]
        rfl
      refine Ev.step (f := fun k => if cmpP x.reverse[i] y.reverse[i] = 0 then spec_l1Compare.l0 k x y ((i + 1 + 1 : Nat) : Int) else some (cmpP x.reverse[i] y.reverse[i])) (fun k => ?_) ?_
      · rw [decide_eq_true hd]
        conv => lhs; unfold spec_l1Compare.j1
        rw [if_pos rfl, hwx, hwy, if_pos (by omega), if_pos (by omega), if_pos (by omega), if_pos (by omega), gx, gy, w64n (by omega)]
        unfold cmpP
        by_cases h1 : Op.bytesLess x.reverse[i].toList y.reverse[i].toList = true
        · rw [if_pos h1, if_pos h1]; rfl
        · rw [if_neg h1, if_neg h1]
          by_cases h2 : Op.bytesLess y.reverse[i].toList x.reverse[i].toList = true
          · rw [if_pos h2, if_pos h2]; rfl
          · rw [if_neg h2, if_neg h2]; rfl
      · rw [hc]
        by_cases h0 : cmpP x.reverse[i] y.reverse[i] = 0
        · simp only [if_pos h0]; exact ih
        · simp only [if_neg h0]; exact Ev.now _
    · refine Ev.step (f := fun _ => some _) (fun k => ?_) (Ev.now _)
      rw [decide_eq_false hd]
      conv => lhs; unfold spec_l1Compare.j1
      rw [if_neg (by simp)]
      have hcase : ∀ (p q : List ByteArray), (p = [] ∨ q = []) → cmpL p q = if p.length < q.length then -1 else if p.length > q.length then 1 else 0 := by
        intro p q hpq
        cases p <;> cases q <;> first | rfl | (simp at hpq)| (simp [cmpL])
      rw [hcase _ _ (by
        by_cases h1 : i + 1 ≤ x.length
        · right; apply List.drop_of_length_le; rw [List.length_reverse]; omega
        · left; apply List.drop_of_length_le; rw [List.length_reverse]; omega)]
      simp only [List.length_drop, List.length_reverse]
      by_cases h1 : (x.length : Int) < (y.length : Int)
      · rw [if_pos h1, if_pos (by omega)]
      · by_cases h2 : (x.length : Int) > (y.length : Int)
        · rw [if_neg h1, if_pos h2, if_neg (by omega), if_pos (by omega)]
        · rw [if_neg h1, if_neg h2, if_neg (by omega), if_neg (by omega)]
  termination_by m => m
/-- The order of two names. -/
def ordL (a b : List UInt8) : Int := cmpL ((labelsL a).map mkB).reverse ((labelsL b).map mkB).reverse
theorem labs_len (s : ByteArray) (hs : s.size ≤ 1048576) : ((labelsL s.data.toList).map mkB).length ≤ 1048577 := by
  rw [List.length_map]
  unfold labelsL
  split
  · simp
  · have := splitL_len 46 s.data.toList; rw [← size_len] at this; omega
theorem implComp_ev (a b : ByteArray) (ha : a.size ≤ 1048576) (hb : b.size ≤ 1048576) : Ev (fun k => impl_compareNames.f k a b) (ordL a.data.toList b.data.toList) := by
  have h1 := labs_len a ha
  have h2 := labs_len b hb
  refine Ev.congr (f := fun k => (slices_Reverse_string_string.f k ((labelsL a.data.toList).map mkB)).bind fun t151 => (slices_Reverse_string_string.f k ((labelsL b.data.toList).map mkB)).bind fun t152 => (slices_Compare_string_string.f k t151 t152).bind fun t153 => some t153) (fun k => ?_) ?_
  · unfold impl_compareNames.f
    rw [labelsOf_eq a (by omega), labelsOf_eq b (by omega)]
    rfl
  · refine Ev.bind (reverse_ev _ (by omega)) (Ev.bind (reverse_ev _ (by omega)) (Ev.bind (compare_ev _ _ ?_ ?_) (Ev.now _)))
    · rw [List.length_reverse]; omega
    · rw [List.length_reverse]; omega
theorem specComp_ev (a b : ByteArray) (ha : a.size ≤ 1048576) (hb : b.size ≤ 1048576) (ga : goodL a.data.toList = true) (gb : goodL b.data.toList = true) : Ev (fun k => spec_l1Compare.f k a b) (ordL a.data.toList b.data.toList) := by
  obtain ⟨r1, e1, e2, e3⟩ := labels_ev a (by omega)
  obtain ⟨r2, f1, f2, f3⟩ := labels_ev b (by omega)
  have h1 := labs_len a ha
  have h2 := labs_len b hb
  refine Ev.congr (fun k => rfl) (Ev.bind e1 (Ev.bind f1 ?_))
  rw [e3 (e2.trans ga), f3 (f2.trans gb)]
  exact speccomp_loop _ _ (by omega) (by omega) _ 0 (Nat.zero_add _) (by omega)
theorem cmpP_lt (a b : ByteArray) : cmpP a b = if a.data.toList < b.data.toList then -1 else if b.data.toList < a.data.toList then 1 else 0 := by
  unfold cmpP
  rw [Go.Proofs.bytesLess_eq, Go.Proofs.bytesLess_eq, Lib.toList_data, Lib.toList_data]
  simp only [decide_eq_true_eq]
theorem lst_tri (a b : List UInt8) : a < b ∨ a = b ∨ b < a := by
  by_cases h1 : a < b
  · exact .inl h1
  · by_cases h2 : b < a
    · exact .inr (.inr h2)
    · exact .inr (.inl (List.le_antisymm h2 h1))
theorem cmpP_zero (a b : ByteArray) : cmpP a b = 0 ↔ a = b := by
  rw [cmpP_lt]
  rcases lst_tri a.data.toList b.data.toList with h | h | h
  · rw [if_pos h]
    refine ⟨fun h0 => by omega, fun e => ?_⟩
    rw [e] at h
    exact absurd h (List.lt_irrefl _)
  · have hn : ¬ a.data.toList < b.data.toList := by rw [h]; exact List.lt_irrefl _
    have hn2 : ¬ b.data.toList < a.data.toList := by rw [h]; exact List.lt_irrefl _
    rw [if_neg hn, if_neg hn2]
    exact ⟨fun _ => ext_data h, fun _ => rfl⟩
  · have hn : ¬ a.data.toList < b.data.toList := fun h' => absurd (List.lt_trans h h') (List.lt_irrefl _)
    rw [if_neg hn, if_pos h]
    refine ⟨fun h0 => by omega, fun e => ?_⟩
    rw [e] at h
    exact absurd h (List.lt_irrefl _)
theorem cmpP_less (a b : ByteArray) : cmpP a b < 0 ↔ a.data.toList < b.data.toList := by
  rw [cmpP_lt]
  by_cases h : a.data.toList < b.data.toList
  · rw [if_pos h]; exact ⟨fun _ => h, fun _ => by decide⟩
  · rw [if_neg h]
    refine ⟨fun h' => ?_, fun h' => absurd h' h⟩
    split at h' <;> omega
theorem cmpP_trans {a b c : ByteArray} (h : cmpP a b < 0) (h' : cmpP b c < 0) : cmpP a c < 0 := by
  rw [cmpP_less] at *
  exact List.lt_trans h h'
theorem cmpL_zero : ∀ x y : List ByteArray, cmpL x y = 0 ↔ x = y
  | [], [] => ⟨fun _ => rfl, fun _ => rfl⟩
  | [], _ :: _ => ⟨fun h => by simp [cmpL] at h, fun h => by cases h⟩
  | _ :: _, [] => ⟨fun h => by simp [cmpL] at h, fun h => by cases h⟩
  | a :: x, b :: y => by
    unfold cmpL
    by_cases h : cmpP a b = 0
    · rw [if_pos h, cmpL_zero x y, (cmpP_zero a b).1 h]
      exact ⟨fun e => by rw [e], fun e => by injection e⟩
    · rw [if_neg h]
      refine ⟨fun e => absurd e h, fun e => ?_⟩
      injection e with e1 e2
      exact absurd ((cmpP_zero a b).2 e1) h
theorem cmpL_trans : ∀ x y z : List ByteArray, cmpL x y < 0 → cmpL y z < 0 → cmpL x z < 0
  | [], [], z, h, h' => by simp [cmpL] at h
  | [], _ :: _, [], h, h' => by simp [cmpL] at h'
  | [], _ :: _, _ :: _, h, h' => by simp [cmpL]
  | _ :: _, [], z, h, h' => by simp [cmpL] at h
  | _ :: _, _ :: _, [], h, h' => by simp [cmpL] at h'
  | a :: x, b :: y, c :: z, h, h' => by
    unfold cmpL at h h' ⊢
    by_cases h1 : cmpP a b = 0
    · rw [if_pos h1] at h
      obtain rfl := (cmpP_zero a b).1 h1
      by_cases h2 : cmpP a c = 0
      · rw [if_pos h2] at h' ⊢
        exact cmpL_trans x y z h h'
      · rw [if_neg h2] at h' ⊢
        exact h'
    · rw [if_neg h1] at h
      by_cases h2 : cmpP b c = 0
      · obtain rfl := (cmpP_zero b c).1 h2
        rw [if_neg h1]
        exact h
      · rw [if_neg h2] at h'
        have h3 := cmpP_trans h h'
        rw [if_neg (by omega)]
        exact h3
/-- The text of parts with dots between. -/
def unO : List (List UInt8) → List UInt8
  | [] => []
  | [p] => p
  | p :: q :: r => p ++ 46 :: unO (q :: r)
theorem unO_split : ∀ s : List UInt8, unO (splitL 46 s) = s
  | [] => rfl
  | x :: xs => by
    have ih := unO_split xs
    obtain ⟨p, ps, hp⟩ := List.exists_cons_of_ne_nil (splitL_ne 46 xs)
    unfold splitL
    rw [hp] at ih ⊢
    by_cases h : x = 46
    · rw [if_pos h]
      show [] ++ 46 :: unO (p :: ps) = _
      rw [ih, h]
      rfl
    · rw [if_neg h]
      cases ps with
      | nil => show x :: p = _; rw [show p = xs from ih]
      | cons q r =>
        show (x :: p) ++ 46 :: unO (q :: r) = _
        have ih2 : p ++ 46 :: unO (q :: r) = xs := ih
        rw [List.cons_append, ih2]
theorem labels_inj {a b : List UInt8} (h : labelsL a = labelsL b) : a = b := by
  unfold labelsL at h
  by_cases ha : a = []
  · rw [if_pos ha] at h
    by_cases hb : b = []
    · rw [ha, hb]
    · rw [if_neg hb] at h
      exact absurd h.symm (splitL_ne 46 b)
  · rw [if_neg ha] at h
    by_cases hb : b = []
    · rw [if_pos hb] at h
      exact absurd h (splitL_ne 46 a)
    · rw [if_neg hb] at h
      rw [← unO_split a, ← unO_split b, h]
theorem ord_zero (a b : List UInt8) : ordL a b = 0 ↔ a = b := by
  unfold ordL
  rw [cmpL_zero]
  refine ⟨fun h => ?_, fun h => by rw [h]⟩
  have h1 := List.reverse_inj.1 h
  refine labels_inj ?_
  have h2 := congrArg (List.map fun x : ByteArray => x.data.toList) h1
  rw [List.map_map, List.map_map] at h2
  have : ((fun x : ByteArray => x.data.toList) ∘ mkB) = id := by funext z; exact mkB_data z
  rwa [this, List.map_id, List.map_id] at h2
theorem ord_trans {a b c : List UInt8} (h : ordL a b < 0) (h' : ordL b c < 0) : ordL a c < 0 := cmpL_trans _ _ _ h h'
/-- One name ahead of another one, or the same. -/
def leN (x y : List UInt8) : Bool := !decide (ordL y x < 0)
/-- Names in order, each once. -/
def sortL (l : List (List UInt8)) : List (List UInt8) := Lib.compact (l.mergeSort leN)
/-- What SortNames returns. -/
def sortR (l : List ByteArray) : List ByteArray × Bool :=
  if decide (l.length ≤ 60) && l.all (fun x => goodL x.data.toList) then ((sortL (l.map (·.data.toList))).map mkB, true) else ([], false)
end Go.Proofs.YtkpkfallgjdkmaaGreatDoor.Pure
