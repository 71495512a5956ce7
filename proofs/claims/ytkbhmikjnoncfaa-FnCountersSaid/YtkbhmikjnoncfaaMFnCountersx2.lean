/- FnCounters: part 3 of 3 of my texts for this claim, joined; the theorem stands in the last. Conditions: none beyond the statement's. -/
import Derived.Test.YtkbhmikjnoncfaaMFnCountersx0
import Derived.Test.YtkbhmikjnoncfaaMFnCountersx1
import Derived.Test.YtkbhmikjnoncfaaRows
import Derived.WalkKit
import Derived.ProofKit
import Derived.OpenShut
import Derived.ShutString
import Derived.ChangeOld
import Derived.Below
import Derived.SizedLaws
import Derived.Test.YtkbhmikjnoncfaaWSized
-- F9
-- By my own call of the kit's print (wip/tools/pp.py).
namespace Go.Proofs.Ytkbhmikjnoncfaa.P
open Go.RowKit Go.Proofs.YtkbhmikjnoncfaaW.PrintWords Go.Proofs.YtkbhmikjnoncfaaW.PrintLast Go.Proofs.YtkbhmikjnoncfaaW.PrintMore
attribute [local go_sem] max2_int min2_int max_two min_two max_three min_three max_four min_four
set_option linter.unusedVariables false
set_option linter.unusedSimpArgs false

/-! ### laws_FnSerials: function 9 -/
mutual
def laws_FnSerials.j0 : Nat → List Int → Int → Int → Int → Bool → Bool → Option (Bool)
  | 0, _, _, _, _, _, _ => none
  | k + 1, x1, x5, x6, x7, x8, x59 => if x59 = true then (some false) else (if x8 = true then ((impl_SerialLess.f x5 x7).bind fun bt169 => ((impl_SerialLess.f x7 x5).bind fun bt171 => ((impl_StepsBetween.f x5 x7).bind fun bt173 => (if bt169.2 = true then (if (bt169.1 != (decide (x6 > 0))) = true then (some false) else (if bt171.2 = true then (if bt171.1 = true then (some false) else (if bt173.2 = true then (if bt173.1 = x6 then (laws_FnSerials.j1 k x1) else (some false)) else (some false))) else (some false))) else (some false))))) else (laws_FnSerials.j1 k x1))
def laws_FnSerials.j1 : Nat → List Int → Option (Bool)
  | 0, _ => none
  | k + 1, x1 => (spec_DrawSerialLess.f x1).bind fun bt175 => ((impl_SerialLess.f bt175.1 bt175.2).bind fun bt177 => ((spec_SerialLess.f k bt175.1 bt175.2).bind fun bt179 => ((impl_SerialLess.f bt175.2 bt175.1).bind fun bt181 => ((impl_StepsBetween.f bt175.1 bt175.2).bind fun bt183 => ((spec_StepsBetween.f bt175.1 bt175.2).bind fun bt185 => (if (bt177.2 != bt179.2) = true then (some false) else (if (bt177.1 != bt179.1) = true then (some false) else (if (bt181.2 != bt177.2) = true then (some false) else (if (bt183.2 != bt185.2) = true then (some false) else (if bt183.1 = bt185.1 then (if bt177.2 = true then (if bt177.1 = true then (if (true == (bt175.1 != bt175.2)) = true then (some (!bt181.1)) else (some false)) else (if (bt181.1 == (bt175.1 != bt175.2)) = true then (some (!false)) else (some false))) else (some true)) else (some false)))))))))))
end
def laws_FnSerials.f (k : Nat) (l0 : List Int) (l1 : List Int) : Option (Bool) := if (wrap64 ((l0.length : Int) + (l1.length : Int))) > 1048576 then (some true) else ((spec_DrawSerialAdd.f l0).bind fun bt163 => ((impl_SerialAdd.f bt163.1 bt163.2).bind fun bt165 => ((spec_SerialAdd.f bt163.1 bt163.2).bind fun bt167 => (if (bt165.2 != bt167.2) = true then (laws_FnSerials.j0 k l1 bt163.1 bt163.2 bt165.1 bt165.2 true) else (laws_FnSerials.j0 k l1 bt163.1 bt163.2 bt165.1 bt165.2 (bt165.1 != bt167.1))))))
theorem laws_FnSerials.mono_l : ∀ k, (∀ y0 y1 y2 y3 y4 y5, LeO (laws_FnSerials.j0 k y0 y1 y2 y3 y4 y5) (laws_FnSerials.j0 (k + 1) y0 y1 y2 y3 y4 y5)) ∧ (∀ y0, LeO (laws_FnSerials.j1 k y0) (laws_FnSerials.j1 (k + 1) y0))
  | 0 => ⟨fun _ _ _ _ _ _ r h => by simp [laws_FnSerials.j0] at h, fun _ r h => by simp [laws_FnSerials.j1] at h⟩
  | k + 1 => by
    obtain ⟨ih0, ih1⟩ := laws_FnSerials.mono_l k
    refine ⟨?_, ?_⟩
    · intro y0 y1 y2 y3 y4 y5
      unfold laws_FnSerials.j0
      repeat' first
      | (with_reducible exact ih0 _ _ _ _ _ _)
      | (with_reducible exact ih1 _)
      | (with_reducible exact spec_SerialLess.mono _ _ _)
      | (with_reducible exact LeO.refl _)
      | (with_reducible exact LeO.none _)
      | (with_reducible refine LeO.ite ?_ ?_)
      | (with_reducible refine LeO.bind ?_ (fun _ => ?_))
      | exact ih0 _ _ _ _ _ _
      | exact ih1 _
      | exact spec_SerialLess.mono _ _ _
      | exact LeO.none _
      | refine LeO.ite ?_ ?_
      | refine LeO.bind ?_ (fun _ => ?_)
    · intro y0
      unfold laws_FnSerials.j1
      repeat' first
      | (with_reducible exact ih0 _ _ _ _ _ _)
      | (with_reducible exact ih1 _)
      | (with_reducible exact spec_SerialLess.mono _ _ _)
      | (with_reducible exact LeO.refl _)
      | (with_reducible exact LeO.none _)
      | (with_reducible refine LeO.ite ?_ ?_)
      | (with_reducible refine LeO.bind ?_ (fun _ => ?_))
      | exact ih0 _ _ _ _ _ _
      | exact ih1 _
      | exact spec_SerialLess.mono _ _ _
      | exact LeO.none _
      | refine LeO.ite ?_ ?_
      | refine LeO.bind ?_ (fun _ => ?_)
theorem laws_FnSerials.mono : ∀ a0 a1 k, LeO (laws_FnSerials.f k a0 a1) (laws_FnSerials.f (k + 1) a0 a1) := by
  intro a0 a1 k
  obtain ⟨ih0, ih1⟩ := laws_FnSerials.mono_l k
  unfold laws_FnSerials.f
  repeat' first
      | (with_reducible exact ih0 _ _ _ _ _ _)
      | (with_reducible exact ih1 _)
      | (with_reducible exact spec_SerialLess.mono _ _ _)
      | (with_reducible exact LeO.refl _)
      | (with_reducible exact LeO.none _)
      | (with_reducible refine LeO.ite ?_ ?_)
      | (with_reducible refine LeO.bind ?_ (fun _ => ?_))
      | exact ih0 _ _ _ _ _ _
      | exact ih1 _
      | exact spec_SerialLess.mono _ _ _
      | exact LeO.none _
      | refine LeO.ite ?_ ?_
      | refine LeO.bind ?_ (fun _ => ?_)
set_option maxHeartbeats 8000000 in
set_option maxRecDepth 100000 in
theorem laws_FnSerials.calls (k : Nat) (A0 : Option Addr) (c0 : Nat) (l0 : List Int) (A1 : Option Addr) (c1 : Nat) (l1 : List Int) (r : Bool) (w : World) (hr0 : Kd.C (Kd.int .u8) w A0 l0.length l0) (hc0 : l0.length ≤ c0) (hr1 : Kd.C (Kd.int .u8) w A1 l1.length l1) (hc1 : l1.length ≤ c1) (h : laws_FnSerials.f k l0 l1 = some r) :
    Calls Try.prog 9 #[.slice A0 l0.length c0, .slice A1 l1.length c1] w fun e w' => e = .returned (.bool r) ∧ Below w.heap.size w w' := by
  have HR0 := Aside0.mk hr0
  have HC0 := Aside0.mk hc0
  clear hr0 hc0
  have HR1 := Aside0.mk hr1
  have HC1 := Aside0.mk hc1
  clear hr1 hc1
  have HB := Aside0.mk (Below.refl w.heap.size w)
  have H : (if (wrap64 ((l0.length : Int) + (l1.length : Int))) > 1048576 then (some true) else ((spec_DrawSerialAdd.f l0).bind fun bt163 => ((impl_SerialAdd.f bt163.1 bt163.2).bind fun bt165 => ((spec_SerialAdd.f bt163.1 bt163.2).bind fun bt167 => (if (bt165.2 != bt167.2) = true then (laws_FnSerials.j0 k l1 bt163.1 bt163.2 bt165.1 bt165.2 true) else (laws_FnSerials.j0 k l1 bt163.1 bt163.2 bt165.1 bt165.2 (bt165.1 != bt167.1))))))) = some r := h
  clear h
  by_cases c3 : (wrap64 ((l0.length : Int) + (l1.length : Int))) > 1048576
  · rw [if_pos c3] at H
    have c3b0 : decide (1048576 < (wrap64 ((l0.length : Int) + (l1.length : Int)))) = true := decide_eq_true c3
    clear c3
    obtain rfl := Option.some.inj H
    go_enter Try.func9, Try.ntmps9
    go_wp2
    go_ret
    exact ⟨by first | rfl | (simp [errW_none, errW_some] <;> rfl) | (simp [*, errW_none, errW_some] <;> rfl), by repeat (first | (with_reducible first | exact HB.out | apply below_alloc | apply pw_below_drewN | apply below_drew1) | exact HB.out)⟩
  · rw [if_neg c3] at H
    have c3b0 : decide (1048576 < (wrap64 ((l0.length : Int) + (l1.length : Int)))) = false := decide_eq_false c3
    clear c3
    replace H := Option.bind_eq_some_iff.mp H
    obtain ⟨⟨t163, t164⟩, A40, H⟩ := H
    replace H : ((impl_SerialAdd.f t163 t164).bind fun bt165 => ((spec_SerialAdd.f t163 t164).bind fun bt167 => (if (bt165.2 != bt167.2) = true then (laws_FnSerials.j0 k l1 t163 t164 bt165.1 bt165.2 true) else (laws_FnSerials.j0 k l1 t163 t164 bt165.1 bt165.2 (bt165.1 != bt167.1))))) = some r := H
    have A4 := Aside0.mk A40
    clear A40
    replace H := Option.bind_eq_some_iff.mp H
    obtain ⟨⟨t165, t166⟩, A50, H⟩ := H
    replace H : ((spec_SerialAdd.f t163 t164).bind fun bt167 => (if (t166 != bt167.2) = true then (laws_FnSerials.j0 k l1 t163 t164 t165 t166 true) else (laws_FnSerials.j0 k l1 t163 t164 t165 t166 (t165 != bt167.1)))) = some r := H
    have A5 := Aside0.mk A50
    clear A50
    replace H := Option.bind_eq_some_iff.mp H
    obtain ⟨⟨t167, t168⟩, A60, H⟩ := H
    replace H : (if (t166 != t168) = true then (laws_FnSerials.j0 k l1 t163 t164 t165 t166 true) else (laws_FnSerials.j0 k l1 t163 t164 t165 t166 (t165 != t167))) = some r := H
    have A6 := Aside0.mk A60
    clear A60
    have HC7 := Aside0.mk H
    clear H
    go_enter Try.func9, Try.ntmps9
    go_upto_region 6 with (first | ((with_reducible refine gate_callee (f := 22) rfl ?_); refine goesL_ (some 37) rfl rfl Try.func22 (by kernel_rfl) rfl #[.slice A0 l0.length c0] rfl (by (try simp only [List.map_toArray, List.map_cons, List.map_nil]); first | done | rfl | (simp only [List.length_drop, List.length_take]; rfl)) ?_; (with_reducible refine (spec_DrawSerialAdd.calls _ _ l0 t163 t164 _ ?side1 ?side2 A4.out).mono ?_); (case side1 => repeat (first | exact HR0.out | (with_reducible refine Kd.C_alloc ?_ _) | (with_reducible refine Kd.C_drewN ?_ _) | (with_reducible refine Kd.C_drew ?_))); (case side2 => exact HC0.out); rintro e w8 ⟨rfl, hb⟩; refine ⟨_, rfl, ?_⟩; have n0_ := Aside0.mk (below_step (by repeat (first | (with_reducible first | exact HB.out | apply below_alloc | apply pw_below_drewN | apply below_drew1) | exact HB.out)) hb); clear HB; have HB := n0_; clear n0_; (try clear hb); (try clear hb2); (try clear hk); (try clear hi)) | ((with_reducible refine gate_callee (f := 15) rfl ?_); refine goesL_ (some 43) rfl rfl Try.func15 (by kernel_rfl) rfl #[.int .i64 t163, .int .i64 t164] rfl (by (try simp only [List.map_toArray, List.map_cons, List.map_nil]); first | done | rfl | (simp only [List.length_drop, List.length_take]; rfl)) ?_; (with_reducible refine (impl_SerialAdd.calls t163 t164 t165 t166 _ A5.out).mono ?_); rintro e w' ⟨rfl, ⟨nd, rfl⟩⟩; refine ⟨_, rfl, ?_⟩) | ((with_reducible refine gate_callee (f := 14) rfl ?_); refine goesL_ (some 49) rfl rfl Try.func14 (by kernel_rfl) rfl #[.int .i64 t163, .int .i64 t164] rfl (by (try simp only [List.map_toArray, List.map_cons, List.map_nil]); first | done | rfl | (simp only [List.length_drop, List.length_take]; rfl)) ?_; (with_reducible refine (spec_SerialAdd.calls t163 t164 t167 t168 _ A6.out).mono ?_); rintro e w' ⟨rfl, ⟨nd, rfl⟩⟩; refine ⟨_, rfl, ?_⟩))
    (try simp only [Act.put, List.setIfInBounds_toArray, List.set_cons_zero, List.set_cons_succ])
    go_cut [59] (fun v59 wc => ∃ (kq : Nat) (x59_6 : Bool), v59 = .bool x59_6 ∧ Aside0 (laws_FnSerials.j0 kq l1 t163 t164 t165 t166 x59_6 = some r) ∧ Aside0 (kq ≤ k) ∧ Aside0 (Below w.heap.size w wc))
    case first =>
      have H := HC7.out
      clear HC7
      by_cases c9 : (t166 != t168) = true
      · rw [if_pos c9] at H
        have c9b0 : (t166 != t168) = true := c9
        (try (have c9b1 : decide (t166 = t168) = false := by simpa using c9))
        (try (have c9b2 : (t166 == t168) = false := by simpa using c9))
        (try (have c9b3 : ¬ (t166 = t168) := by simpa using c9))
        clear c9
        (first | rw [c9b0] | (simp only [i64_w, i32_w]; rw [c9b0]) | skip)
        have H' := Aside0.mk H
        clear H
        go_wp2
        go_meet
        case rel => exact ⟨_, (true), (by first | rfl | (simp; done) | (simp [*]; done)), H', ⟨by first | omega | exact Nat.le_refl _⟩, ⟨by repeat (first | (with_reducible first | exact HB.out | apply below_alloc | apply pw_below_drewN | apply below_drew1) | exact HB.out)⟩⟩
      · rw [if_neg c9] at H
        have c9b0 : (t166 != t168) = false := by simpa using c9
        (try (have c9b1 : decide (t166 = t168) = true := by simpa using c9))
        (try (have c9b2 : (t166 == t168) = true := by simpa using c9))
        clear c9
        (first | rw [c9b0] | (simp only [i64_w, i32_w]; rw [c9b0]) | skip)
        have H' := Aside0.mk H
        clear H
        go_wp2
        go_meet
        case rel => exact ⟨_, ((t165 != t167)), (by first | rfl | (simp; done) | (simp [*]; done)), H', ⟨by first | omega | exact Nat.le_refl _⟩, ⟨by repeat (first | (with_reducible first | exact HB.out | apply below_alloc | apply pw_below_drewN | apply below_drew1) | exact HB.out)⟩⟩
    case rest =>
      clear HC7
      try clear c1
      try clear c2
      try clear p2
      try clear c3
      try clear c3b0
      try clear p6
      try clear c9
      try clear c9b0
      try clear c9b1
      try clear c9b2
      obtain ⟨kq, x59_6, rfl, HA, HJ6, HB⟩ := hcut
      cases kq with
      | zero => exact absurd HA.out (by simp [laws_FnSerials.j0])
      | succ kj6 =>
        have H := HA.out
        clear HA
        simp only [laws_FnSerials.j0] at H
        by_cases c10 : x59_6 = true
        · subst c10
          have H1 : (some false) = some r := by rw [if_pos rfl] at H; exact H
          clear H
          have H := H1
          clear H1
          obtain rfl := Option.some.inj H
          go_wp2
          go_ret
          exact ⟨by first | rfl | (simp [errW_none, errW_some] <;> rfl) | (simp [*, errW_none, errW_some] <;> rfl), by repeat (first | (with_reducible first | exact HB.out | apply below_alloc | apply pw_below_drewN | apply below_drew1) | exact HB.out)⟩
        · replace c10 := Bool.eq_false_iff.mpr c10
          subst c10
          have H1 : (if t166 = true then ((impl_SerialLess.f t163 t165).bind fun bt169 => ((impl_SerialLess.f t165 t163).bind fun bt171 => ((impl_StepsBetween.f t163 t165).bind fun bt173 => (if bt169.2 = true then (if (bt169.1 != (decide (t164 > 0))) = true then (some false) else (if bt171.2 = true then (if bt171.1 = true then (some false) else (if bt173.2 = true then (if bt173.1 = t164 then (laws_FnSerials.j1 kj6 l1) else (some false)) else (some false))) else (some false))) else (some false))))) else (laws_FnSerials.j1 kj6 l1)) = some r := by rw [if_neg (show ¬ (false = true) by decide)] at H; exact H
          clear H
          have H := H1
          clear H1
          have HC11 := Aside0.mk H
          clear H
          go_upto_if 60 with (fail)
          go_cut [] (fun wc => ∃ (kq : Nat), Aside0 (laws_FnSerials.j1 kq l1 = some r) ∧ Aside0 (kq ≤ kj6) ∧ Aside0 (Below w.heap.size w wc))
          case first =>
            have H := HC11.out
            clear HC11
            by_cases c12 : t166 = true
            · subst c12
              have H1 : ((impl_SerialLess.f t163 t165).bind fun bt169 => ((impl_SerialLess.f t165 t163).bind fun bt171 => ((impl_StepsBetween.f t163 t165).bind fun bt173 => (if bt169.2 = true then (if (bt169.1 != (decide (t164 > 0))) = true then (some false) else (if bt171.2 = true then (if bt171.1 = true then (some false) else (if bt173.2 = true then (if bt173.1 = t164 then (laws_FnSerials.j1 kj6 l1) else (some false)) else (some false))) else (some false))) else (some false))))) = some r := by rw [if_pos rfl] at H; exact H
              clear H
              have H := H1
              clear H1
              replace H := Option.bind_eq_some_iff.mp H
              obtain ⟨⟨t169, t170⟩, A130, H⟩ := H
              replace H : ((impl_SerialLess.f t165 t163).bind fun bt171 => ((impl_StepsBetween.f t163 t165).bind fun bt173 => (if t170 = true then (if (t169 != (decide (t164 > 0))) = true then (some false) else (if bt171.2 = true then (if bt171.1 = true then (some false) else (if bt173.2 = true then (if bt173.1 = t164 then (laws_FnSerials.j1 kj6 l1) else (some false)) else (some false))) else (some false))) else (some false)))) = some r := H
              have A13 := Aside0.mk A130
              clear A130
              replace H := Option.bind_eq_some_iff.mp H
              obtain ⟨⟨t171, t172⟩, A140, H⟩ := H
              replace H : ((impl_StepsBetween.f t163 t165).bind fun bt173 => (if t170 = true then (if (t169 != (decide (t164 > 0))) = true then (some false) else (if t172 = true then (if t171 = true then (some false) else (if bt173.2 = true then (if bt173.1 = t164 then (laws_FnSerials.j1 kj6 l1) else (some false)) else (some false))) else (some false))) else (some false))) = some r := H
              have A14 := Aside0.mk A140
              clear A140
              replace H := Option.bind_eq_some_iff.mp H
              obtain ⟨⟨t173, t174⟩, A150, H⟩ := H
              replace H : (if t170 = true then (if (t169 != (decide (t164 > 0))) = true then (some false) else (if t172 = true then (if t171 = true then (some false) else (if t174 = true then (if t173 = t164 then (laws_FnSerials.j1 kj6 l1) else (some false)) else (some false))) else (some false))) else (some false)) = some r := H
              have A15 := Aside0.mk A150
              clear A150
              by_cases c16 : t170 = true
              · subst c16
                have H1 : (if (t169 != (decide (t164 > 0))) = true then (some false) else (if t172 = true then (if t171 = true then (some false) else (if t174 = true then (if t173 = t164 then (laws_FnSerials.j1 kj6 l1) else (some false)) else (some false))) else (some false))) = some r := by rw [if_pos rfl] at H; exact H
                clear H
                have H := H1
                clear H1
                by_cases c17 : (t169 != (decide (t164 > 0))) = true
                · rw [if_pos c17] at H
                  have c17b0 : (t169 != (decide (t164 > 0))) = true := c17
                  (try (have c17b1 : decide (t169 = (decide (t164 > 0))) = false := by simpa using c17))
                  (try (have c17b2 : (t169 == (decide (t164 > 0))) = false := by simpa using c17))
                  (try (have c17b3 : ¬ (t169 = (decide (t164 > 0))) := by simpa using c17))
                  clear c17
                  (first | rw [c17b0] | (simp only [i64_w, i32_w]; rw [c17b0]) | skip)
                  obtain rfl := Option.some.inj H
                  go_wp2_with (first | ((with_reducible refine gate_callee (f := 19) rfl ?_); refine goesL_ (some 64) rfl rfl Try.func19 (by kernel_rfl) rfl #[.int .i64 t163, .int .i64 t165] rfl (by (try simp only [List.map_toArray, List.map_cons, List.map_nil]); first | done | rfl | (simp only [List.length_drop, List.length_take]; rfl)) ?_; (with_reducible refine (impl_SerialLess.calls t163 t165 t169 true _ A13.out).mono ?_); rintro e w' ⟨rfl, ⟨nd, rfl⟩⟩; refine ⟨_, rfl, ?_⟩) | ((with_reducible refine gate_callee (f := 19) rfl ?_); refine goesL_ (some 70) rfl rfl Try.func19 (by kernel_rfl) rfl #[.int .i64 t165, .int .i64 t163] rfl (by (try simp only [List.map_toArray, List.map_cons, List.map_nil]); first | done | rfl | (simp only [List.length_drop, List.length_take]; rfl)) ?_; (with_reducible refine (impl_SerialLess.calls t165 t163 t171 t172 _ A14.out).mono ?_); rintro e w' ⟨rfl, ⟨nd, rfl⟩⟩; refine ⟨_, rfl, ?_⟩) | ((with_reducible refine gate_callee (f := 17) rfl ?_); refine goesL_ (some 76) rfl rfl Try.func17 (by kernel_rfl) rfl #[.int .i64 t163, .int .i64 t165] rfl (by (try simp only [List.map_toArray, List.map_cons, List.map_nil]); first | done | rfl | (simp only [List.length_drop, List.length_take]; rfl)) ?_; (with_reducible refine (impl_StepsBetween.calls t163 t165 t173 t174 _ A15.out).mono ?_); rintro e w' ⟨rfl, ⟨nd, rfl⟩⟩; refine ⟨_, rfl, ?_⟩))
                  go_ret
                  exact ⟨by first | rfl | (simp [errW_none, errW_some] <;> rfl) | (simp [*, errW_none, errW_some] <;> rfl), by repeat (first | (with_reducible first | exact HB.out | apply below_alloc | apply pw_below_drewN | apply below_drew1) | exact HB.out)⟩
                · rw [if_neg c17] at H
                  have c17b0 : (t169 != (decide (t164 > 0))) = false := by simpa using c17
                  (try (have c17b1 : decide (t169 = (decide (t164 > 0))) = true := by simpa using c17))
                  (try (have c17b2 : (t169 == (decide (t164 > 0))) = true := by simpa using c17))
                  clear c17
                  (first | rw [c17b0] | (simp only [i64_w, i32_w]; rw [c17b0]) | skip)
                  by_cases c18 : t172 = true
                  · subst c18
                    have H1 : (if t171 = true then (some false) else (if t174 = true then (if t173 = t164 then (laws_FnSerials.j1 kj6 l1) else (some false)) else (some false))) = some r := by rw [if_pos rfl] at H; exact H
                    clear H
                    have H := H1
                    clear H1
                    by_cases c19 : t171 = true
                    · subst c19
                      have H1 : (some false) = some r := by rw [if_pos rfl] at H; exact H
                      clear H
                      have H := H1
                      clear H1
                      obtain rfl := Option.some.inj H
                      go_wp2_with (first | ((with_reducible refine gate_callee (f := 19) rfl ?_); refine goesL_ (some 64) rfl rfl Try.func19 (by kernel_rfl) rfl #[.int .i64 t163, .int .i64 t165] rfl (by (try simp only [List.map_toArray, List.map_cons, List.map_nil]); first | done | rfl | (simp only [List.length_drop, List.length_take]; rfl)) ?_; (with_reducible refine (impl_SerialLess.calls t163 t165 t169 true _ A13.out).mono ?_); rintro e w' ⟨rfl, ⟨nd, rfl⟩⟩; refine ⟨_, rfl, ?_⟩) | ((with_reducible refine gate_callee (f := 19) rfl ?_); refine goesL_ (some 70) rfl rfl Try.func19 (by kernel_rfl) rfl #[.int .i64 t165, .int .i64 t163] rfl (by (try simp only [List.map_toArray, List.map_cons, List.map_nil]); first | done | rfl | (simp only [List.length_drop, List.length_take]; rfl)) ?_; (with_reducible refine (impl_SerialLess.calls t165 t163 true true _ A14.out).mono ?_); rintro e w' ⟨rfl, ⟨nd, rfl⟩⟩; refine ⟨_, rfl, ?_⟩) | ((with_reducible refine gate_callee (f := 17) rfl ?_); refine goesL_ (some 76) rfl rfl Try.func17 (by kernel_rfl) rfl #[.int .i64 t163, .int .i64 t165] rfl (by (try simp only [List.map_toArray, List.map_cons, List.map_nil]); first | done | rfl | (simp only [List.length_drop, List.length_take]; rfl)) ?_; (with_reducible refine (impl_StepsBetween.calls t163 t165 t173 t174 _ A15.out).mono ?_); rintro e w' ⟨rfl, ⟨nd, rfl⟩⟩; refine ⟨_, rfl, ?_⟩))
                      go_ret
                      exact ⟨by first | rfl | (simp [errW_none, errW_some] <;> rfl) | (simp [*, errW_none, errW_some] <;> rfl), by repeat (first | (with_reducible first | exact HB.out | apply below_alloc | apply pw_below_drewN | apply below_drew1) | exact HB.out)⟩
                    · replace c19 := Bool.eq_false_iff.mpr c19
                      subst c19
                      have H1 : (if t174 = true then (if t173 = t164 then (laws_FnSerials.j1 kj6 l1) else (some false)) else (some false)) = some r := by rw [if_neg (show ¬ (false = true) by decide)] at H; exact H
                      clear H
                      have H := H1
                      clear H1
                      by_cases c20 : t174 = true
                      · subst c20
                        have H1 : (if t173 = t164 then (laws_FnSerials.j1 kj6 l1) else (some false)) = some r := by rw [if_pos rfl] at H; exact H
                        clear H
                        have H := H1
                        clear H1
                        by_cases c21 : t173 = t164
                        · rw [if_pos c21] at H
                          have c21b0 : (t173 == t164) = true := beq_iff_eq.mpr c21
                          have c21b1 : (t173 != t164) = false := bne_eq_false_iff_eq.mpr c21
                          clear c21
                          have H' := Aside0.mk H
                          clear H
                          go_wp2_with (first | ((with_reducible refine gate_callee (f := 19) rfl ?_); refine goesL_ (some 64) rfl rfl Try.func19 (by kernel_rfl) rfl #[.int .i64 t163, .int .i64 t165] rfl (by (try simp only [List.map_toArray, List.map_cons, List.map_nil]); first | done | rfl | (simp only [List.length_drop, List.length_take]; rfl)) ?_; (with_reducible refine (impl_SerialLess.calls t163 t165 t169 true _ A13.out).mono ?_); rintro e w' ⟨rfl, ⟨nd, rfl⟩⟩; refine ⟨_, rfl, ?_⟩) | ((with_reducible refine gate_callee (f := 19) rfl ?_); refine goesL_ (some 70) rfl rfl Try.func19 (by kernel_rfl) rfl #[.int .i64 t165, .int .i64 t163] rfl (by (try simp only [List.map_toArray, List.map_cons, List.map_nil]); first | done | rfl | (simp only [List.length_drop, List.length_take]; rfl)) ?_; (with_reducible refine (impl_SerialLess.calls t165 t163 false true _ A14.out).mono ?_); rintro e w' ⟨rfl, ⟨nd, rfl⟩⟩; refine ⟨_, rfl, ?_⟩) | ((with_reducible refine gate_callee (f := 17) rfl ?_); refine goesL_ (some 76) rfl rfl Try.func17 (by kernel_rfl) rfl #[.int .i64 t163, .int .i64 t165] rfl (by (try simp only [List.map_toArray, List.map_cons, List.map_nil]); first | done | rfl | (simp only [List.length_drop, List.length_take]; rfl)) ?_; (with_reducible refine (impl_StepsBetween.calls t163 t165 t173 true _ A15.out).mono ?_); rintro e w' ⟨rfl, ⟨nd, rfl⟩⟩; refine ⟨_, rfl, ?_⟩))
                          go_meet
                          case rel => exact ⟨_, H', ⟨by have := HJ6.out; first | omega | exact Nat.le_refl _⟩, ⟨by repeat (first | (with_reducible first | exact HB.out | apply below_alloc | apply pw_below_drewN | apply below_drew1) | exact HB.out)⟩⟩
                        · rw [if_neg c21] at H
                          have c21b0 : (t173 == t164) = false := beq_eq_false_iff_ne.mpr c21
                          have c21b1 : (t173 != t164) = true := bne_iff_ne.mpr c21
                          obtain rfl := Option.some.inj H
                          go_wp2_with (first | ((with_reducible refine gate_callee (f := 19) rfl ?_); refine goesL_ (some 64) rfl rfl Try.func19 (by kernel_rfl) rfl #[.int .i64 t163, .int .i64 t165] rfl (by (try simp only [List.map_toArray, List.map_cons, List.map_nil]); first | done | rfl | (simp only [List.length_drop, List.length_take]; rfl)) ?_; (with_reducible refine (impl_SerialLess.calls t163 t165 t169 true _ A13.out).mono ?_); rintro e w' ⟨rfl, ⟨nd, rfl⟩⟩; refine ⟨_, rfl, ?_⟩) | ((with_reducible refine gate_callee (f := 19) rfl ?_); refine goesL_ (some 70) rfl rfl Try.func19 (by kernel_rfl) rfl #[.int .i64 t165, .int .i64 t163] rfl (by (try simp only [List.map_toArray, List.map_cons, List.map_nil]); first | done | rfl | (simp only [List.length_drop, List.length_take]; rfl)) ?_; (with_reducible refine (impl_SerialLess.calls t165 t163 false true _ A14.out).mono ?_); rintro e w' ⟨rfl, ⟨nd, rfl⟩⟩; refine ⟨_, rfl, ?_⟩) | ((with_reducible refine gate_callee (f := 17) rfl ?_); refine goesL_ (some 76) rfl rfl Try.func17 (by kernel_rfl) rfl #[.int .i64 t163, .int .i64 t165] rfl (by (try simp only [List.map_toArray, List.map_cons, List.map_nil]); first | done | rfl | (simp only [List.length_drop, List.length_take]; rfl)) ?_; (with_reducible refine (impl_StepsBetween.calls t163 t165 t173 true _ A15.out).mono ?_); rintro e w' ⟨rfl, ⟨nd, rfl⟩⟩; refine ⟨_, rfl, ?_⟩))
                          go_ret
                          exact ⟨by first | rfl | (simp [errW_none, errW_some] <;> rfl) | (simp [*, errW_none, errW_some] <;> rfl), by repeat (first | (with_reducible first | exact HB.out | apply below_alloc | apply pw_below_drewN | apply below_drew1) | exact HB.out)⟩
                      · replace c20 := Bool.eq_false_iff.mpr c20
                        subst c20
                        have H1 : (some false) = some r := by rw [if_neg (show ¬ (false = true) by decide)] at H; exact H
                        clear H
                        have H := H1
                        clear H1
                        obtain rfl := Option.some.inj H
                        go_wp2_with (first | ((with_reducible refine gate_callee (f := 19) rfl ?_); refine goesL_ (some 64) rfl rfl Try.func19 (by kernel_rfl) rfl #[.int .i64 t163, .int .i64 t165] rfl (by (try simp only [List.map_toArray, List.map_cons, List.map_nil]); first | done | rfl | (simp only [List.length_drop, List.length_take]; rfl)) ?_; (with_reducible refine (impl_SerialLess.calls t163 t165 t169 true _ A13.out).mono ?_); rintro e w' ⟨rfl, ⟨nd, rfl⟩⟩; refine ⟨_, rfl, ?_⟩) | ((with_reducible refine gate_callee (f := 19) rfl ?_); refine goesL_ (some 70) rfl rfl Try.func19 (by kernel_rfl) rfl #[.int .i64 t165, .int .i64 t163] rfl (by (try simp only [List.map_toArray, List.map_cons, List.map_nil]); first | done | rfl | (simp only [List.length_drop, List.length_take]; rfl)) ?_; (with_reducible refine (impl_SerialLess.calls t165 t163 false true _ A14.out).mono ?_); rintro e w' ⟨rfl, ⟨nd, rfl⟩⟩; refine ⟨_, rfl, ?_⟩) | ((with_reducible refine gate_callee (f := 17) rfl ?_); refine goesL_ (some 76) rfl rfl Try.func17 (by kernel_rfl) rfl #[.int .i64 t163, .int .i64 t165] rfl (by (try simp only [List.map_toArray, List.map_cons, List.map_nil]); first | done | rfl | (simp only [List.length_drop, List.length_take]; rfl)) ?_; (with_reducible refine (impl_StepsBetween.calls t163 t165 t173 false _ A15.out).mono ?_); rintro e w' ⟨rfl, ⟨nd, rfl⟩⟩; refine ⟨_, rfl, ?_⟩))
                        go_ret
                        exact ⟨by first | rfl | (simp [errW_none, errW_some] <;> rfl) | (simp [*, errW_none, errW_some] <;> rfl), by repeat (first | (with_reducible first | exact HB.out | apply below_alloc | apply pw_below_drewN | apply below_drew1) | exact HB.out)⟩
                  · replace c18 := Bool.eq_false_iff.mpr c18
                    subst c18
                    have H1 : (some false) = some r := by rw [if_neg (show ¬ (false = true) by decide)] at H; exact H
                    clear H
                    have H := H1
                    clear H1
                    obtain rfl := Option.some.inj H
                    go_wp2_with (first | ((with_reducible refine gate_callee (f := 19) rfl ?_); refine goesL_ (some 64) rfl rfl Try.func19 (by kernel_rfl) rfl #[.int .i64 t163, .int .i64 t165] rfl (by (try simp only [List.map_toArray, List.map_cons, List.map_nil]); first | done | rfl | (simp only [List.length_drop, List.length_take]; rfl)) ?_; (with_reducible refine (impl_SerialLess.calls t163 t165 t169 true _ A13.out).mono ?_); rintro e w' ⟨rfl, ⟨nd, rfl⟩⟩; refine ⟨_, rfl, ?_⟩) | ((with_reducible refine gate_callee (f := 19) rfl ?_); refine goesL_ (some 70) rfl rfl Try.func19 (by kernel_rfl) rfl #[.int .i64 t165, .int .i64 t163] rfl (by (try simp only [List.map_toArray, List.map_cons, List.map_nil]); first | done | rfl | (simp only [List.length_drop, List.length_take]; rfl)) ?_; (with_reducible refine (impl_SerialLess.calls t165 t163 t171 false _ A14.out).mono ?_); rintro e w' ⟨rfl, ⟨nd, rfl⟩⟩; refine ⟨_, rfl, ?_⟩) | ((with_reducible refine gate_callee (f := 17) rfl ?_); refine goesL_ (some 76) rfl rfl Try.func17 (by kernel_rfl) rfl #[.int .i64 t163, .int .i64 t165] rfl (by (try simp only [List.map_toArray, List.map_cons, List.map_nil]); first | done | rfl | (simp only [List.length_drop, List.length_take]; rfl)) ?_; (with_reducible refine (impl_StepsBetween.calls t163 t165 t173 t174 _ A15.out).mono ?_); rintro e w' ⟨rfl, ⟨nd, rfl⟩⟩; refine ⟨_, rfl, ?_⟩))
                    go_ret
                    exact ⟨by first | rfl | (simp [errW_none, errW_some] <;> rfl) | (simp [*, errW_none, errW_some] <;> rfl), by repeat (first | (with_reducible first | exact HB.out | apply below_alloc | apply pw_below_drewN | apply below_drew1) | exact HB.out)⟩
              · replace c16 := Bool.eq_false_iff.mpr c16
                subst c16
                have H1 : (some false) = some r := by rw [if_neg (show ¬ (false = true) by decide)] at H; exact H
                clear H
                have H := H1
                clear H1
                obtain rfl := Option.some.inj H
                go_wp2_with (first | ((with_reducible refine gate_callee (f := 19) rfl ?_); refine goesL_ (some 64) rfl rfl Try.func19 (by kernel_rfl) rfl #[.int .i64 t163, .int .i64 t165] rfl (by (try simp only [List.map_toArray, List.map_cons, List.map_nil]); first | done | rfl | (simp only [List.length_drop, List.length_take]; rfl)) ?_; (with_reducible refine (impl_SerialLess.calls t163 t165 t169 false _ A13.out).mono ?_); rintro e w' ⟨rfl, ⟨nd, rfl⟩⟩; refine ⟨_, rfl, ?_⟩) | ((with_reducible refine gate_callee (f := 19) rfl ?_); refine goesL_ (some 70) rfl rfl Try.func19 (by kernel_rfl) rfl #[.int .i64 t165, .int .i64 t163] rfl (by (try simp only [List.map_toArray, List.map_cons, List.map_nil]); first | done | rfl | (simp only [List.length_drop, List.length_take]; rfl)) ?_; (with_reducible refine (impl_SerialLess.calls t165 t163 t171 t172 _ A14.out).mono ?_); rintro e w' ⟨rfl, ⟨nd, rfl⟩⟩; refine ⟨_, rfl, ?_⟩) | ((with_reducible refine gate_callee (f := 17) rfl ?_); refine goesL_ (some 76) rfl rfl Try.func17 (by kernel_rfl) rfl #[.int .i64 t163, .int .i64 t165] rfl (by (try simp only [List.map_toArray, List.map_cons, List.map_nil]); first | done | rfl | (simp only [List.length_drop, List.length_take]; rfl)) ?_; (with_reducible refine (impl_StepsBetween.calls t163 t165 t173 t174 _ A15.out).mono ?_); rintro e w' ⟨rfl, ⟨nd, rfl⟩⟩; refine ⟨_, rfl, ?_⟩))
                go_ret
                exact ⟨by first | rfl | (simp [errW_none, errW_some] <;> rfl) | (simp [*, errW_none, errW_some] <;> rfl), by repeat (first | (with_reducible first | exact HB.out | apply below_alloc | apply pw_below_drewN | apply below_drew1) | exact HB.out)⟩
            · replace c12 := Bool.eq_false_iff.mpr c12
              subst c12
              have H1 : (laws_FnSerials.j1 kj6 l1) = some r := by rw [if_neg (show ¬ (false = true) by decide)] at H; exact H
              clear H
              have H := H1
              clear H1
              have H' := Aside0.mk H
              clear H
              go_wp2
              go_meet
              case rel => exact ⟨_, H', ⟨by have := HJ6.out; first | omega | exact Nat.le_refl _⟩, ⟨by repeat (first | (with_reducible first | exact HB.out | apply below_alloc | apply pw_below_drewN | apply below_drew1) | exact HB.out)⟩⟩
          case rest =>
            clear HC11
            try clear c1
            try clear c2
            try clear p2
            try clear c3
            try clear c3b0
            try clear p6
            try clear c9
            try clear c9b0
            try clear c9b1
            try clear c9b2
            try clear c10
            try clear c12
            try clear c14
            try clear c15
            try clear c16
            try clear c17
            try clear c17b0
            try clear c17b1
            try clear c17b2
            try clear c18
            try clear c19
            try clear c20
            try clear c21
            try clear c21b0
            try clear c21b1
            try clear p2
            try clear p6
            obtain ⟨kq, HA, HJ10, HB⟩ := hcut
            cases kq with
            | zero => exact absurd HA.out (by simp [laws_FnSerials.j1])
            | succ kj10 =>
              have H := HA.out
              clear HA
              simp only [laws_FnSerials.j1] at H
              replace H := Option.bind_eq_some_iff.mp H
              obtain ⟨⟨t175, t176⟩, A220, H⟩ := H
              replace H : ((impl_SerialLess.f t175 t176).bind fun bt177 => ((spec_SerialLess.f kj10 t175 t176).bind fun bt179 => ((impl_SerialLess.f t176 t175).bind fun bt181 => ((impl_StepsBetween.f t175 t176).bind fun bt183 => ((spec_StepsBetween.f t175 t176).bind fun bt185 => (if (bt177.2 != bt179.2) = true then (some false) else (if (bt177.1 != bt179.1) = true then (some false) else (if (bt181.2 != bt177.2) = true then (some false) else (if (bt183.2 != bt185.2) = true then (some false) else (if bt183.1 = bt185.1 then (if bt177.2 = true then (if bt177.1 = true then (if (true == (t175 != t176)) = true then (some (!bt181.1)) else (some false)) else (if (bt181.1 == (t175 != t176)) = true then (some (!false)) else (some false))) else (some true)) else (some false))))))))))) = some r := H
              have A22 := Aside0.mk A220
              clear A220
              replace H := Option.bind_eq_some_iff.mp H
              obtain ⟨⟨t177, t178⟩, A230, H⟩ := H
              replace H : ((spec_SerialLess.f kj10 t175 t176).bind fun bt179 => ((impl_SerialLess.f t176 t175).bind fun bt181 => ((impl_StepsBetween.f t175 t176).bind fun bt183 => ((spec_StepsBetween.f t175 t176).bind fun bt185 => (if (t178 != bt179.2) = true then (some false) else (if (t177 != bt179.1) = true then (some false) else (if (bt181.2 != t178) = true then (some false) else (if (bt183.2 != bt185.2) = true then (some false) else (if bt183.1 = bt185.1 then (if t178 = true then (if t177 = true then (if (true == (t175 != t176)) = true then (some (!bt181.1)) else (some false)) else (if (bt181.1 == (t175 != t176)) = true then (some (!false)) else (some false))) else (some true)) else (some false)))))))))) = some r := H
              have A23 := Aside0.mk A230
              clear A230
              replace H := Option.bind_eq_some_iff.mp H
              obtain ⟨⟨t179, t180⟩, A240, H⟩ := H
              replace H : ((impl_SerialLess.f t176 t175).bind fun bt181 => ((impl_StepsBetween.f t175 t176).bind fun bt183 => ((spec_StepsBetween.f t175 t176).bind fun bt185 => (if (t178 != t180) = true then (some false) else (if (t177 != t179) = true then (some false) else (if (bt181.2 != t178) = true then (some false) else (if (bt183.2 != bt185.2) = true then (some false) else (if bt183.1 = bt185.1 then (if t178 = true then (if t177 = true then (if (true == (t175 != t176)) = true then (some (!bt181.1)) else (some false)) else (if (bt181.1 == (t175 != t176)) = true then (some (!false)) else (some false))) else (some true)) else (some false))))))))) = some r := H
              have A24 := Aside0.mk A240
              clear A240
              replace H := Option.bind_eq_some_iff.mp H
              obtain ⟨⟨t181, t182⟩, A250, H⟩ := H
              replace H : ((impl_StepsBetween.f t175 t176).bind fun bt183 => ((spec_StepsBetween.f t175 t176).bind fun bt185 => (if (t178 != t180) = true then (some false) else (if (t177 != t179) = true then (some false) else (if (t182 != t178) = true then (some false) else (if (bt183.2 != bt185.2) = true then (some false) else (if bt183.1 = bt185.1 then (if t178 = true then (if t177 = true then (if (true == (t175 != t176)) = true then (some (!t181)) else (some false)) else (if (t181 == (t175 != t176)) = true then (some (!false)) else (some false))) else (some true)) else (some false)))))))) = some r := H
              have A25 := Aside0.mk A250
              clear A250
              replace H := Option.bind_eq_some_iff.mp H
              obtain ⟨⟨t183, t184⟩, A260, H⟩ := H
              replace H : ((spec_StepsBetween.f t175 t176).bind fun bt185 => (if (t178 != t180) = true then (some false) else (if (t177 != t179) = true then (some false) else (if (t182 != t178) = true then (some false) else (if (t184 != bt185.2) = true then (some false) else (if t183 = bt185.1 then (if t178 = true then (if t177 = true then (if (true == (t175 != t176)) = true then (some (!t181)) else (some false)) else (if (t181 == (t175 != t176)) = true then (some (!false)) else (some false))) else (some true)) else (some false))))))) = some r := H
              have A26 := Aside0.mk A260
              clear A260
              replace H := Option.bind_eq_some_iff.mp H
              obtain ⟨⟨t185, t186⟩, A270, H⟩ := H
              replace H : (if (t178 != t180) = true then (some false) else (if (t177 != t179) = true then (some false) else (if (t182 != t178) = true then (some false) else (if (t184 != t186) = true then (some false) else (if t183 = t185 then (if t178 = true then (if t177 = true then (if (true == (t175 != t176)) = true then (some (!t181)) else (some false)) else (if (t181 == (t175 != t176)) = true then (some (!false)) else (some false))) else (some true)) else (some false)))))) = some r := H
              have A27 := Aside0.mk A270
              clear A270
              by_cases c28 : (t178 != t180) = true
              · rw [if_pos c28] at H
                have c28b0 : (t178 != t180) = true := c28
                (try (have c28b1 : decide (t178 = t180) = false := by simpa using c28))
                (try (have c28b2 : (t178 == t180) = false := by simpa using c28))
                (try (have c28b3 : ¬ (t178 = t180) := by simpa using c28))
                clear c28
                obtain rfl := Option.some.inj H
                go_wp2_with (first | ((with_reducible refine gate_callee (f := 23) rfl ?_); refine goesL_ (some 105) rfl rfl Try.func23 (by kernel_rfl) rfl #[.slice A1 l1.length c1] rfl (by (try simp only [List.map_toArray, List.map_cons, List.map_nil]); first | done | rfl | (simp only [List.length_drop, List.length_take]; rfl)) ?_; (with_reducible refine (spec_DrawSerialLess.calls _ _ l1 t175 t176 _ ?side1 ?side2 A22.out).mono ?_); (case side1 => repeat (first | exact (Kd.C_below HR1.out HB.out) | (with_reducible refine Kd.C_alloc ?_ _) | (with_reducible refine Kd.C_drewN ?_ _) | (with_reducible refine Kd.C_drew ?_))); (case side2 => exact HC1.out); rintro e w29 ⟨rfl, hb⟩; refine ⟨_, rfl, ?_⟩; have n0_ := Aside0.mk (below_step (by repeat (first | (with_reducible first | exact HB.out | apply below_alloc | apply pw_below_drewN | apply below_drew1) | exact HB.out)) hb); clear HB; have HB := n0_; clear n0_; (try clear hb); (try clear hb2); (try clear hk); (try clear hi)) | ((with_reducible refine gate_callee (f := 19) rfl ?_); refine goesL_ (some 111) rfl rfl Try.func19 (by kernel_rfl) rfl #[.int .i64 t175, .int .i64 t176] rfl (by (try simp only [List.map_toArray, List.map_cons, List.map_nil]); first | done | rfl | (simp only [List.length_drop, List.length_take]; rfl)) ?_; (with_reducible refine (impl_SerialLess.calls t175 t176 t177 t178 _ A23.out).mono ?_); rintro e w' ⟨rfl, ⟨nd, rfl⟩⟩; refine ⟨_, rfl, ?_⟩) | ((with_reducible refine gate_callee (f := 18) rfl ?_); refine goesL_ (some 117) rfl rfl Try.func18 (by kernel_rfl) rfl #[.int .i64 t175, .int .i64 t176] rfl (by (try simp only [List.map_toArray, List.map_cons, List.map_nil]); first | done | rfl | (simp only [List.length_drop, List.length_take]; rfl)) ?_; (with_reducible refine (spec_SerialLess.calls kj10 t175 t176 t179 t180 _ A24.out).mono ?_); rintro e w' ⟨rfl, ⟨nd, rfl⟩⟩; refine ⟨_, rfl, ?_⟩) | ((with_reducible refine gate_callee (f := 19) rfl ?_); refine goesL_ (some 123) rfl rfl Try.func19 (by kernel_rfl) rfl #[.int .i64 t176, .int .i64 t175] rfl (by (try simp only [List.map_toArray, List.map_cons, List.map_nil]); first | done | rfl | (simp only [List.length_drop, List.length_take]; rfl)) ?_; (with_reducible refine (impl_SerialLess.calls t176 t175 t181 t182 _ A25.out).mono ?_); rintro e w' ⟨rfl, ⟨nd, rfl⟩⟩; refine ⟨_, rfl, ?_⟩) | ((with_reducible refine gate_callee (f := 17) rfl ?_); refine goesL_ (some 129) rfl rfl Try.func17 (by kernel_rfl) rfl #[.int .i64 t175, .int .i64 t176] rfl (by (try simp only [List.map_toArray, List.map_cons, List.map_nil]); first | done | rfl | (simp only [List.length_drop, List.length_take]; rfl)) ?_; (with_reducible refine (impl_StepsBetween.calls t175 t176 t183 t184 _ A26.out).mono ?_); rintro e w' ⟨rfl, ⟨nd, rfl⟩⟩; refine ⟨_, rfl, ?_⟩) | ((with_reducible refine gate_callee (f := 16) rfl ?_); refine goesL_ (some 135) rfl rfl Try.func16 (by kernel_rfl) rfl #[.int .i64 t175, .int .i64 t176] rfl (by (try simp only [List.map_toArray, List.map_cons, List.map_nil]); first | done | rfl | (simp only [List.length_drop, List.length_take]; rfl)) ?_; (with_reducible refine (spec_StepsBetween.calls t175 t176 t185 t186 _ A27.out).mono ?_); rintro e w' ⟨rfl, ⟨nd, rfl⟩⟩; refine ⟨_, rfl, ?_⟩))
                go_ret
                exact ⟨by first | rfl | (simp [errW_none, errW_some] <;> rfl) | (simp [*, errW_none, errW_some] <;> rfl), by repeat (first | (with_reducible first | exact HB.out | apply below_alloc | apply pw_below_drewN | apply below_drew1) | exact HB.out)⟩
              · rw [if_neg c28] at H
                have c28b0 : (t178 != t180) = false := by simpa using c28
                (try (have c28b1 : decide (t178 = t180) = true := by simpa using c28))
                (try (have c28b2 : (t178 == t180) = true := by simpa using c28))
                clear c28
                by_cases c30 : (t177 != t179) = true
                · rw [if_pos c30] at H
                  have c30b0 : (t177 != t179) = true := c30
                  (try (have c30b1 : decide (t177 = t179) = false := by simpa using c30))
                  (try (have c30b2 : (t177 == t179) = false := by simpa using c30))
                  (try (have c30b3 : ¬ (t177 = t179) := by simpa using c30))
                  clear c30
                  obtain rfl := Option.some.inj H
                  go_wp2_with (first | ((with_reducible refine gate_callee (f := 23) rfl ?_); refine goesL_ (some 105) rfl rfl Try.func23 (by kernel_rfl) rfl #[.slice A1 l1.length c1] rfl (by (try simp only [List.map_toArray, List.map_cons, List.map_nil]); first | done | rfl | (simp only [List.length_drop, List.length_take]; rfl)) ?_; (with_reducible refine (spec_DrawSerialLess.calls _ _ l1 t175 t176 _ ?side1 ?side2 A22.out).mono ?_); (case side1 => repeat (first | exact (Kd.C_below HR1.out HB.out) | (with_reducible refine Kd.C_alloc ?_ _) | (with_reducible refine Kd.C_drewN ?_ _) | (with_reducible refine Kd.C_drew ?_))); (case side2 => exact HC1.out); rintro e w31 ⟨rfl, hb⟩; refine ⟨_, rfl, ?_⟩; have n0_ := Aside0.mk (below_step (by repeat (first | (with_reducible first | exact HB.out | apply below_alloc | apply pw_below_drewN | apply below_drew1) | exact HB.out)) hb); clear HB; have HB := n0_; clear n0_; (try clear hb); (try clear hb2); (try clear hk); (try clear hi)) | ((with_reducible refine gate_callee (f := 19) rfl ?_); refine goesL_ (some 111) rfl rfl Try.func19 (by kernel_rfl) rfl #[.int .i64 t175, .int .i64 t176] rfl (by (try simp only [List.map_toArray, List.map_cons, List.map_nil]); first | done | rfl | (simp only [List.length_drop, List.length_take]; rfl)) ?_; (with_reducible refine (impl_SerialLess.calls t175 t176 t177 t178 _ A23.out).mono ?_); rintro e w' ⟨rfl, ⟨nd, rfl⟩⟩; refine ⟨_, rfl, ?_⟩) | ((with_reducible refine gate_callee (f := 18) rfl ?_); refine goesL_ (some 117) rfl rfl Try.func18 (by kernel_rfl) rfl #[.int .i64 t175, .int .i64 t176] rfl (by (try simp only [List.map_toArray, List.map_cons, List.map_nil]); first | done | rfl | (simp only [List.length_drop, List.length_take]; rfl)) ?_; (with_reducible refine (spec_SerialLess.calls kj10 t175 t176 t179 t180 _ A24.out).mono ?_); rintro e w' ⟨rfl, ⟨nd, rfl⟩⟩; refine ⟨_, rfl, ?_⟩) | ((with_reducible refine gate_callee (f := 19) rfl ?_); refine goesL_ (some 123) rfl rfl Try.func19 (by kernel_rfl) rfl #[.int .i64 t176, .int .i64 t175] rfl (by (try simp only [List.map_toArray, List.map_cons, List.map_nil]); first | done | rfl | (simp only [List.length_drop, List.length_take]; rfl)) ?_; (with_reducible refine (impl_SerialLess.calls t176 t175 t181 t182 _ A25.out).mono ?_); rintro e w' ⟨rfl, ⟨nd, rfl⟩⟩; refine ⟨_, rfl, ?_⟩) | ((with_reducible refine gate_callee (f := 17) rfl ?_); refine goesL_ (some 129) rfl rfl Try.func17 (by kernel_rfl) rfl #[.int .i64 t175, .int .i64 t176] rfl (by (try simp only [List.map_toArray, List.map_cons, List.map_nil]); first | done | rfl | (simp only [List.length_drop, List.length_take]; rfl)) ?_; (with_reducible refine (impl_StepsBetween.calls t175 t176 t183 t184 _ A26.out).mono ?_); rintro e w' ⟨rfl, ⟨nd, rfl⟩⟩; refine ⟨_, rfl, ?_⟩) | ((with_reducible refine gate_callee (f := 16) rfl ?_); refine goesL_ (some 135) rfl rfl Try.func16 (by kernel_rfl) rfl #[.int .i64 t175, .int .i64 t176] rfl (by (try simp only [List.map_toArray, List.map_cons, List.map_nil]); first | done | rfl | (simp only [List.length_drop, List.length_take]; rfl)) ?_; (with_reducible refine (spec_StepsBetween.calls t175 t176 t185 t186 _ A27.out).mono ?_); rintro e w' ⟨rfl, ⟨nd, rfl⟩⟩; refine ⟨_, rfl, ?_⟩))
                  go_ret
                  exact ⟨by first | rfl | (simp [errW_none, errW_some] <;> rfl) | (simp [*, errW_none, errW_some] <;> rfl), by repeat (first | (with_reducible first | exact HB.out | apply below_alloc | apply pw_below_drewN | apply below_drew1) | exact HB.out)⟩
                · rw [if_neg c30] at H
                  have c30b0 : (t177 != t179) = false := by simpa using c30
                  (try (have c30b1 : decide (t177 = t179) = true := by simpa using c30))
                  (try (have c30b2 : (t177 == t179) = true := by simpa using c30))
                  clear c30
                  by_cases c32 : (t182 != t178) = true
                  · rw [if_pos c32] at H
                    have c32b0 : (t182 != t178) = true := c32
                    (try (have c32b1 : decide (t182 = t178) = false := by simpa using c32))
                    (try (have c32b2 : (t182 == t178) = false := by simpa using c32))
                    (try (have c32b3 : ¬ (t182 = t178) := by simpa using c32))
                    clear c32
                    obtain rfl := Option.some.inj H
                    go_wp2_with (first | ((with_reducible refine gate_callee (f := 23) rfl ?_); refine goesL_ (some 105) rfl rfl Try.func23 (by kernel_rfl) rfl #[.slice A1 l1.length c1] rfl (by (try simp only [List.map_toArray, List.map_cons, List.map_nil]); first | done | rfl | (simp only [List.length_drop, List.length_take]; rfl)) ?_; (with_reducible refine (spec_DrawSerialLess.calls _ _ l1 t175 t176 _ ?side1 ?side2 A22.out).mono ?_); (case side1 => repeat (first | exact (Kd.C_below HR1.out HB.out) | (with_reducible refine Kd.C_alloc ?_ _) | (with_reducible refine Kd.C_drewN ?_ _) | (with_reducible refine Kd.C_drew ?_))); (case side2 => exact HC1.out); rintro e w33 ⟨rfl, hb⟩; refine ⟨_, rfl, ?_⟩; have n0_ := Aside0.mk (below_step (by repeat (first | (with_reducible first | exact HB.out | apply below_alloc | apply pw_below_drewN | apply below_drew1) | exact HB.out)) hb); clear HB; have HB := n0_; clear n0_; (try clear hb); (try clear hb2); (try clear hk); (try clear hi)) | ((with_reducible refine gate_callee (f := 19) rfl ?_); refine goesL_ (some 111) rfl rfl Try.func19 (by kernel_rfl) rfl #[.int .i64 t175, .int .i64 t176] rfl (by (try simp only [List.map_toArray, List.map_cons, List.map_nil]); first | done | rfl | (simp only [List.length_drop, List.length_take]; rfl)) ?_; (with_reducible refine (impl_SerialLess.calls t175 t176 t177 t178 _ A23.out).mono ?_); rintro e w' ⟨rfl, ⟨nd, rfl⟩⟩; refine ⟨_, rfl, ?_⟩) | ((with_reducible refine gate_callee (f := 18) rfl ?_); refine goesL_ (some 117) rfl rfl Try.func18 (by kernel_rfl) rfl #[.int .i64 t175, .int .i64 t176] rfl (by (try simp only [List.map_toArray, List.map_cons, List.map_nil]); first | done | rfl | (simp only [List.length_drop, List.length_take]; rfl)) ?_; (with_reducible refine (spec_SerialLess.calls kj10 t175 t176 t179 t180 _ A24.out).mono ?_); rintro e w' ⟨rfl, ⟨nd, rfl⟩⟩; refine ⟨_, rfl, ?_⟩) | ((with_reducible refine gate_callee (f := 19) rfl ?_); refine goesL_ (some 123) rfl rfl Try.func19 (by kernel_rfl) rfl #[.int .i64 t176, .int .i64 t175] rfl (by (try simp only [List.map_toArray, List.map_cons, List.map_nil]); first | done | rfl | (simp only [List.length_drop, List.length_take]; rfl)) ?_; (with_reducible refine (impl_SerialLess.calls t176 t175 t181 t182 _ A25.out).mono ?_); rintro e w' ⟨rfl, ⟨nd, rfl⟩⟩; refine ⟨_, rfl, ?_⟩) | ((with_reducible refine gate_callee (f := 17) rfl ?_); refine goesL_ (some 129) rfl rfl Try.func17 (by kernel_rfl) rfl #[.int .i64 t175, .int .i64 t176] rfl (by (try simp only [List.map_toArray, List.map_cons, List.map_nil]); first | done | rfl | (simp only [List.length_drop, List.length_take]; rfl)) ?_; (with_reducible refine (impl_StepsBetween.calls t175 t176 t183 t184 _ A26.out).mono ?_); rintro e w' ⟨rfl, ⟨nd, rfl⟩⟩; refine ⟨_, rfl, ?_⟩) | ((with_reducible refine gate_callee (f := 16) rfl ?_); refine goesL_ (some 135) rfl rfl Try.func16 (by kernel_rfl) rfl #[.int .i64 t175, .int .i64 t176] rfl (by (try simp only [List.map_toArray, List.map_cons, List.map_nil]); first | done | rfl | (simp only [List.length_drop, List.length_take]; rfl)) ?_; (with_reducible refine (spec_StepsBetween.calls t175 t176 t185 t186 _ A27.out).mono ?_); rintro e w' ⟨rfl, ⟨nd, rfl⟩⟩; refine ⟨_, rfl, ?_⟩))
                    go_ret
                    exact ⟨by first | rfl | (simp [errW_none, errW_some] <;> rfl) | (simp [*, errW_none, errW_some] <;> rfl), by repeat (first | (with_reducible first | exact HB.out | apply below_alloc | apply pw_below_drewN | apply below_drew1) | exact HB.out)⟩
                  · rw [if_neg c32] at H
                    have c32b0 : (t182 != t178) = false := by simpa using c32
                    (try (have c32b1 : decide (t182 = t178) = true := by simpa using c32))
                    (try (have c32b2 : (t182 == t178) = true := by simpa using c32))
                    clear c32
                    by_cases c34 : (t184 != t186) = true
                    · rw [if_pos c34] at H
                      have c34b0 : (t184 != t186) = true := c34
                      (try (have c34b1 : decide (t184 = t186) = false := by simpa using c34))
                      (try (have c34b2 : (t184 == t186) = false := by simpa using c34))
                      (try (have c34b3 : ¬ (t184 = t186) := by simpa using c34))
                      clear c34
                      obtain rfl := Option.some.inj H
                      go_wp2_with (first | ((with_reducible refine gate_callee (f := 23) rfl ?_); refine goesL_ (some 105) rfl rfl Try.func23 (by kernel_rfl) rfl #[.slice A1 l1.length c1] rfl (by (try simp only [List.map_toArray, List.map_cons, List.map_nil]); first | done | rfl | (simp only [List.length_drop, List.length_take]; rfl)) ?_; (with_reducible refine (spec_DrawSerialLess.calls _ _ l1 t175 t176 _ ?side1 ?side2 A22.out).mono ?_); (case side1 => repeat (first | exact (Kd.C_below HR1.out HB.out) | (with_reducible refine Kd.C_alloc ?_ _) | (with_reducible refine Kd.C_drewN ?_ _) | (with_reducible refine Kd.C_drew ?_))); (case side2 => exact HC1.out); rintro e w35 ⟨rfl, hb⟩; refine ⟨_, rfl, ?_⟩; have n0_ := Aside0.mk (below_step (by repeat (first | (with_reducible first | exact HB.out | apply below_alloc | apply pw_below_drewN | apply below_drew1) | exact HB.out)) hb); clear HB; have HB := n0_; clear n0_; (try clear hb); (try clear hb2); (try clear hk); (try clear hi)) | ((with_reducible refine gate_callee (f := 19) rfl ?_); refine goesL_ (some 111) rfl rfl Try.func19 (by kernel_rfl) rfl #[.int .i64 t175, .int .i64 t176] rfl (by (try simp only [List.map_toArray, List.map_cons, List.map_nil]); first | done | rfl | (simp only [List.length_drop, List.length_take]; rfl)) ?_; (with_reducible refine (impl_SerialLess.calls t175 t176 t177 t178 _ A23.out).mono ?_); rintro e w' ⟨rfl, ⟨nd, rfl⟩⟩; refine ⟨_, rfl, ?_⟩) | ((with_reducible refine gate_callee (f := 18) rfl ?_); refine goesL_ (some 117) rfl rfl Try.func18 (by kernel_rfl) rfl #[.int .i64 t175, .int .i64 t176] rfl (by (try simp only [List.map_toArray, List.map_cons, List.map_nil]); first | done | rfl | (simp only [List.length_drop, List.length_take]; rfl)) ?_; (with_reducible refine (spec_SerialLess.calls kj10 t175 t176 t179 t180 _ A24.out).mono ?_); rintro e w' ⟨rfl, ⟨nd, rfl⟩⟩; refine ⟨_, rfl, ?_⟩) | ((with_reducible refine gate_callee (f := 19) rfl ?_); refine goesL_ (some 123) rfl rfl Try.func19 (by kernel_rfl) rfl #[.int .i64 t176, .int .i64 t175] rfl (by (try simp only [List.map_toArray, List.map_cons, List.map_nil]); first | done | rfl | (simp only [List.length_drop, List.length_take]; rfl)) ?_; (with_reducible refine (impl_SerialLess.calls t176 t175 t181 t182 _ A25.out).mono ?_); rintro e w' ⟨rfl, ⟨nd, rfl⟩⟩; refine ⟨_, rfl, ?_⟩) | ((with_reducible refine gate_callee (f := 17) rfl ?_); refine goesL_ (some 129) rfl rfl Try.func17 (by kernel_rfl) rfl #[.int .i64 t175, .int .i64 t176] rfl (by (try simp only [List.map_toArray, List.map_cons, List.map_nil]); first | done | rfl | (simp only [List.length_drop, List.length_take]; rfl)) ?_; (with_reducible refine (impl_StepsBetween.calls t175 t176 t183 t184 _ A26.out).mono ?_); rintro e w' ⟨rfl, ⟨nd, rfl⟩⟩; refine ⟨_, rfl, ?_⟩) | ((with_reducible refine gate_callee (f := 16) rfl ?_); refine goesL_ (some 135) rfl rfl Try.func16 (by kernel_rfl) rfl #[.int .i64 t175, .int .i64 t176] rfl (by (try simp only [List.map_toArray, List.map_cons, List.map_nil]); first | done | rfl | (simp only [List.length_drop, List.length_take]; rfl)) ?_; (with_reducible refine (spec_StepsBetween.calls t175 t176 t185 t186 _ A27.out).mono ?_); rintro e w' ⟨rfl, ⟨nd, rfl⟩⟩; refine ⟨_, rfl, ?_⟩))
                      go_ret
                      exact ⟨by first | rfl | (simp [errW_none, errW_some] <;> rfl) | (simp [*, errW_none, errW_some] <;> rfl), by repeat (first | (with_reducible first | exact HB.out | apply below_alloc | apply pw_below_drewN | apply below_drew1) | exact HB.out)⟩
                    · rw [if_neg c34] at H
                      have c34b0 : (t184 != t186) = false := by simpa using c34
                      (try (have c34b1 : decide (t184 = t186) = true := by simpa using c34))
                      (try (have c34b2 : (t184 == t186) = true := by simpa using c34))
                      clear c34
                      by_cases c36 : t183 = t185
                      · rw [if_pos c36] at H
                        have c36b0 : (t183 == t185) = true := beq_iff_eq.mpr c36
                        have c36b1 : (t183 != t185) = false := bne_eq_false_iff_eq.mpr c36
                        clear c36
                        by_cases c37 : t178 = true
                        · subst c37
                          have H1 : (if t177 = true then (if (true == (t175 != t176)) = true then (some (!t181)) else (some false)) else (if (t181 == (t175 != t176)) = true then (some (!false)) else (some false))) = some r := by rw [if_pos rfl] at H; exact H
                          clear H
                          have H := H1
                          clear H1
                          by_cases c38 : t177 = true
                          · subst c38
                            have H1 : (if (true == (t175 != t176)) = true then (some (!t181)) else (some false)) = some r := by rw [if_pos rfl] at H; exact H
                            clear H
                            have H := H1
                            clear H1
                            by_cases c39 : (true == (t175 != t176)) = true
                            · rw [if_pos c39] at H
                              have c39b0 : (true == (t175 != t176)) = true := c39
                              (try (have c39b1 : decide (true = (t175 != t176)) = true := by simpa using c39))
                              (try (have c39b2 : (true == (t175 != t176)) = true := by simpa using c39))
                              clear c39
                              obtain rfl := Option.some.inj H
                              go_wp2_with (first | ((with_reducible refine gate_callee (f := 23) rfl ?_); refine goesL_ (some 105) rfl rfl Try.func23 (by kernel_rfl) rfl #[.slice A1 l1.length c1] rfl (by (try simp only [List.map_toArray, List.map_cons, List.map_nil]); first | done | rfl | (simp only [List.length_drop, List.length_take]; rfl)) ?_; (with_reducible refine (spec_DrawSerialLess.calls _ _ l1 t175 t176 _ ?side1 ?side2 A22.out).mono ?_); (case side1 => repeat (first | exact (Kd.C_below HR1.out HB.out) | (with_reducible refine Kd.C_alloc ?_ _) | (with_reducible refine Kd.C_drewN ?_ _) | (with_reducible refine Kd.C_drew ?_))); (case side2 => exact HC1.out); rintro e w40 ⟨rfl, hb⟩; refine ⟨_, rfl, ?_⟩; have n0_ := Aside0.mk (below_step (by repeat (first | (with_reducible first | exact HB.out | apply below_alloc | apply pw_below_drewN | apply below_drew1) | exact HB.out)) hb); clear HB; have HB := n0_; clear n0_; (try clear hb); (try clear hb2); (try clear hk); (try clear hi)) | ((with_reducible refine gate_callee (f := 19) rfl ?_); refine goesL_ (some 111) rfl rfl Try.func19 (by kernel_rfl) rfl #[.int .i64 t175, .int .i64 t176] rfl (by (try simp only [List.map_toArray, List.map_cons, List.map_nil]); first | done | rfl | (simp only [List.length_drop, List.length_take]; rfl)) ?_; (with_reducible refine (impl_SerialLess.calls t175 t176 true true _ A23.out).mono ?_); rintro e w' ⟨rfl, ⟨nd, rfl⟩⟩; refine ⟨_, rfl, ?_⟩) | ((with_reducible refine gate_callee (f := 18) rfl ?_); refine goesL_ (some 117) rfl rfl Try.func18 (by kernel_rfl) rfl #[.int .i64 t175, .int .i64 t176] rfl (by (try simp only [List.map_toArray, List.map_cons, List.map_nil]); first | done | rfl | (simp only [List.length_drop, List.length_take]; rfl)) ?_; (with_reducible refine (spec_SerialLess.calls kj10 t175 t176 t179 t180 _ A24.out).mono ?_); rintro e w' ⟨rfl, ⟨nd, rfl⟩⟩; refine ⟨_, rfl, ?_⟩) | ((with_reducible refine gate_callee (f := 19) rfl ?_); refine goesL_ (some 123) rfl rfl Try.func19 (by kernel_rfl) rfl #[.int .i64 t176, .int .i64 t175] rfl (by (try simp only [List.map_toArray, List.map_cons, List.map_nil]); first | done | rfl | (simp only [List.length_drop, List.length_take]; rfl)) ?_; (with_reducible refine (impl_SerialLess.calls t176 t175 t181 t182 _ A25.out).mono ?_); rintro e w' ⟨rfl, ⟨nd, rfl⟩⟩; refine ⟨_, rfl, ?_⟩) | ((with_reducible refine gate_callee (f := 17) rfl ?_); refine goesL_ (some 129) rfl rfl Try.func17 (by kernel_rfl) rfl #[.int .i64 t175, .int .i64 t176] rfl (by (try simp only [List.map_toArray, List.map_cons, List.map_nil]); first | done | rfl | (simp only [List.length_drop, List.length_take]; rfl)) ?_; (with_reducible refine (impl_StepsBetween.calls t175 t176 t183 t184 _ A26.out).mono ?_); rintro e w' ⟨rfl, ⟨nd, rfl⟩⟩; refine ⟨_, rfl, ?_⟩) | ((with_reducible refine gate_callee (f := 16) rfl ?_); refine goesL_ (some 135) rfl rfl Try.func16 (by kernel_rfl) rfl #[.int .i64 t175, .int .i64 t176] rfl (by (try simp only [List.map_toArray, List.map_cons, List.map_nil]); first | done | rfl | (simp only [List.length_drop, List.length_take]; rfl)) ?_; (with_reducible refine (spec_StepsBetween.calls t175 t176 t185 t186 _ A27.out).mono ?_); rintro e w' ⟨rfl, ⟨nd, rfl⟩⟩; refine ⟨_, rfl, ?_⟩))
                              go_ret
                              exact ⟨by first | rfl | (simp [errW_none, errW_some] <;> rfl) | (simp [*, errW_none, errW_some] <;> rfl), by repeat (first | (with_reducible first | exact HB.out | apply below_alloc | apply pw_below_drewN | apply below_drew1) | exact HB.out)⟩
                            · rw [if_neg c39] at H
                              have c39b0 : (true == (t175 != t176)) = false := by simpa using c39
                              (try (have c39b1 : decide (true = (t175 != t176)) = false := by simpa using c39))
                              (try (have c39b2 : (true == (t175 != t176)) = false := by simpa using c39))
                              (try (have c39b3 : ¬ (true = (t175 != t176)) := by simpa using c39))
                              clear c39
                              obtain rfl := Option.some.inj H
                              go_wp2_with (first | ((with_reducible refine gate_callee (f := 23) rfl ?_); refine goesL_ (some 105) rfl rfl Try.func23 (by kernel_rfl) rfl #[.slice A1 l1.length c1] rfl (by (try simp only [List.map_toArray, List.map_cons, List.map_nil]); first | done | rfl | (simp only [List.length_drop, List.length_take]; rfl)) ?_; (with_reducible refine (spec_DrawSerialLess.calls _ _ l1 t175 t176 _ ?side1 ?side2 A22.out).mono ?_); (case side1 => repeat (first | exact (Kd.C_below HR1.out HB.out) | (with_reducible refine Kd.C_alloc ?_ _) | (with_reducible refine Kd.C_drewN ?_ _) | (with_reducible refine Kd.C_drew ?_))); (case side2 => exact HC1.out); rintro e w41 ⟨rfl, hb⟩; refine ⟨_, rfl, ?_⟩; have n0_ := Aside0.mk (below_step (by repeat (first | (with_reducible first | exact HB.out | apply below_alloc | apply pw_below_drewN | apply below_drew1) | exact HB.out)) hb); clear HB; have HB := n0_; clear n0_; (try clear hb); (try clear hb2); (try clear hk); (try clear hi)) | ((with_reducible refine gate_callee (f := 19) rfl ?_); refine goesL_ (some 111) rfl rfl Try.func19 (by kernel_rfl) rfl #[.int .i64 t175, .int .i64 t176] rfl (by (try simp only [List.map_toArray, List.map_cons, List.map_nil]); first | done | rfl | (simp only [List.length_drop, List.length_take]; rfl)) ?_; (with_reducible refine (impl_SerialLess.calls t175 t176 true true _ A23.out).mono ?_); rintro e w' ⟨rfl, ⟨nd, rfl⟩⟩; refine ⟨_, rfl, ?_⟩) | ((with_reducible refine gate_callee (f := 18) rfl ?_); refine goesL_ (some 117) rfl rfl Try.func18 (by kernel_rfl) rfl #[.int .i64 t175, .int .i64 t176] rfl (by (try simp only [List.map_toArray, List.map_cons, List.map_nil]); first | done | rfl | (simp only [List.length_drop, List.length_take]; rfl)) ?_; (with_reducible refine (spec_SerialLess.calls kj10 t175 t176 t179 t180 _ A24.out).mono ?_); rintro e w' ⟨rfl, ⟨nd, rfl⟩⟩; refine ⟨_, rfl, ?_⟩) | ((with_reducible refine gate_callee (f := 19) rfl ?_); refine goesL_ (some 123) rfl rfl Try.func19 (by kernel_rfl) rfl #[.int .i64 t176, .int .i64 t175] rfl (by (try simp only [List.map_toArray, List.map_cons, List.map_nil]); first | done | rfl | (simp only [List.length_drop, List.length_take]; rfl)) ?_; (with_reducible refine (impl_SerialLess.calls t176 t175 t181 t182 _ A25.out).mono ?_); rintro e w' ⟨rfl, ⟨nd, rfl⟩⟩; refine ⟨_, rfl, ?_⟩) | ((with_reducible refine gate_callee (f := 17) rfl ?_); refine goesL_ (some 129) rfl rfl Try.func17 (by kernel_rfl) rfl #[.int .i64 t175, .int .i64 t176] rfl (by (try simp only [List.map_toArray, List.map_cons, List.map_nil]); first | done | rfl | (simp only [List.length_drop, List.length_take]; rfl)) ?_; (with_reducible refine (impl_StepsBetween.calls t175 t176 t183 t184 _ A26.out).mono ?_); rintro e w' ⟨rfl, ⟨nd, rfl⟩⟩; refine ⟨_, rfl, ?_⟩) | ((with_reducible refine gate_callee (f := 16) rfl ?_); refine goesL_ (some 135) rfl rfl Try.func16 (by kernel_rfl) rfl #[.int .i64 t175, .int .i64 t176] rfl (by (try simp only [List.map_toArray, List.map_cons, List.map_nil]); first | done | rfl | (simp only [List.length_drop, List.length_take]; rfl)) ?_; (with_reducible refine (spec_StepsBetween.calls t175 t176 t185 t186 _ A27.out).mono ?_); rintro e w' ⟨rfl, ⟨nd, rfl⟩⟩; refine ⟨_, rfl, ?_⟩))
                              go_ret
                              exact ⟨by first | rfl | (simp [errW_none, errW_some] <;> rfl) | (simp [*, errW_none, errW_some] <;> rfl), by repeat (first | (with_reducible first | exact HB.out | apply below_alloc | apply pw_below_drewN | apply below_drew1) | exact HB.out)⟩
                          · replace c38 := Bool.eq_false_iff.mpr c38
                            subst c38
                            have H1 : (if (t181 == (t175 != t176)) = true then (some (!false)) else (some false)) = some r := by rw [if_neg (show ¬ (false = true) by decide)] at H; exact H
                            clear H
                            have H := H1
                            clear H1
                            by_cases c42 : (t181 == (t175 != t176)) = true
                            · rw [if_pos c42] at H
                              have c42b0 : (t181 == (t175 != t176)) = true := c42
                              (try (have c42b1 : decide (t181 = (t175 != t176)) = true := by simpa using c42))
                              (try (have c42b2 : (t181 == (t175 != t176)) = true := by simpa using c42))
                              clear c42
                              obtain rfl := Option.some.inj H
                              go_wp2_with (first | ((with_reducible refine gate_callee (f := 23) rfl ?_); refine goesL_ (some 105) rfl rfl Try.func23 (by kernel_rfl) rfl #[.slice A1 l1.length c1] rfl (by (try simp only [List.map_toArray, List.map_cons, List.map_nil]); first | done | rfl | (simp only [List.length_drop, List.length_take]; rfl)) ?_; (with_reducible refine (spec_DrawSerialLess.calls _ _ l1 t175 t176 _ ?side1 ?side2 A22.out).mono ?_); (case side1 => repeat (first | exact (Kd.C_below HR1.out HB.out) | (with_reducible refine Kd.C_alloc ?_ _) | (with_reducible refine Kd.C_drewN ?_ _) | (with_reducible refine Kd.C_drew ?_))); (case side2 => exact HC1.out); rintro e w43 ⟨rfl, hb⟩; refine ⟨_, rfl, ?_⟩; have n0_ := Aside0.mk (below_step (by repeat (first | (with_reducible first | exact HB.out | apply below_alloc | apply pw_below_drewN | apply below_drew1) | exact HB.out)) hb); clear HB; have HB := n0_; clear n0_; (try clear hb); (try clear hb2); (try clear hk); (try clear hi)) | ((with_reducible refine gate_callee (f := 19) rfl ?_); refine goesL_ (some 111) rfl rfl Try.func19 (by kernel_rfl) rfl #[.int .i64 t175, .int .i64 t176] rfl (by (try simp only [List.map_toArray, List.map_cons, List.map_nil]); first | done | rfl | (simp only [List.length_drop, List.length_take]; rfl)) ?_; (with_reducible refine (impl_SerialLess.calls t175 t176 false true _ A23.out).mono ?_); rintro e w' ⟨rfl, ⟨nd, rfl⟩⟩; refine ⟨_, rfl, ?_⟩) | ((with_reducible refine gate_callee (f := 18) rfl ?_); refine goesL_ (some 117) rfl rfl Try.func18 (by kernel_rfl) rfl #[.int .i64 t175, .int .i64 t176] rfl (by (try simp only [List.map_toArray, List.map_cons, List.map_nil]); first | done | rfl | (simp only [List.length_drop, List.length_take]; rfl)) ?_; (with_reducible refine (spec_SerialLess.calls kj10 t175 t176 t179 t180 _ A24.out).mono ?_); rintro e w' ⟨rfl, ⟨nd, rfl⟩⟩; refine ⟨_, rfl, ?_⟩) | ((with_reducible refine gate_callee (f := 19) rfl ?_); refine goesL_ (some 123) rfl rfl Try.func19 (by kernel_rfl) rfl #[.int .i64 t176, .int .i64 t175] rfl (by (try simp only [List.map_toArray, List.map_cons, List.map_nil]); first | done | rfl | (simp only [List.length_drop, List.length_take]; rfl)) ?_; (with_reducible refine (impl_SerialLess.calls t176 t175 t181 t182 _ A25.out).mono ?_); rintro e w' ⟨rfl, ⟨nd, rfl⟩⟩; refine ⟨_, rfl, ?_⟩) | ((with_reducible refine gate_callee (f := 17) rfl ?_); refine goesL_ (some 129) rfl rfl Try.func17 (by kernel_rfl) rfl #[.int .i64 t175, .int .i64 t176] rfl (by (try simp only [List.map_toArray, List.map_cons, List.map_nil]); first | done | rfl | (simp only [List.length_drop, List.length_take]; rfl)) ?_; (with_reducible refine (impl_StepsBetween.calls t175 t176 t183 t184 _ A26.out).mono ?_); rintro e w' ⟨rfl, ⟨nd, rfl⟩⟩; refine ⟨_, rfl, ?_⟩) | ((with_reducible refine gate_callee (f := 16) rfl ?_); refine goesL_ (some 135) rfl rfl Try.func16 (by kernel_rfl) rfl #[.int .i64 t175, .int .i64 t176] rfl (by (try simp only [List.map_toArray, List.map_cons, List.map_nil]); first | done | rfl | (simp only [List.length_drop, List.length_take]; rfl)) ?_; (with_reducible refine (spec_StepsBetween.calls t175 t176 t185 t186 _ A27.out).mono ?_); rintro e w' ⟨rfl, ⟨nd, rfl⟩⟩; refine ⟨_, rfl, ?_⟩))
                              go_ret
                              exact ⟨by first | rfl | (simp [errW_none, errW_some] <;> rfl) | (simp [*, errW_none, errW_some] <;> rfl), by repeat (first | (with_reducible first | exact HB.out | apply below_alloc | apply pw_below_drewN | apply below_drew1) | exact HB.out)⟩
                            · rw [if_neg c42] at H
                              have c42b0 : (t181 == (t175 != t176)) = false := by simpa using c42
                              (try (have c42b1 : decide (t181 = (t175 != t176)) = false := by simpa using c42))
                              (try (have c42b2 : (t181 == (t175 != t176)) = false := by simpa using c42))
                              (try (have c42b3 : ¬ (t181 = (t175 != t176)) := by simpa using c42))
                              clear c42
                              obtain rfl := Option.some.inj H
                              go_wp2_with (first | ((with_reducible refine gate_callee (f := 23) rfl ?_); refine goesL_ (some 105) rfl rfl Try.func23 (by kernel_rfl) rfl #[.slice A1 l1.length c1] rfl (by (try simp only [List.map_toArray, List.map_cons, List.map_nil]); first | done | rfl | (simp only [List.length_drop, List.length_take]; rfl)) ?_; (with_reducible refine (spec_DrawSerialLess.calls _ _ l1 t175 t176 _ ?side1 ?side2 A22.out).mono ?_); (case side1 => repeat (first | exact (Kd.C_below HR1.out HB.out) | (with_reducible refine Kd.C_alloc ?_ _) | (with_reducible refine Kd.C_drewN ?_ _) | (with_reducible refine Kd.C_drew ?_))); (case side2 => exact HC1.out); rintro e w44 ⟨rfl, hb⟩; refine ⟨_, rfl, ?_⟩; have n0_ := Aside0.mk (below_step (by repeat (first | (with_reducible first | exact HB.out | apply below_alloc | apply pw_below_drewN | apply below_drew1) | exact HB.out)) hb); clear HB; have HB := n0_; clear n0_; (try clear hb); (try clear hb2); (try clear hk); (try clear hi)) | ((with_reducible refine gate_callee (f := 19) rfl ?_); refine goesL_ (some 111) rfl rfl Try.func19 (by kernel_rfl) rfl #[.int .i64 t175, .int .i64 t176] rfl (by (try simp only [List.map_toArray, List.map_cons, List.map_nil]); first | done | rfl | (simp only [List.length_drop, List.length_take]; rfl)) ?_; (with_reducible refine (impl_SerialLess.calls t175 t176 false true _ A23.out).mono ?_); rintro e w' ⟨rfl, ⟨nd, rfl⟩⟩; refine ⟨_, rfl, ?_⟩) | ((with_reducible refine gate_callee (f := 18) rfl ?_); refine goesL_ (some 117) rfl rfl Try.func18 (by kernel_rfl) rfl #[.int .i64 t175, .int .i64 t176] rfl (by (try simp only [List.map_toArray, List.map_cons, List.map_nil]); first | done | rfl | (simp only [List.length_drop, List.length_take]; rfl)) ?_; (with_reducible refine (spec_SerialLess.calls kj10 t175 t176 t179 t180 _ A24.out).mono ?_); rintro e w' ⟨rfl, ⟨nd, rfl⟩⟩; refine ⟨_, rfl, ?_⟩) | ((with_reducible refine gate_callee (f := 19) rfl ?_); refine goesL_ (some 123) rfl rfl Try.func19 (by kernel_rfl) rfl #[.int .i64 t176, .int .i64 t175] rfl (by (try simp only [List.map_toArray, List.map_cons, List.map_nil]); first | done | rfl | (simp only [List.length_drop, List.length_take]; rfl)) ?_; (with_reducible refine (impl_SerialLess.calls t176 t175 t181 t182 _ A25.out).mono ?_); rintro e w' ⟨rfl, ⟨nd, rfl⟩⟩; refine ⟨_, rfl, ?_⟩) | ((with_reducible refine gate_callee (f := 17) rfl ?_); refine goesL_ (some 129) rfl rfl Try.func17 (by kernel_rfl) rfl #[.int .i64 t175, .int .i64 t176] rfl (by (try simp only [List.map_toArray, List.map_cons, List.map_nil]); first | done | rfl | (simp only [List.length_drop, List.length_take]; rfl)) ?_; (with_reducible refine (impl_StepsBetween.calls t175 t176 t183 t184 _ A26.out).mono ?_); rintro e w' ⟨rfl, ⟨nd, rfl⟩⟩; refine ⟨_, rfl, ?_⟩) | ((with_reducible refine gate_callee (f := 16) rfl ?_); refine goesL_ (some 135) rfl rfl Try.func16 (by kernel_rfl) rfl #[.int .i64 t175, .int .i64 t176] rfl (by (try simp only [List.map_toArray, List.map_cons, List.map_nil]); first | done | rfl | (simp only [List.length_drop, List.length_take]; rfl)) ?_; (with_reducible refine (spec_StepsBetween.calls t175 t176 t185 t186 _ A27.out).mono ?_); rintro e w' ⟨rfl, ⟨nd, rfl⟩⟩; refine ⟨_, rfl, ?_⟩))
                              go_ret
                              exact ⟨by first | rfl | (simp [errW_none, errW_some] <;> rfl) | (simp [*, errW_none, errW_some] <;> rfl), by repeat (first | (with_reducible first | exact HB.out | apply below_alloc | apply pw_below_drewN | apply below_drew1) | exact HB.out)⟩
                        · replace c37 := Bool.eq_false_iff.mpr c37
                          subst c37
                          have H1 : (some true) = some r := by rw [if_neg (show ¬ (false = true) by decide)] at H; exact H
                          clear H
                          have H := H1
                          clear H1
                          obtain rfl := Option.some.inj H
                          go_wp2_with (first | ((with_reducible refine gate_callee (f := 23) rfl ?_); refine goesL_ (some 105) rfl rfl Try.func23 (by kernel_rfl) rfl #[.slice A1 l1.length c1] rfl (by (try simp only [List.map_toArray, List.map_cons, List.map_nil]); first | done | rfl | (simp only [List.length_drop, List.length_take]; rfl)) ?_; (with_reducible refine (spec_DrawSerialLess.calls _ _ l1 t175 t176 _ ?side1 ?side2 A22.out).mono ?_); (case side1 => repeat (first | exact (Kd.C_below HR1.out HB.out) | (with_reducible refine Kd.C_alloc ?_ _) | (with_reducible refine Kd.C_drewN ?_ _) | (with_reducible refine Kd.C_drew ?_))); (case side2 => exact HC1.out); rintro e w45 ⟨rfl, hb⟩; refine ⟨_, rfl, ?_⟩; have n0_ := Aside0.mk (below_step (by repeat (first | (with_reducible first | exact HB.out | apply below_alloc | apply pw_below_drewN | apply below_drew1) | exact HB.out)) hb); clear HB; have HB := n0_; clear n0_; (try clear hb); (try clear hb2); (try clear hk); (try clear hi)) | ((with_reducible refine gate_callee (f := 19) rfl ?_); refine goesL_ (some 111) rfl rfl Try.func19 (by kernel_rfl) rfl #[.int .i64 t175, .int .i64 t176] rfl (by (try simp only [List.map_toArray, List.map_cons, List.map_nil]); first | done | rfl | (simp only [List.length_drop, List.length_take]; rfl)) ?_; (with_reducible refine (impl_SerialLess.calls t175 t176 t177 false _ A23.out).mono ?_); rintro e w' ⟨rfl, ⟨nd, rfl⟩⟩; refine ⟨_, rfl, ?_⟩) | ((with_reducible refine gate_callee (f := 18) rfl ?_); refine goesL_ (some 117) rfl rfl Try.func18 (by kernel_rfl) rfl #[.int .i64 t175, .int .i64 t176] rfl (by (try simp only [List.map_toArray, List.map_cons, List.map_nil]); first | done | rfl | (simp only [List.length_drop, List.length_take]; rfl)) ?_; (with_reducible refine (spec_SerialLess.calls kj10 t175 t176 t179 t180 _ A24.out).mono ?_); rintro e w' ⟨rfl, ⟨nd, rfl⟩⟩; refine ⟨_, rfl, ?_⟩) | ((with_reducible refine gate_callee (f := 19) rfl ?_); refine goesL_ (some 123) rfl rfl Try.func19 (by kernel_rfl) rfl #[.int .i64 t176, .int .i64 t175] rfl (by (try simp only [List.map_toArray, List.map_cons, List.map_nil]); first | done | rfl | (simp only [List.length_drop, List.length_take]; rfl)) ?_; (with_reducible refine (impl_SerialLess.calls t176 t175 t181 t182 _ A25.out).mono ?_); rintro e w' ⟨rfl, ⟨nd, rfl⟩⟩; refine ⟨_, rfl, ?_⟩) | ((with_reducible refine gate_callee (f := 17) rfl ?_); refine goesL_ (some 129) rfl rfl Try.func17 (by kernel_rfl) rfl #[.int .i64 t175, .int .i64 t176] rfl (by (try simp only [List.map_toArray, List.map_cons, List.map_nil]); first | done | rfl | (simp only [List.length_drop, List.length_take]; rfl)) ?_; (with_reducible refine (impl_StepsBetween.calls t175 t176 t183 t184 _ A26.out).mono ?_); rintro e w' ⟨rfl, ⟨nd, rfl⟩⟩; refine ⟨_, rfl, ?_⟩) | ((with_reducible refine gate_callee (f := 16) rfl ?_); refine goesL_ (some 135) rfl rfl Try.func16 (by kernel_rfl) rfl #[.int .i64 t175, .int .i64 t176] rfl (by (try simp only [List.map_toArray, List.map_cons, List.map_nil]); first | done | rfl | (simp only [List.length_drop, List.length_take]; rfl)) ?_; (with_reducible refine (spec_StepsBetween.calls t175 t176 t185 t186 _ A27.out).mono ?_); rintro e w' ⟨rfl, ⟨nd, rfl⟩⟩; refine ⟨_, rfl, ?_⟩))
                          go_ret
                          exact ⟨by first | rfl | (simp [errW_none, errW_some] <;> rfl) | (simp [*, errW_none, errW_some] <;> rfl), by repeat (first | (with_reducible first | exact HB.out | apply below_alloc | apply pw_below_drewN | apply below_drew1) | exact HB.out)⟩
                      · rw [if_neg c36] at H
                        have c36b0 : (t183 == t185) = false := beq_eq_false_iff_ne.mpr c36
                        have c36b1 : (t183 != t185) = true := bne_iff_ne.mpr c36
                        obtain rfl := Option.some.inj H
                        go_wp2_with (first | ((with_reducible refine gate_callee (f := 23) rfl ?_); refine goesL_ (some 105) rfl rfl Try.func23 (by kernel_rfl) rfl #[.slice A1 l1.length c1] rfl (by (try simp only [List.map_toArray, List.map_cons, List.map_nil]); first | done | rfl | (simp only [List.length_drop, List.length_take]; rfl)) ?_; (with_reducible refine (spec_DrawSerialLess.calls _ _ l1 t175 t176 _ ?side1 ?side2 A22.out).mono ?_); (case side1 => repeat (first | exact (Kd.C_below HR1.out HB.out) | (with_reducible refine Kd.C_alloc ?_ _) | (with_reducible refine Kd.C_drewN ?_ _) | (with_reducible refine Kd.C_drew ?_))); (case side2 => exact HC1.out); rintro e w46 ⟨rfl, hb⟩; refine ⟨_, rfl, ?_⟩; have n0_ := Aside0.mk (below_step (by repeat (first | (with_reducible first | exact HB.out | apply below_alloc | apply pw_below_drewN | apply below_drew1) | exact HB.out)) hb); clear HB; have HB := n0_; clear n0_; (try clear hb); (try clear hb2); (try clear hk); (try clear hi)) | ((with_reducible refine gate_callee (f := 19) rfl ?_); refine goesL_ (some 111) rfl rfl Try.func19 (by kernel_rfl) rfl #[.int .i64 t175, .int .i64 t176] rfl (by (try simp only [List.map_toArray, List.map_cons, List.map_nil]); first | done | rfl | (simp only [List.length_drop, List.length_take]; rfl)) ?_; (with_reducible refine (impl_SerialLess.calls t175 t176 t177 t178 _ A23.out).mono ?_); rintro e w' ⟨rfl, ⟨nd, rfl⟩⟩; refine ⟨_, rfl, ?_⟩) | ((with_reducible refine gate_callee (f := 18) rfl ?_); refine goesL_ (some 117) rfl rfl Try.func18 (by kernel_rfl) rfl #[.int .i64 t175, .int .i64 t176] rfl (by (try simp only [List.map_toArray, List.map_cons, List.map_nil]); first | done | rfl | (simp only [List.length_drop, List.length_take]; rfl)) ?_; (with_reducible refine (spec_SerialLess.calls kj10 t175 t176 t179 t180 _ A24.out).mono ?_); rintro e w' ⟨rfl, ⟨nd, rfl⟩⟩; refine ⟨_, rfl, ?_⟩) | ((with_reducible refine gate_callee (f := 19) rfl ?_); refine goesL_ (some 123) rfl rfl Try.func19 (by kernel_rfl) rfl #[.int .i64 t176, .int .i64 t175] rfl (by (try simp only [List.map_toArray, List.map_cons, List.map_nil]); first | done | rfl | (simp only [List.length_drop, List.length_take]; rfl)) ?_; (with_reducible refine (impl_SerialLess.calls t176 t175 t181 t182 _ A25.out).mono ?_); rintro e w' ⟨rfl, ⟨nd, rfl⟩⟩; refine ⟨_, rfl, ?_⟩) | ((with_reducible refine gate_callee (f := 17) rfl ?_); refine goesL_ (some 129) rfl rfl Try.func17 (by kernel_rfl) rfl #[.int .i64 t175, .int .i64 t176] rfl (by (try simp only [List.map_toArray, List.map_cons, List.map_nil]); first | done | rfl | (simp only [List.length_drop, List.length_take]; rfl)) ?_; (with_reducible refine (impl_StepsBetween.calls t175 t176 t183 t184 _ A26.out).mono ?_); rintro e w' ⟨rfl, ⟨nd, rfl⟩⟩; refine ⟨_, rfl, ?_⟩) | ((with_reducible refine gate_callee (f := 16) rfl ?_); refine goesL_ (some 135) rfl rfl Try.func16 (by kernel_rfl) rfl #[.int .i64 t175, .int .i64 t176] rfl (by (try simp only [List.map_toArray, List.map_cons, List.map_nil]); first | done | rfl | (simp only [List.length_drop, List.length_take]; rfl)) ?_; (with_reducible refine (spec_StepsBetween.calls t175 t176 t185 t186 _ A27.out).mono ?_); rintro e w' ⟨rfl, ⟨nd, rfl⟩⟩; refine ⟨_, rfl, ?_⟩))
                        go_ret
                        exact ⟨by first | rfl | (simp [errW_none, errW_some] <;> rfl) | (simp [*, errW_none, errW_some] <;> rfl), by repeat (first | (with_reducible first | exact HB.out | apply below_alloc | apply pw_below_drewN | apply below_drew1) | exact HB.out)⟩

/-- THE ONE PURE STATEMENT of laws_FnSerials: yours. -/
def laws_FnSerials.Pure : Prop := ∀ (l0 : List Int) (l1 : List Int), l0.length ≤ maxLen → l0.length * 1 ≤ 140737488351232 → (∀ x ∈ l0, (Lit.int .u8 x).wf = true) → l1.length ≤ maxLen → l1.length * 1 ≤ 140737488351232 → (∀ x ∈ l1, (Lit.int .u8 x).wf = true) → ∃ k, laws_FnSerials.f k l0 l1 = some true
theorem laws_FnSerials.walk (P : laws_FnSerials.Pure) (a0 : Option Addr) (len0 cap0 : Nat) (z0 : List Int) (a1 : Option Addr) (len1 cap1 : Nat) (z1 : List Int) (w : World) (w0 : (a0 = none ∧ len0 = 0 ∧ cap0 = 0 ∧ z0 = []) ∨ ∃ x, a0 = some x ∧ len0 ≤ cap0 ∧ cap0 ≤ maxLen ∧ z0.length = cap0 ∧ (∀ i, i < z0.length → w.cell? (x.add i) = some (.int .u8 (z0.getD i 0))) ∧ ∀ n ∈ z0, (Lit.int .u8 n).wf = true) (y0 : len0 * 1 ≤ 140737488351232) (w1 : (a1 = none ∧ len1 = 0 ∧ cap1 = 0 ∧ z1 = []) ∨ ∃ x, a1 = some x ∧ len1 ≤ cap1 ∧ cap1 ≤ maxLen ∧ z1.length = cap1 ∧ (∀ i, i < z1.length → w.cell? (x.add i) = some (.int .u8 (z1.getD i 0))) ∧ ∀ n ∈ z1, (Lit.int .u8 n).wf = true) (y1 : len1 * 1 ≤ 140737488351232) :
    Calls Try.prog 9 #[.slice a0 len0 cap0, .slice a1 len1 cap1] w fun e w' => e = .returned (.bool true) ∧ Below w.heap.size w w' := by
  obtain ⟨l0, rfl, hr0, hm0, hw0, hc0⟩ := ReadsInt.ofRowC w0
  obtain ⟨l1, rfl, hr1, hm1, hw1, hc1⟩ := ReadsInt.ofRowC w1
  obtain ⟨k, h⟩ := P l0 l1 hm0 y0 hw0 hm1 y1 hw1
  refine (laws_FnSerials.calls k _ _ l0 _ _ l1 true w (Kd.C_of_reads (d := (0 : Int)) (h1 := fun _ => rfl) hr0) hc0 (Kd.C_of_reads (d := (0 : Int)) (h1 := fun _ => rfl) hr1) hc1 h).mono ?_
  rintro e w' ⟨rfl, hd⟩
  exact ⟨rfl, hd⟩

end Go.Proofs.Ytkbhmikjnoncfaa.P

-- PureFnSerials
/- The law FnSerials answers true for all bytes. Conditions: none. -/
namespace Go.Proofs.Ytkbhmikjnoncfaa.Pure
open Go.RowKit Go.Proofs.Ytkbhmikjnoncfaa.P Go.Proofs.YtkbhmikjnoncfaaW.PrintWords Go.Proofs.YtkbhmikjnoncfaaW.PrintLast

theorem among_some {l : List Int} (hl : Bytes l) {at_ sd : Int} {n : Nat} (hc : Cur at_ n) (hn : n < 4611686018427387900) (zs : List Int) (hz : 0 < zs.length) :
    ∃ x at2 sd2, spec_l1Cur_among.f l at_ sd zs = some (x, at2, sd2) ∧ x ∈ zs ∧ Cur at2 (n + 2) := by
  unfold spec_l1Cur_among.f
  obtain ⟨i, at2, sd2, e, hi, hc2⟩ := pick_some hl hc hn (sd := sd) (zs.length : Int)
  rw [e]
  simp only [Option.bind_some]
  have hlt : i < (zs.length : Int) := by omega
  rw [if_pos hi.1, if_pos hlt]
  refine ⟨_, _, _, rfl, ?_, hc2⟩
  have h2 : i.toNat < zs.length := by omega
  rw [rd, List.getD_eq_getElem?_getD, List.getElem?_eq_getElem h2]
  exact List.getElem_mem h2

theorem serial_some {l : List Int} (hl : Bytes l) {at_ sd : Int} {n : Nat} (hc : Cur at_ n) (hn : n < 4611686018427387890) :
    ∃ x at2 sd2, spec_l1Cur_serial.f l at_ sd = some (x, at2, sd2) ∧ (-1 ≤ x ∧ x ≤ 4294967296) ∧ Cur at2 (n + 4) := by
  unfold spec_l1Cur_serial.f
  obtain ⟨i, at2, sd2, e, hi, hc2⟩ := pick_some hl hc (by omega) (sd := sd) 6
  rw [e]
  simp only [Option.bind_some]
  by_cases h0 : i = 0
  · rw [if_pos h0]
    obtain ⟨x, at3, sd3, e3, hx, hc3⟩ := among_some hl hc2 (by omega) (sd := sd2) [(-1), 0, 1, 2147483647, 2147483648, 2147483649, 4294967295, 4294967296] (by decide)
    rw [e3]
    refine ⟨_, _, _, rfl, ?_, hc3⟩
    simp only [List.mem_cons, List.not_mem_nil, or_false] at hx
    show -1 ≤ x ∧ x ≤ 4294967296
    omega
  · rw [if_neg h0]
    by_cases h1 : i = 1
    · rw [if_pos h1]
      obtain ⟨x, at3, sd3, e3, hx, hc3⟩ := pick_some hl hc2 (by omega) (sd := sd2) 9
      rw [e3]
      refine ⟨_, _, _, rfl, ?_, hc3⟩
      show -1 ≤ wrap64 (4294967295 - x) ∧ wrap64 (4294967295 - x) ≤ 4294967296
      unfold wrap64
      omega
    · rw [if_neg h1]
      obtain ⟨x, at3, sd3, e3, hx, hc3⟩ := pick_some hl hc2 (by omega) (sd := sd2) 50
      rw [e3]
      refine ⟨_, _, _, rfl, ?_, hc3⟩
      show -1 ≤ x ∧ x ≤ 4294967296
      omega

theorem drawSerialAdd_some {l : List Int} (hl : Bytes l) : ∃ r, spec_DrawSerialAdd.f l = some r := by
  unfold spec_DrawSerialAdd.f
  obtain ⟨x, at2, sd2, e, _, hc2⟩ := serial_some hl (at_ := 0) (sd := 0) (n := 0) ⟨by omega, by omega⟩ (by omega)
  rw [e]
  simp only [Option.bind_some]
  obtain ⟨y, at3, sd3, e3, _, hc3⟩ := among_some hl hc2 (by omega) (sd := sd2) [(-1), 0, 1, 5, 100, 2147483647, 2147483648] (by decide)
  rw [e3]
  exact ⟨_, rfl⟩

theorem drawSerialLess_some {l : List Int} (hl : Bytes l) : ∃ r, spec_DrawSerialLess.f l = some r := by
  unfold spec_DrawSerialLess.f
  obtain ⟨x, at2, sd2, e, _, hc2⟩ := serial_some hl (at_ := 0) (sd := 0) (n := 0) ⟨by omega, by omega⟩ (by omega)
  rw [e]
  simp only [Option.bind_some]
  obtain ⟨y, at3, sd3, e3, _, hc3⟩ := serial_some hl hc2 (by omega) (sd := sd2)
  rw [e3]
  exact ⟨_, rfl⟩

/-- The steps from a to b. -/
def stp (a b : Int) : Int := (b - a + 4294967296) % 4294967296
theorem steps_eq (a b : Int) : impl_StepsBetween.f a b = some (if isSer a = true ∧ isSer b = true then (stp a b, true) else (0, false)) := by
  unfold impl_StepsBetween.f
  rw [isSerial_eq, isSerial_eq]
  simp only [Option.bind_some]
  cases ha : isSer a
  · simp
  · cases hb : isSer b
    · simp
    · unfold isSer at ha hb
      have ha := of_decide_eq_true ha
      have hb := of_decide_eq_true hb
      have e : Int.tmod (wrap64 ((wrap64 (b - a)) + 4294967296)) 4294967296 = stp a b := by
        have h1 : wrap64 (b - a) = b - a := by unfold wrap64; omega
        have h2 : wrap64 (b - a + 4294967296) = b - a + 4294967296 := by unfold wrap64; omega
        rw [h1, h2, Int.tmod_eq_emod_of_nonneg (by omega)]
        rfl
      simp [e]
theorem specSteps_eq (a b : Int) : spec_StepsBetween.f a b = impl_StepsBetween.f a b := by
  unfold spec_StepsBetween.f impl_StepsBetween.f
  rw [l5Serial_eq, l5Serial_eq, isSerial_eq, isSerial_eq]
  rfl
theorem slP_eq (a b : Int) : slP a b = if isSer a = true ∧ isSer b = true ∧ stp a b ≠ 2147483648 then (decide (1 ≤ stp a b ∧ stp a b ≤ 2147483647), true) else (false, false) := by
  have h := serialLess_eq a b
  unfold impl_SerialLess.f at h
  rw [steps_eq] at h
  simp only [Option.bind_some] at h
  refine Option.some.inj (h.symm.trans ?_)
  clear h
  by_cases h1 : isSer a = true ∧ isSer b = true
  · rw [if_pos h1]
    by_cases h2 : stp a b = 2147483648
    · simp [h2]
    · have hw : impl_within.f (stp a b) 1 2147483647 = some (decide (1 ≤ stp a b ∧ stp a b ≤ 2147483647)) := by
        unfold impl_within.f
        by_cases h3 : stp a b ≥ 1
        · rw [if_pos h3]; congr 1; rw [decide_eq_decide]; omega
        · rw [if_neg h3]; congr 1; rw [eq_comm, decide_eq_false_iff_not]; omega
      simp [h1, h2, hw]
  · have h2 : ¬ (isSer a = true ∧ isSer b = true ∧ stp a b ≠ 2147483648) := fun h => h1 ⟨h.1, h.2.1⟩
    rw [if_neg h1, if_neg h2]
    rfl
theorem add_eq (s n : Int) : impl_SerialAdd.f s n = some (if isSer s = true ∧ 0 ≤ n ∧ n ≤ 2147483647 then ((s + n) % 4294967296, true) else (0, false)) := by
  unfold impl_SerialAdd.f
  rw [isSerial_eq]
  simp only [Option.bind_some]
  cases hs : isSer s
  · simp
  · unfold isSer at hs
    have hs := of_decide_eq_true hs
    unfold impl_within.f
    by_cases h1 : n ≥ 0
    · by_cases h2 : n ≤ 2147483647
      · have e : Int.tmod (wrap64 (s + n)) 4294967296 = (s + n) % 4294967296 := by
          have h1 : wrap64 (s + n) = s + n := by unfold wrap64; omega
          rw [h1, Int.tmod_eq_emod_of_nonneg (by omega)]
        simp [h1, h2, e]
      · simp [h1, h2]
    · have : ¬ (0 ≤ n) := by omega
      simp [this]
theorem specAdd_eq (s n : Int) : spec_SerialAdd.f s n = impl_SerialAdd.f s n := by
  unfold spec_SerialAdd.f impl_SerialAdd.f
  rw [l5Serial_eq, isSerial_eq]
  rfl

theorem serials_j1 {l : List Int} (hl : Bytes l) : Ev (fun k => laws_FnSerials.j1 k l) true := by
  obtain ⟨⟨a, b⟩, hd⟩ := drawSerialLess_some hl
  refine Ev.step (fun k => by simp only [laws_FnSerials.j1]; rw [hd]) (?_ : Ev _ _)
  simp only [serialLess_eq, specSteps_eq, steps_eq, Option.bind_some]
  refine Ev.bind (specLess_ev a b) ?_
  have h : (slP b a).2 = (slP a b).2 ∧ ((slP a b).2 = true → ((slP a b).1 = true → (slP b a).1 = false ∧ a ≠ b) ∧ ((slP a b).1 = false → (slP b a).1 = decide (a ≠ b))) := by
    rw [slP_eq, slP_eq]
    by_cases ha : isSer a = true
    · by_cases hb : isSer b = true
      · have ha' := of_decide_eq_true ha
        have hb' := of_decide_eq_true hb
        have e1 : stp b a = if stp a b = 0 then 0 else 4294967296 - stp a b := by
          by_cases h : stp a b = 0
          · rw [if_pos h]; unfold stp at h ⊢; omega
          · rw [if_neg h]; unfold stp at h ⊢; omega
        have e2 : (a = b) ↔ stp a b = 0 := by unfold stp; omega
        have e3 : 0 ≤ stp a b ∧ stp a b < 4294967296 := by unfold stp; omega
        generalize stp a b = x at e1 e2 e3 ⊢
        generalize stp b a = y at e1 ⊢
        by_cases hx : x = 2147483648
        · have hy : y = 2147483648 := by rw [e1, if_neg (by omega)]; omega
          simp [hx, hy]
        · have hy : y ≠ 2147483648 := by rw [e1]; split <;> omega
          rw [if_pos ⟨hb, ha, hy⟩, if_pos ⟨ha, hb, hx⟩]
          refine ⟨rfl, fun _ => ⟨fun h1 => ?_, fun h1 => ?_⟩⟩
          · have h1 := of_decide_eq_true h1
            refine ⟨decide_eq_false ?_, fun h => ?_⟩
            · rw [e1]; split <;> omega
            · have := e2.1 h; omega
          · have h1 := of_decide_eq_false h1
            show decide _ = decide _
            rw [decide_eq_decide]
            rw [show (a ≠ b) ↔ x ≠ 0 from not_congr e2, e1]
            split <;> omega
      · rw [if_neg (fun h => hb h.1), if_neg (fun h => hb h.2.1)]
        simp
    · rw [if_neg (fun h => ha h.2.1), if_neg (fun h => ha h.1)]
      simp
  obtain ⟨h1, h2⟩ := h
  generalize slP a b = p at h1 h2 ⊢
  generalize slP b a = q at h1 h2 ⊢
  obtain ⟨p1, p2⟩ := p
  obtain ⟨q1, q2⟩ := q
  simp only at h1 h2
  subst h1
  cases q2
  · simpa using Ev.now true
  · have h2 := h2 rfl
    cases p1
    · have h3 := h2.2 rfl
      by_cases hab : a = b
      · have : q1 = false := by rw [h3]; simp [hab]
        simpa [hab, this] using Ev.now true
      · have : q1 = true := by rw [h3]; simp [hab]
        simpa [hab, this] using Ev.now true
    · have h3 := h2.1 rfl
      have hq : q1 = false := h3.1
      simpa [h3.2, hq] using Ev.now true

theorem serials_j0 {l : List Int} (hl : Bytes l) (s n : Int) : Ev (fun k => laws_FnSerials.j0 k l s n ((if isSer s = true ∧ 0 ≤ n ∧ n ≤ 2147483647 then ((s + n) % 4294967296, true) else (0, false)) : Int × Bool).1 ((if isSer s = true ∧ 0 ≤ n ∧ n ≤ 2147483647 then ((s + n) % 4294967296, true) else (0, false)) : Int × Bool).2 false) true := by
  by_cases h : isSer s = true ∧ 0 ≤ n ∧ n ≤ 2147483647
  · rw [if_pos h]
    have hs := of_decide_eq_true h.1
    have ht : isSer ((s + n) % 4294967296) = true := decide_eq_true (by omega)
    have e1 : stp s ((s + n) % 4294967296) = n := by unfold stp; omega
    have e2 : stp ((s + n) % 4294967296) s = if n = 0 then 0 else 4294967296 - n := by
      by_cases h0 : n = 0
      · rw [if_pos h0]; unfold stp; omega
      · rw [if_neg h0]; unfold stp; omega
    have p1 : slP s ((s + n) % 4294967296) = (decide (n > 0), true) := by
      rw [slP_eq, e1, if_pos ⟨h.1, ht, by omega⟩]
      congr 1
      rw [decide_eq_decide]
      omega
    have p2 : slP ((s + n) % 4294967296) s = (false, true) := by
      rw [slP_eq, e2, if_pos ⟨ht, h.1, by split <;> omega⟩]
      congr 1
      rw [decide_eq_false_iff_not]
      split <;> omega
    refine Ev.step (f := fun k => laws_FnSerials.j1 k l) (fun k => ?_) (serials_j1 hl)
    simp only [laws_FnSerials.j0]
    rw [serialLess_eq, serialLess_eq, steps_eq, p1, p2, e1]
    have hh : isSer s = true ∧ isSer ((s + n) % 4294967296) = true := ⟨h.1, ht⟩
    simp only [Option.bind_some, if_pos hh]
    simp
  · rw [if_neg h]
    refine Ev.step (f := fun k => laws_FnSerials.j1 k l) (fun k => ?_) (serials_j1 hl)
    simp only [laws_FnSerials.j0]
    simp

theorem FnSerials : laws_FnSerials.Pure := by
  intro l0 l1 m0 _ w0 m1 _ w1
  refine Ev.rounds ?_
  by_cases h : wrap64 ((l0.length : Int) + (l1.length : Int)) > 1048576
  · refine Ev.congr (f := fun _ => some true) (fun k => ?_) (Ev.now _)
    unfold laws_FnSerials.f
    rw [if_pos h]
  · obtain ⟨⟨s, n⟩, hd⟩ := drawSerialAdd_some (bytes_of w0)
    refine Ev.congr (fun k => ?_) (serials_j0 (bytes_of w1) s n)
    unfold laws_FnSerials.f
    rw [if_neg h, hd]
    simp only [Option.bind_some]
    rw [specAdd_eq, add_eq]
    simp

end Go.Proofs.Ytkbhmikjnoncfaa.Pure

-- F8
-- By my own call of the kit's print (wip/tools/pp.py).
namespace Go.Proofs.Ytkbhmikjnoncfaa.P
open Go.RowKit Go.Proofs.YtkbhmikjnoncfaaW.PrintWords Go.Proofs.YtkbhmikjnoncfaaW.PrintLast Go.Proofs.YtkbhmikjnoncfaaW.PrintMore
attribute [local go_sem] max2_int min2_int max_two min_two max_three min_three max_four min_four
set_option linter.unusedVariables false
set_option linter.unusedSimpArgs false

/-! ### laws_FnExactCounterFor: function 8 -/
def laws_FnExactCounterFor.f (k : Nat) (a0 : Int) (a1 : Int) : Option (Bool) := (spec_CounterFor.f k a0 a1).bind fun bt299 => ((impl_CounterFor.f k a0 a1).bind fun bt301 => (if bt301.1 = bt299.1 then (if (bt301.2 != bt299.2) = true then (some false) else (some true)) else (some false)))
theorem laws_FnExactCounterFor.mono : ∀ a0 a1 k, LeO (laws_FnExactCounterFor.f k a0 a1) (laws_FnExactCounterFor.f (k + 1) a0 a1) := by
  intro a0 a1 k
  unfold laws_FnExactCounterFor.f
  repeat' first
      | (with_reducible exact impl_CounterFor.mono _ _ _)
      | (with_reducible exact spec_CounterFor.mono _ _ _)
      | (with_reducible exact LeO.refl _)
      | (with_reducible exact LeO.none _)
      | (with_reducible refine LeO.ite ?_ ?_)
      | (with_reducible refine LeO.bind ?_ (fun _ => ?_))
      | exact impl_CounterFor.mono _ _ _
      | exact spec_CounterFor.mono _ _ _
      | exact LeO.none _
      | refine LeO.ite ?_ ?_
      | refine LeO.bind ?_ (fun _ => ?_)
set_option maxHeartbeats 8000000 in
set_option maxRecDepth 100000 in
theorem laws_FnExactCounterFor.calls (k : Nat) (a0 : Int) (a1 : Int) (r : Bool) (w : World) (h : laws_FnExactCounterFor.f k a0 a1 = some r) :
    Calls Try.prog 8 #[.int .i64 a0, .int .i64 a1] w fun e w' => e = .returned (.bool r) ∧ Below w.heap.size w w' := by
  have HB := Aside0.mk (Below.refl w.heap.size w)
  have H : ((spec_CounterFor.f k a0 a1).bind fun bt299 => ((impl_CounterFor.f k a0 a1).bind fun bt301 => (if bt301.1 = bt299.1 then (if (bt301.2 != bt299.2) = true then (some false) else (some true)) else (some false)))) = some r := h
  clear h
  replace H := Option.bind_eq_some_iff.mp H
  obtain ⟨⟨t299, t300⟩, A30, H⟩ := H
  replace H : ((impl_CounterFor.f k a0 a1).bind fun bt301 => (if bt301.1 = t299 then (if (bt301.2 != t300) = true then (some false) else (some true)) else (some false))) = some r := H
  have A3 := Aside0.mk A30
  clear A30
  replace H := Option.bind_eq_some_iff.mp H
  obtain ⟨⟨t301, t302⟩, A40, H⟩ := H
  replace H : (if t301 = t299 then (if (t302 != t300) = true then (some false) else (some true)) else (some false)) = some r := H
  have A4 := Aside0.mk A40
  clear A40
  by_cases c5 : t301 = t299
  · rw [if_pos c5] at H
    have c5b0 : (t301 == t299) = true := beq_iff_eq.mpr c5
    have c5b1 : (t301 != t299) = false := bne_eq_false_iff_eq.mpr c5
    clear c5
    by_cases c6 : (t302 != t300) = true
    · rw [if_pos c6] at H
      have c6b0 : (t302 != t300) = true := c6
      (try (have c6b1 : decide (t302 = t300) = false := by simpa using c6))
      (try (have c6b2 : (t302 == t300) = false := by simpa using c6))
      (try (have c6b3 : ¬ (t302 = t300) := by simpa using c6))
      clear c6
      obtain rfl := Option.some.inj H
      go_enter Try.func8, Try.ntmps8
      go_wp2_with (first | ((with_reducible refine gate_callee (f := 20) rfl ?_); refine goesL_ (some 12) rfl rfl Try.func20 (by kernel_rfl) rfl #[.int .i64 a0, .int .i64 a1] rfl (by (try simp only [List.map_toArray, List.map_cons, List.map_nil]); first | done | rfl | (simp only [List.length_drop, List.length_take]; rfl)) ?_; (with_reducible refine (spec_CounterFor.calls k a0 a1 t299 t300 _ A3.out).mono ?_); rintro e w7 ⟨rfl, hb⟩; refine ⟨_, rfl, ?_⟩; have n0_ := Aside0.mk (below_step (by repeat (first | (with_reducible first | exact HB.out | apply below_alloc | apply pw_below_drewN | apply below_drew1) | exact HB.out)) hb); clear HB; have HB := n0_; clear n0_; (try clear hb); (try clear hb2); (try clear hk); (try clear hi)) | ((with_reducible refine gate_callee (f := 21) rfl ?_); refine goesL_ (some 18) rfl rfl Try.func21 (by kernel_rfl) rfl #[.int .i64 a0, .int .i64 a1] rfl (by (try simp only [List.map_toArray, List.map_cons, List.map_nil]); first | done | rfl | (simp only [List.length_drop, List.length_take]; rfl)) ?_; (with_reducible refine (impl_CounterFor.calls k a0 a1 t301 t302 _ A4.out).mono ?_); rintro e w8 ⟨rfl, hb⟩; refine ⟨_, rfl, ?_⟩; have n0_ := Aside0.mk (below_step (by repeat (first | (with_reducible first | exact HB.out | apply below_alloc | apply pw_below_drewN | apply below_drew1) | exact HB.out)) hb); clear HB; have HB := n0_; clear n0_; (try clear hb); (try clear hb2); (try clear hk); (try clear hi)))
      go_ret
      exact ⟨by first | rfl | (simp [errW_none, errW_some] <;> rfl) | (simp [*, errW_none, errW_some] <;> rfl), by repeat (first | (with_reducible first | exact HB.out | apply below_alloc | apply pw_below_drewN | apply below_drew1) | exact HB.out)⟩
    · rw [if_neg c6] at H
      have c6b0 : (t302 != t300) = false := by simpa using c6
      (try (have c6b1 : decide (t302 = t300) = true := by simpa using c6))
      (try (have c6b2 : (t302 == t300) = true := by simpa using c6))
      clear c6
      obtain rfl := Option.some.inj H
      go_enter Try.func8, Try.ntmps8
      go_wp2_with (first | ((with_reducible refine gate_callee (f := 20) rfl ?_); refine goesL_ (some 12) rfl rfl Try.func20 (by kernel_rfl) rfl #[.int .i64 a0, .int .i64 a1] rfl (by (try simp only [List.map_toArray, List.map_cons, List.map_nil]); first | done | rfl | (simp only [List.length_drop, List.length_take]; rfl)) ?_; (with_reducible refine (spec_CounterFor.calls k a0 a1 t299 t300 _ A3.out).mono ?_); rintro e w9 ⟨rfl, hb⟩; refine ⟨_, rfl, ?_⟩; have n0_ := Aside0.mk (below_step (by repeat (first | (with_reducible first | exact HB.out | apply below_alloc | apply pw_below_drewN | apply below_drew1) | exact HB.out)) hb); clear HB; have HB := n0_; clear n0_; (try clear hb); (try clear hb2); (try clear hk); (try clear hi)) | ((with_reducible refine gate_callee (f := 21) rfl ?_); refine goesL_ (some 18) rfl rfl Try.func21 (by kernel_rfl) rfl #[.int .i64 a0, .int .i64 a1] rfl (by (try simp only [List.map_toArray, List.map_cons, List.map_nil]); first | done | rfl | (simp only [List.length_drop, List.length_take]; rfl)) ?_; (with_reducible refine (impl_CounterFor.calls k a0 a1 t301 t302 _ A4.out).mono ?_); rintro e w10 ⟨rfl, hb⟩; refine ⟨_, rfl, ?_⟩; have n0_ := Aside0.mk (below_step (by repeat (first | (with_reducible first | exact HB.out | apply below_alloc | apply pw_below_drewN | apply below_drew1) | exact HB.out)) hb); clear HB; have HB := n0_; clear n0_; (try clear hb); (try clear hb2); (try clear hk); (try clear hi)))
      go_ret
      exact ⟨by first | rfl | (simp [errW_none, errW_some] <;> rfl) | (simp [*, errW_none, errW_some] <;> rfl), by repeat (first | (with_reducible first | exact HB.out | apply below_alloc | apply pw_below_drewN | apply below_drew1) | exact HB.out)⟩
  · rw [if_neg c5] at H
    have c5b0 : (t301 == t299) = false := beq_eq_false_iff_ne.mpr c5
    have c5b1 : (t301 != t299) = true := bne_iff_ne.mpr c5
    obtain rfl := Option.some.inj H
    go_enter Try.func8, Try.ntmps8
    go_wp2_with (first | ((with_reducible refine gate_callee (f := 20) rfl ?_); refine goesL_ (some 12) rfl rfl Try.func20 (by kernel_rfl) rfl #[.int .i64 a0, .int .i64 a1] rfl (by (try simp only [List.map_toArray, List.map_cons, List.map_nil]); first | done | rfl | (simp only [List.length_drop, List.length_take]; rfl)) ?_; (with_reducible refine (spec_CounterFor.calls k a0 a1 t299 t300 _ A3.out).mono ?_); rintro e w11 ⟨rfl, hb⟩; refine ⟨_, rfl, ?_⟩; have n0_ := Aside0.mk (below_step (by repeat (first | (with_reducible first | exact HB.out | apply below_alloc | apply pw_below_drewN | apply below_drew1) | exact HB.out)) hb); clear HB; have HB := n0_; clear n0_; (try clear hb); (try clear hb2); (try clear hk); (try clear hi)) | ((with_reducible refine gate_callee (f := 21) rfl ?_); refine goesL_ (some 18) rfl rfl Try.func21 (by kernel_rfl) rfl #[.int .i64 a0, .int .i64 a1] rfl (by (try simp only [List.map_toArray, List.map_cons, List.map_nil]); first | done | rfl | (simp only [List.length_drop, List.length_take]; rfl)) ?_; (with_reducible refine (impl_CounterFor.calls k a0 a1 t301 t302 _ A4.out).mono ?_); rintro e w12 ⟨rfl, hb⟩; refine ⟨_, rfl, ?_⟩; have n0_ := Aside0.mk (below_step (by repeat (first | (with_reducible first | exact HB.out | apply below_alloc | apply pw_below_drewN | apply below_drew1) | exact HB.out)) hb); clear HB; have HB := n0_; clear n0_; (try clear hb); (try clear hb2); (try clear hk); (try clear hi)))
    go_ret
    exact ⟨by first | rfl | (simp [errW_none, errW_some] <;> rfl) | (simp [*, errW_none, errW_some] <;> rfl), by repeat (first | (with_reducible first | exact HB.out | apply below_alloc | apply pw_below_drewN | apply below_drew1) | exact HB.out)⟩

/-- THE ONE PURE STATEMENT of laws_FnExactCounterFor: yours. -/
def laws_FnExactCounterFor.Pure : Prop := ∀ (a0 : Int) (a1 : Int), (Lit.int .i64 a0).wf = true → (Lit.int .i64 a1).wf = true → ∃ k, laws_FnExactCounterFor.f k a0 a1 = some true
theorem laws_FnExactCounterFor.walk (P : laws_FnExactCounterFor.Pure) (a0 : Int) (a1 : Int) (w : World) (w0 : (Lit.int .i64 a0).wf = true) (w1 : (Lit.int .i64 a1).wf = true) :
    Calls Try.prog 8 #[.int .i64 a0, .int .i64 a1] w fun e w' => e = .returned (.bool true) ∧ Below w.heap.size w w' := by
  obtain ⟨k, h⟩ := P a0 a1 w0 w1
  refine (laws_FnExactCounterFor.calls k a0 a1 true w h).mono ?_
  rintro e w' ⟨rfl, hd⟩
  exact ⟨rfl, hd⟩

end Go.Proofs.Ytkbhmikjnoncfaa.P

-- PureFnExactCounterFor
/- The law FnExactCounterFor answers true for all integers. Conditions: none. -/
namespace Go.Proofs.Ytkbhmikjnoncfaa.Pure
open Go.RowKit Go.Proofs.Ytkbhmikjnoncfaa.P Go.Proofs.YtkbhmikjnoncfaaW.PrintWords Go.Proofs.YtkbhmikjnoncfaaW.PrintLast

theorem cf_gap (a1 x : Int) (n0 : 0 ≤ a1) (n1 : a1 ≤ 1152921504606846976) (h0 : -1 ≤ x) (h1 : x ≤ 2305843009213693952) : spec_l5Gap.f x a1 = some (mx (wrap64 (x - a1)) (wrap64 (a1 - x))) := by
  have u1 : wrap64 (x - a1) = x - a1 := by unfold wrap64; omega
  have u2 : wrap64 (a1 - x) = a1 - x := by unfold wrap64; omega
  unfold spec_l5Gap.f
  rw [u1, u2]
  unfold mx
  by_cases hx : x < a1
  · rw [if_pos hx]; congr 1; omega
  · rw [if_neg hx]; congr 1; omega

theorem cf_val (x : Int) : impl_isCounter.f x = some (decide (0 ≤ x ∧ x ≤ 1152921504606846976)) := by
  unfold impl_isCounter.f impl_within.f
  by_cases hx : x ≥ 0
  · simp [hx]
  · have : ¬ 0 ≤ x := by omega
    simp [this]

theorem cf_same (x : Int) : spec_l1In.f x 0 1152921504606846976 = impl_isCounter.f x := by
  unfold spec_l1In.f impl_isCounter.f impl_within.f
  by_cases hx : x ≥ 0 <;> simp [hx]

theorem cf_loop (a1 : Int) (n0 : 0 ≤ a1) (n1 : a1 ≤ 1152921504606846976) (b : Int) (k : Nat) : ∀ (x7 i : Int), -1 ≤ x7 → x7 ≤ 1152921504606846976 → 0 ≤ i → i ≤ 3 → (i < 3 → x7 < 0 ∨ x7 < rd [b - 4294967296, b, b + 4294967296] i) →
    spec_CounterFor.l0 k a1 x7 [b - 4294967296, b, b + 4294967296] 3 i = impl_CounterFor.l0 k a1 x7 [b - 4294967296, b, b + 4294967296] 3 i := by
  induction k with
  | zero => intros; rfl
  | succ k ih =>
    intro x7 i h0 h1 i0 i3 hb
    simp only [spec_CounterFor.l0, impl_CounterFor.l0]
    by_cases hi : i < 3
    · have hl : i < (([b - 4294967296, b, b + 4294967296] : List Int).length : Int) := by simpa using hi
      have hw : wrap64 (i + 1) = i + 1 := by unfold wrap64; omega
      rw [if_pos hi, if_pos i0, if_pos hl, if_pos hi, if_pos i0, if_pos hl, hw, cf_same, cf_val]
      simp only [Option.bind_some]
      have hnext : ∀ y : Int, y = rd [b - 4294967296, b, b + 4294967296] i ∨ y = x7 → i + 1 < 3 → y < 0 ∨ y < rd [b - 4294967296, b, b + 4294967296] (i + 1) := by
        intro y hy hi1
        have hb := hb hi
        have r0 : rd [b - 4294967296, b, b + 4294967296] 0 = b - 4294967296 := rfl
        have r1 : rd [b - 4294967296, b, b + 4294967296] 1 = b := rfl
        have r2 : rd [b - 4294967296, b, b + 4294967296] 2 = b + 4294967296 := rfl
        have hcase : i = 0 ∨ i = 1 := by omega
        rcases hcase with rfl | rfl
        · rw [r0] at hb hy; show _ ∨ y < rd _ 1; rw [r1]; omega
        · rw [r1] at hb hy; show _ ∨ y < rd _ 2; rw [r2]; omega
      generalize hc : rd [b - 4294967296, b, b + 4294967296] i = c at hb hnext ⊢
      by_cases hcc : 0 ≤ c ∧ c ≤ 1152921504606846976
      · simp only [decide_eq_true hcc, if_true]
        have take := ih c (i + 1) (by omega) (by omega) (by omega) (by omega) (hnext c (.inl rfl))
        have keep := ih x7 (i + 1) h0 h1 (by omega) (by omega) (hnext x7 (.inr rfl))
        by_cases hn : x7 < 0
        · rw [if_pos hn, if_pos hn]; exact take
        · rw [if_neg hn, if_neg hn, cf_gap a1 c n0 n1 (by omega) (by omega), cf_gap a1 x7 n0 n1 (by omega) (by omega)]
          simp only [Option.bind_some]
          by_cases hg : mx (wrap64 (c - a1)) (wrap64 (a1 - c)) < mx (wrap64 (x7 - a1)) (wrap64 (a1 - x7))
          · rw [if_pos hg, if_pos hg]; exact take
          · have hlt : ¬ c < x7 := by have := hb hi; omega
            rw [if_neg hg, if_neg hg, if_neg hlt]
            split <;> exact keep
      · simp only [decide_eq_false hcc]
        rw [if_neg (by decide), if_neg (by decide)]
        exact ih x7 (i + 1) h0 h1 (by omega) (by omega) (hnext x7 (.inr rfl))
    · rw [if_neg hi, if_neg hi]

theorem cf_ends (a1 : Int) (b : Int) (k : Nat) : ∀ (x7 i : Int), 0 ≤ i → i ≤ 3 → 3 - i < k → ∃ r, impl_CounterFor.l0 k a1 x7 [b - 4294967296, b, b + 4294967296] 3 i = some r := by
  induction k with
  | zero => intro x7 i h0 h3 h; omega
  | succ k ih =>
    intro x7 i i0 i3 hk
    simp only [impl_CounterFor.l0]
    by_cases hi : i < 3
    · have hl : i < (([b - 4294967296, b, b + 4294967296] : List Int).length : Int) := by simpa using hi
      have hw : wrap64 (i + 1) = i + 1 := by unfold wrap64; omega
      rw [if_pos hi, if_pos i0, if_pos hl, hw, cf_val]
      simp only [Option.bind_some]
      split
      · split
        · exact ih _ _ (by omega) (by omega) (by omega)
        · split <;> exact ih _ _ (by omega) (by omega) (by omega)
      · exact ih _ _ (by omega) (by omega) (by omega)
    · rw [if_neg hi]; exact ⟨_, rfl⟩

theorem cf_both (a0 a1 : Int) : ∃ r, spec_CounterFor.f 6 a0 a1 = some r ∧ impl_CounterFor.f 6 a0 a1 = some r := by
  have S1 : spec_l5Serial.f a0 = impl_isSerial.f a0 := by
    unfold spec_l5Serial.f spec_l1In.f impl_isSerial.f impl_within.f; rfl
  have I1 : impl_isSerial.f a0 = some (decide (0 ≤ a0 ∧ a0 ≤ 4294967295)) := by
    unfold impl_isSerial.f impl_within.f
    by_cases hx : a0 ≥ 0
    · simp [hx]
    · have : ¬ 0 ≤ a0 := by omega
      simp [this]
  have hno : spec_CounterFor.j0 6 a0 a1 true = some (0, false) := rfl
  have hno' : impl_CounterFor.j0 6 a0 a1 true = some (0, false) := rfl
  unfold spec_CounterFor.f impl_CounterFor.f
  rw [S1, I1, cf_same, cf_val]
  simp only [Option.bind_some]
  by_cases hs : 0 ≤ a0 ∧ a0 ≤ 4294967295
  · by_cases hn : 0 ≤ a1 ∧ a1 ≤ 1152921504606846976
    · simp only [decide_eq_true hs, decide_eq_true hn, if_true, Bool.not_true]
      obtain ⟨s0, s1⟩ := hs
      obtain ⟨n0, n1⟩ := hn
      simp only [spec_CounterFor.j0, impl_CounterFor.j0, Option.bind_some, Bool.false_eq_true, if_false]
      have ht : Int.tmod a1 4294967296 = a1 % 4294967296 := Int.tmod_eq_emod_of_nonneg n0
      have e0 : wrap64 (a1 - a1 % 4294967296) = a1 - a1 % 4294967296 := by unfold wrap64; omega
      have e1 : wrap64 (a1 - a1 % 4294967296 + a0) = a1 - a1 % 4294967296 + a0 := by unfold wrap64; omega
      have e2 : wrap64 (a1 - a1 % 4294967296 + a0 - 4294967296) = a1 - a1 % 4294967296 + a0 - 4294967296 := by unfold wrap64; omega
      have e3 : wrap64 (a1 - a1 % 4294967296 + a0 + 4294967296) = a1 - a1 % 4294967296 + a0 + 4294967296 := by unfold wrap64; omega
      rw [ht, e0, e1, e2, e3]
      have hl := cf_loop a1 n0 n1 (a1 - a1 % 4294967296 + a0) 5 (-1) 0 (by omega) (by omega) (by omega) (by omega) (fun _ => .inl (by omega))
      obtain ⟨r, hr⟩ := cf_ends a1 (a1 - a1 % 4294967296 + a0) 5 (-1) 0 (by omega) (by omega) (by omega)
      have h3 : (([a1 - a1 % 4294967296 + a0 - 4294967296, a1 - a1 % 4294967296 + a0, a1 - a1 % 4294967296 + a0 + 4294967296] : List Int).length : Int) = 3 := rfl
      rw [h3, hl, hr]
      exact ⟨r, rfl, rfl⟩
    · simp only [decide_eq_true hs, decide_eq_false hn, if_true, Bool.not_false, hno, hno']
      exact ⟨_, rfl, rfl⟩
  · simp only [decide_eq_false hs, Bool.false_eq_true, if_false, hno, hno']
    exact ⟨_, rfl, rfl⟩

theorem FnExactCounterFor : laws_FnExactCounterFor.Pure := by
  intro a0 a1 _ _
  refine ⟨6, ?_⟩
  obtain ⟨r, h1, h2⟩ := cf_both a0 a1
  unfold laws_FnExactCounterFor.f
  rw [h1, h2]
  simp

end Go.Proofs.Ytkbhmikjnoncfaa.Pure

-- PureFnCounters
/- The law FnCounters answers true for all bytes. Conditions: none. -/
namespace Go.Proofs.Ytkbhmikjnoncfaa.Pure
open Go.RowKit Go.Proofs.Ytkbhmikjnoncfaa.P Go.Proofs.YtkbhmikjnoncfaaW.PrintWords Go.Proofs.YtkbhmikjnoncfaaW.PrintLast

theorem counter_some {l : List Int} (hl : Bytes l) {at_ sd : Int} {n : Nat} (hc : Cur at_ n) (hn : n < 4611686018427387890) :
    ∃ x at2 sd2, spec_l1Cur_counter.f l at_ sd = some (x, at2, sd2) ∧ Cur at2 (n + 4) := by
  unfold spec_l1Cur_counter.f
  obtain ⟨i, at2, sd2, e, hi, hc2⟩ := pick_some hl hc (by omega) (sd := sd) 5
  rw [e]
  simp only [Option.bind_some]
  by_cases h0 : i = 0
  · rw [if_pos h0]
    obtain ⟨x, at3, sd3, e3, hx, hc3⟩ := among_some hl hc2 (by omega) (sd := sd2) [(-1), 0, 1152921504606846976, 1152921504606846977, 4294967296, 4294967295] (by decide)
    rw [e3]
    exact ⟨_, _, _, rfl, hc3⟩
  · rw [if_neg h0]
    by_cases h1 : i = 1
    · rw [if_pos h1]
      obtain ⟨x, at3, sd3, e3, hx, hc3⟩ := pick_some hl hc2 (by omega) (sd := sd2) 100
      rw [e3]
      exact ⟨_, _, _, rfl, hc3⟩
    · rw [if_neg h1]
      obtain ⟨x, at3, sd3, e3, hx, hc3⟩ := pick_some hl hc2 (by omega) (sd := sd2) 1000
      rw [e3]
      exact ⟨_, _, _, rfl, hc3⟩

theorem drawSerialOf_some {l : List Int} (hl : Bytes l) : ∃ r, spec_DrawSerialOf.f l = some r := by
  unfold spec_DrawSerialOf.f
  obtain ⟨x, at2, sd2, e, _⟩ := counter_some hl (at_ := 0) (sd := 0) (n := 0) ⟨by omega, by omega⟩ (by omega)
  rw [e]
  exact ⟨_, rfl⟩

theorem drawCounterFor_some {l : List Int} (hl : Bytes l) : ∃ r, spec_DrawCounterFor.f l = some r := by
  unfold spec_DrawCounterFor.f
  obtain ⟨x, at2, sd2, e, _, hc2⟩ := serial_some hl (at_ := 0) (sd := 0) (n := 0) ⟨by omega, by omega⟩ (by omega)
  rw [e]
  simp only [Option.bind_some]
  obtain ⟨y, at3, sd3, e3, hc3⟩ := counter_some hl hc2 (by omega) (sd := sd2)
  rw [e3]
  exact ⟨_, rfl⟩

theorem one_some {l : List Int} (hl : Bytes l) {at_ sd : Int} {n : Nat} (hc : Cur at_ n) (hn : n < 4611686018427387900) (m : Int) :
    ∃ b at2 sd2, spec_l1Cur_one.f l at_ sd m = some (b, at2, sd2) ∧ Cur at2 (n + 2) := by
  unfold spec_l1Cur_one.f
  obtain ⟨i, at2, sd2, e, hi, hc2⟩ := pick_some hl hc hn (sd := sd) m
  rw [e]
  exact ⟨_, _, _, rfl, hc2⟩

theorem drawNewest_loop {l : List Int} (hl : Bytes l) (x5 : Int) (d : Nat) : ∀ (x4 : List Int) (x6 at_ sd : Int) (n : Nat), x6 = d ∨ d = 0 ∧ x6 ≤ 0 → x4.length + d ≤ 100 → n + d * 6 ≤ 1000 → Cur at_ n →
    ∃ r, Ev (fun k => spec_DrawNewestOf.l0 k x4 x5 x6 l at_ sd) r ∧ r.length ≤ 100 := by
  induction d with
  | zero =>
    intro x4 x6 at_ sd n h6 _ _ _
    refine ⟨x4, Ev.step (f := fun _ => some x4) (fun k => ?_) (Ev.now _), by omega⟩
    simp only [spec_DrawNewestOf.l0]
    rw [if_neg (by omega)]
  | succ d ih =>
    intro x4 x6 at_ sd n h6 h4 hn hc
    obtain ⟨b, at2, sd2, e, hc2⟩ := one_some hl hc (by omega) (sd := sd) 12
    have hw : wrap64 (x6 - 1) = x6 - 1 := by unfold wrap64; omega
    cases b with
    | true =>
      obtain ⟨v, at3, sd3, e3, _, hc3⟩ := serial_some hl hc2 (by omega) (sd := sd2)
      obtain ⟨r, hr, hlen⟩ := ih (x4 ++ [v]) (x6 - 1) at3 sd3 (n + 2 + 4) (by omega) (by simp; omega) (by omega) hc3
      refine ⟨r, Ev.step (fun k => ?_) hr, hlen⟩
      simp only [spec_DrawNewestOf.l0]
      rw [if_pos (by omega), e]
      simp only [Option.bind_some, if_true]
      rw [e3]
      simp only [Option.bind_some]
      rw [if_pos (by omega), hw]
    | false =>
      obtain ⟨v, at3, sd3, e3, _, hc3⟩ := pick_some hl hc2 (by omega) (sd := sd2) 20
      obtain ⟨r, hr, hlen⟩ := ih (x4 ++ [Int.tmod (wrap64 ((wrap64 (x5 + v)) + 4294967296)) 4294967296]) (x6 - 1) at3 sd3 (n + 2 + 4) (by omega) (by simp; omega) (by omega) ⟨hc3.1, by have := hc3.2; omega⟩
      refine ⟨r, Ev.step (fun k => ?_) hr, hlen⟩
      simp only [spec_DrawNewestOf.l0]
      rw [if_pos (by omega), e]
      simp only [Option.bind_some, Bool.false_eq_true, if_false]
      rw [e3]
      simp only [Option.bind_some]
      rw [if_pos (by omega), hw]

theorem drawNewest_some {l : List Int} (hl : Bytes l) : ∃ r, Ev (fun k => spec_DrawNewestOf.f k l) r ∧ r.length ≤ 100 := by
  obtain ⟨x, at2, sd2, e, _, hc2⟩ := serial_some hl (at_ := 0) (sd := 0) (n := 0) ⟨by omega, by omega⟩ (by omega)
  obtain ⟨y, at3, sd3, e3, hy, hc3⟩ := pick_some hl hc2 (by omega) (sd := sd2) 6
  obtain ⟨b, at4, sd4, e4, hc4⟩ := one_some hl hc3 (by omega) (sd := sd3) 30
  have jl : ∀ x4 x6 at_ sd, (∃ r, Ev (fun k => spec_DrawNewestOf.l0 k x4 x x6 l at_ sd) r ∧ r.length ≤ 100) → ∃ r, Ev (fun k => spec_DrawNewestOf.j0 k x4 x x6 l at_ sd) r ∧ r.length ≤ 100 :=
    fun x4 x6 at_ sd ⟨r, hr, hlen⟩ => ⟨r, Ev.step (fun k => by simp only [spec_DrawNewestOf.j0]) hr, hlen⟩
  cases b with
  | true =>
    obtain ⟨z, at5, sd5, e5, hz, hc5⟩ := pick_some hl hc4 (by omega) (sd := sd4) 2
    have hw : wrap64 (20 + z) = 20 + z := by unfold wrap64; omega
    obtain ⟨r, hr, hlen⟩ := jl [] (20 + z) at5 sd5 (drawNewest_loop hl x (20 + z).toNat [] (20 + z) at5 sd5 _ (by omega) (by simp; omega) (by omega) hc5)
    refine ⟨r, Ev.congr (fun k => ?_) hr, hlen⟩
    unfold spec_DrawNewestOf.f
    rw [e]
    simp only [Option.bind_some]
    rw [e3]
    simp only [Option.bind_some]
    rw [e4]
    simp only [Option.bind_some, if_true]
    rw [e5]
    simp only [Option.bind_some]
    rw [hw]
  | false =>
    obtain ⟨r, hr, hlen⟩ := jl [] y at4 sd4 (drawNewest_loop hl x y.toNat [] y at4 sd4 _ (by omega) (by simp; omega) (by omega) hc4)
    refine ⟨r, Ev.congr (fun k => ?_) hr, hlen⟩
    unfold spec_DrawNewestOf.f
    rw [e]
    simp only [Option.bind_some]
    rw [e3]
    simp only [Option.bind_some]
    rw [e4]
    simp only [Option.bind_some, Bool.false_eq_true, if_false]

theorem numberOf_loop {l : List Int} (hl : Bytes l) (hn : l.length ≤ 9223372036854775807) (d : Nat) : ∀ (i : Nat) (x : Int), i + d = l.length → 0 ≤ x ∧ x < 1000003 →
    ∃ r, Ev (fun k => laws_numberOf.l0 k x l (l.length : Int) (i : Int)) r ∧ 0 ≤ r ∧ r < 1000003 := by
  induction d with
  | zero =>
    intro i x hi hx
    refine ⟨x, Ev.step (f := fun _ => some x) (fun k => ?_) (Ev.now _), hx⟩
    simp only [laws_numberOf.l0]
    rw [if_neg (by omega)]
  | succ d ih =>
    intro i x hi hx
    have hb := bytes_rd hl (i : Int)
    have e : Int.tmod (wrap64 ((wrap64 (31 * x)) + (wrap64 (rd l i)))) 1000003 = (31 * x + rd l i) % 1000003 := by
      have h1 : wrap64 (31 * x) = 31 * x := by unfold wrap64; omega
      have h2 : wrap64 (rd l i) = rd l i := by unfold wrap64; omega
      have h3 : wrap64 (31 * x + rd l i) = 31 * x + rd l i := by unfold wrap64; omega
      rw [h1, h2, h3, Int.tmod_eq_emod_of_nonneg (by omega)]
    obtain ⟨r, hr, h⟩ := ih (i + 1) ((31 * x + rd l i) % 1000003) (by omega) (by omega)
    refine ⟨r, Ev.step (fun k => ?_) hr, h⟩
    simp only [laws_numberOf.l0]
    rw [if_pos (by omega), if_pos (by omega), if_pos (by omega), e, w64_succ (n := l.length) (by omega) (by omega) hn]
    rfl

theorem numberOf_some {l : List Int} (hl : Bytes l) (hn : l.length ≤ 9223372036854775807) : ∃ r, Ev (fun k => laws_numberOf.f k l) r ∧ 0 ≤ r ∧ r < 1000003 := by
  obtain ⟨r, hr, h⟩ := numberOf_loop hl hn l.length 0 0 (by omega) (by omega)
  exact ⟨r, Ev.congr (fun k => rfl) hr, h⟩

theorem serialOf_eq (n : Int) : impl_SerialOf.f n = some (if 0 ≤ n ∧ n ≤ 1152921504606846976 then (n % 4294967296, true) else (0, false)) := by
  unfold impl_SerialOf.f
  rw [cf_val]
  simp only [Option.bind_some]
  by_cases h : 0 ≤ n ∧ n ≤ 1152921504606846976
  · rw [if_pos h, decide_eq_true h, if_pos rfl, Int.tmod_eq_emod_of_nonneg h.1]
  · rw [if_neg h, decide_eq_false h]
    rfl
theorem specSerialOf_eq (n : Int) : spec_SerialOf.f n = impl_SerialOf.f n := by
  unfold spec_SerialOf.f impl_SerialOf.f
  rw [cf_same]

theorem counterFor_ev (s near : Int) : ∃ r, Ev (fun k => impl_CounterFor.f k s near) r ∧ Ev (fun k => spec_CounterFor.f k s near) r := by
  obtain ⟨r, h1, h2⟩ := cf_both s near
  exact ⟨r, Ev.of (fun k => impl_CounterFor.mono _ _ k) h2, Ev.of (fun k => spec_CounterFor.mono _ _ k) h1⟩

theorem mx_abs (a1 x : Int) (n0 : 0 ≤ a1) (n1 : a1 ≤ 1152921504606846976) (h0 : -1 ≤ x) (h1 : x ≤ 2305843009213693952) : mx (wrap64 (x - a1)) (wrap64 (a1 - x)) = if x < a1 then a1 - x else x - a1 := by
  have u1 : wrap64 (x - a1) = x - a1 := by unfold wrap64; omega
  have u2 : wrap64 (a1 - x) = a1 - x := by unfold wrap64; omega
  rw [u1, u2]
  unfold mx
  split <;> split <;> omega

theorem cf_step (a1 b : Int) (k : Nat) (x7 i c : Int) (hc : rd [b - 4294967296, b, b + 4294967296] i = c) (i0 : 0 ≤ i) (i3 : i < 3) :
    impl_CounterFor.l0 (k + 1) a1 x7 [b - 4294967296, b, b + 4294967296] 3 i = if 0 ≤ c ∧ c ≤ 1152921504606846976 then (if x7 < 0 then impl_CounterFor.l0 k a1 c [b - 4294967296, b, b + 4294967296] 3 (i + 1) else if mx (wrap64 (c - a1)) (wrap64 (a1 - c)) < mx (wrap64 (x7 - a1)) (wrap64 (a1 - x7)) then impl_CounterFor.l0 k a1 c [b - 4294967296, b, b + 4294967296] 3 (i + 1) else impl_CounterFor.l0 k a1 x7 [b - 4294967296, b, b + 4294967296] 3 (i + 1)) else impl_CounterFor.l0 k a1 x7 [b - 4294967296, b, b + 4294967296] 3 (i + 1) := by
  have hl : i < (([b - 4294967296, b, b + 4294967296] : List Int).length : Int) := by simpa using i3
  have hw : wrap64 (i + 1) = i + 1 := by unfold wrap64; omega
  simp only [impl_CounterFor.l0]
  rw [if_pos i3, if_pos i0, if_pos hl, hw, cf_val, hc]
  simp only [Option.bind_some]
  by_cases h : 0 ≤ c ∧ c ≤ 1152921504606846976
  · rw [decide_eq_true h, if_pos rfl, if_pos h]
  · rw [decide_eq_false h, if_neg (by decide), if_neg h]

theorem cf_value (near b n : Int) (n0 : 0 ≤ near) (n1 : near ≤ 1152921504606846976) (m0 : 0 ≤ n) (m1 : n ≤ 1152921504606846976) (hn : n = b - 4294967296 ∨ n = b ∨ n = b + 4294967296)
    (hd0 : n - near ≤ 600000) (hd1 : near - n ≤ 600000) : impl_CounterFor.l0 4 near (-1) [b - 4294967296, b, b + 4294967296] 3 0 = some (n, true) := by
  have e3 : ∀ x7 : Int, impl_CounterFor.l0 1 near x7 [b - 4294967296, b, b + 4294967296] 3 (2 + 1) = some (x7, true) := fun _ => rfl
  have st2 : ∀ x7 : Int, (x7 = n → n ≠ b + 4294967296) → (x7 ≠ n → n = b + 4294967296 ∧ (x7 < 0 ∨ 0 ≤ x7 ∧ x7 ≤ 1152921504606846976 ∧ x7 ≤ b)) → impl_CounterFor.l0 2 near x7 [b - 4294967296, b, b + 4294967296] 3 (1 + 1) = some (n, true) := by
    intro x7 h1 h2
    rw [show ((1 : Int) + 1) = 2 from rfl, cf_step near b 1 x7 2 (b + 4294967296) rfl (by omega) (by omega), e3, e3]
    by_cases he : x7 = n
    · have := h1 he
      split
      · split
        · omega
        · rw [mx_abs near _ n0 n1 (by omega) (by omega), mx_abs near x7 n0 n1 (by omega) (by omega)]
          rw [if_neg (by split <;> split <;> omega), he]
      · rw [he]
    · obtain ⟨h3, h4⟩ := h2 he
      rw [if_pos (by omega)]
      split
      · rw [h3]
      · rw [mx_abs near _ n0 n1 (by omega) (by omega), mx_abs near x7 n0 n1 (by omega) (by omega), if_pos (by split <;> split <;> omega), h3]
  have st1 : ∀ x7 : Int, (x7 = -1 ∧ n ≠ b - 4294967296) ∨ (x7 = b - 4294967296 ∧ 0 ≤ x7 ∧ x7 ≤ 1152921504606846976) → impl_CounterFor.l0 3 near x7 [b - 4294967296, b, b + 4294967296] 3 (0 + 1) = some (n, true) := by
    intro x7 h1
    rw [show ((0 : Int) + 1) = 1 from rfl, cf_step near b 2 x7 1 b rfl (by omega) (by omega)]
    by_cases hb : 0 ≤ b ∧ b ≤ 1152921504606846976
    · rw [if_pos hb]
      split
      · exact st2 b (by omega) (by omega)
      · rw [mx_abs near b n0 n1 (by omega) (by omega), mx_abs near x7 n0 n1 (by omega) (by omega)]
        by_cases hl : (if b < near then near - b else b - near) < (if x7 < near then near - x7 else x7 - near)
        · rw [if_pos hl]
          refine st2 b (by omega) (fun h => ⟨?_, by omega⟩)
          split at hl <;> split at hl <;> omega
        · rw [if_neg hl]
          refine st2 x7 (by omega) (fun h => ⟨?_, by omega⟩)
          split at hl <;> split at hl <;> omega
    · rw [if_neg hb]
      exact st2 x7 (by omega) (by omega)
  rw [cf_step near b 3 (-1) 0 (b - 4294967296) rfl (by omega) (by omega)]
  split
  · rw [if_pos (by omega)]
    exact st1 _ (by omega)
  · exact st1 _ (by omega)

theorem counter_back (n near : Int) (m0 : 0 ≤ n) (m1 : n ≤ 1152921504606846976) (n0 : 0 ≤ near) (n1 : near ≤ 1152921504606846976) (hd0 : n - near ≤ 600000) (hd1 : near - n ≤ 600000) :
    Ev (fun k => impl_CounterFor.f k (n % 4294967296) near) (n, true) := by
  refine Ev.of (k := 5) (fun k => impl_CounterFor.mono _ _ k) ?_
  have hs : 0 ≤ n % 4294967296 ∧ n % 4294967296 ≤ 4294967295 := by omega
  have I1 : impl_isSerial.f (n % 4294967296) = some true := by rw [isSerial_eq]; unfold isSer; rw [decide_eq_true hs]
  have ht : Int.tmod near 4294967296 = near % 4294967296 := Int.tmod_eq_emod_of_nonneg n0
  have e0 : wrap64 (near - near % 4294967296) = near - near % 4294967296 := by unfold wrap64; omega
  have e1 : wrap64 (near - near % 4294967296 + n % 4294967296) = near - near % 4294967296 + n % 4294967296 := by unfold wrap64; omega
  have e2 : wrap64 (near - near % 4294967296 + n % 4294967296 - 4294967296) = near - near % 4294967296 + n % 4294967296 - 4294967296 := by unfold wrap64; omega
  have e3 : wrap64 (near - near % 4294967296 + n % 4294967296 + 4294967296) = near - near % 4294967296 + n % 4294967296 + 4294967296 := by unfold wrap64; omega
  unfold impl_CounterFor.f
  rw [I1, cf_val, decide_eq_true ⟨n0, n1⟩]
  simp only [Option.bind_some, if_true, Bool.not_true, impl_CounterFor.j0, Bool.false_eq_true, if_false]
  rw [ht, e0, e1, e2, e3]
  exact cf_value near _ n n0 n1 m0 m1 (by omega) hd0 hd1

theorem counters_l0 (l : List Int) (hn : l.length ≤ 9223372036854775807) (x : Int) (b : Bool) (hb : b = true → ∀ o ∈ l, nwP x o = false) (d : Nat) : ∀ i : Nat, i + d = l.length →
    Ev (fun k => laws_FnCounters.l0 k x b l (l.length : Int) (i : Int)) true := by
  induction d with
  | zero =>
    intro i hi
    refine Ev.step (f := fun _ => some true) (fun k => ?_) (Ev.now _)
    simp only [laws_FnCounters.l0]
    rw [if_neg (by omega)]
  | succ d ih =>
    intro i hi
    have hi1 : i < l.length := by omega
    refine Ev.step (f := fun k => laws_FnCounters.l0 k x b l (l.length : Int) ((i + 1 : Nat) : Int)) (fun k => ?_) (ih (i + 1) (by omega))
    simp only [laws_FnCounters.l0]
    rw [if_pos (by omega), if_pos (by omega), if_pos (by omega), w64_succ (n := l.length) (by omega) (by omega) hn]
    cases b with
    | false => rfl
    | true =>
      have h := hb rfl l[i] (List.getElem_mem hi1)
      rw [rd_get l i hi1, serialLess_eq]
      unfold nwP at h
      simp only [Option.bind_some, if_true]
      generalize slP x l[i] = p at h ⊢
      obtain ⟨p1, p2⟩ := p
      cases p1 <;> cases p2 <;> first | rfl | cases h

theorem counters_j3 {l : List Int} (hl : Bytes l) : Ev (fun k => laws_FnCounters.j3 k l) true := by
  obtain ⟨⟨s, near⟩, hd⟩ := drawCounterFor_some hl
  obtain ⟨r, hi, hs⟩ := counterFor_ev s near
  obtain ⟨ls, hls, hll⟩ := drawNewest_some hl
  refine Ev.step (fun k => by simp only [laws_FnCounters.j3]; rw [hd]) (?_ : Ev _ _)
  simp only [Option.bind_some]
  refine Ev.bind hi (Ev.bind hs (Ev.bind hls ?_))
  unfold impl_NewestOf.f
  simp only [Option.bind_some]
  refine Ev.bind (newest_ev ls) ?_
  simp only [bne_self_eq_false, Bool.false_eq_true, if_false, if_true]
  refine Ev.step (f := fun k => laws_FnCounters.l0 k (impl_NewestOf.g ls).1 (impl_NewestOf.g ls).2 ls (ls.length : Int) ((0 : Nat) : Int)) (fun k => ?_) ?_
  · simp only [laws_FnCounters.j4]
    rfl
  · by_cases hlen : 1 ≤ ls.length ∧ ls.length ≤ 20
    · refine counters_l0 ls (by omega) _ _ (fun h o ho => ?_) ls.length 0 (by omega)
      unfold impl_NewestOf.g at h ⊢
      rw [if_pos hlen] at h ⊢
      by_cases hany : ls.any (fun x => !isSer x) = true
      · rw [if_pos hany] at h; cases h
      · rw [if_neg hany] at h ⊢
        cases hf : ls.find? (fun a => !ls.any (nwP a)) with
        | none => rw [hf] at h; cases h
        | some a =>
          have h2 := List.find?_some hf
          simp only [Bool.not_eq_true', List.any_eq_false] at h2
          simpa using h2 o ho
    · have hg : impl_NewestOf.g ls = (0, false) := by unfold impl_NewestOf.g; rw [if_neg hlen]
      rw [hg]
      exact counters_l0 ls (by omega) _ _ (fun h => by cases h) ls.length 0 (by omega)

theorem counters_j2 {l : List Int} (hl : Bytes l) (n : Int) (m0 : 0 ≤ n) (m1 : n ≤ 1152921504606846976) : Ev (fun k => laws_FnCounters.j2 k l n (n % 4294967296)) true := by
  refine Ev.step (f := fun k => laws_FnCounters.j3 k l) (fun k => ?_) (counters_j3 hl)
  simp only [laws_FnCounters.j2]
  by_cases h : n < 1152921504606846976
  · have hw : wrap64 (n + 1) = n + 1 := by unfold wrap64; omega
    have h1 : 0 ≤ n + 1 ∧ n + 1 ≤ 1152921504606846976 := by omega
    have h2 : isSer (n % 4294967296) = true ∧ (0 : Int) ≤ 1 ∧ (1 : Int) ≤ 2147483647 := ⟨decide_eq_true (by omega), by omega, by omega⟩
    rw [if_pos h, hw, serialOf_eq, if_pos h1, add_eq, if_pos h2]
    simp only [Option.bind_some, if_true]
    rw [if_pos (by omega)]
  · rw [if_neg h]

theorem counters_j1 {l : List Int} (hl : Bytes l) (n near : Int) (m0 : 0 ≤ n) (m1 : n ≤ 1152921504606846976) (hd0 : n - near ≤ 600000) (hd1 : near - n ≤ 600000) (b : Bool) (hb : b = true → 0 ≤ near ∧ near ≤ 1152921504606846976) :
    Ev (fun k => laws_FnCounters.j1 k l n (n % 4294967296) near b) true := by
  cases b with
  | false => exact Ev.step (fun k => by simp only [laws_FnCounters.j1]; rfl) (counters_j2 hl n m0 m1)
  | true =>
    have h := hb rfl
    refine Ev.step (f := fun k => (impl_CounterFor.f k (n % 4294967296) near).bind fun b => if b.2 = true then if b.1 = n then laws_FnCounters.j2 k l n (n % 4294967296) else some false else some false) (fun k => by simp only [laws_FnCounters.j1, if_true]) (Ev.bind (counter_back n near m0 m1 h.1 h.2 hd0 hd1) ?_)
    simpa using counters_j2 hl n m0 m1

theorem FnCounters : laws_FnCounters.Pure := by
  intro l0 l1 m0 q0 w0 m1 q1 w1
  refine Ev.rounds ?_
  by_cases h : wrap64 ((l0.length : Int) + (l1.length : Int)) > 1048576
  · refine Ev.congr (f := fun _ => some true) (fun k => ?_) (Ev.now _)
    unfold laws_FnCounters.f
    rw [if_pos h]
  · obtain ⟨n, hd⟩ := drawSerialOf_some (bytes_of w0)
    obtain ⟨v, hv, v0, v1⟩ := numberOf_some (bytes_of w1) (by omega)
    have hl := bytes_of w1
    refine Ev.congr (f := fun k => laws_FnCounters.j0 k l1 n ((if 0 ≤ n ∧ n ≤ 1152921504606846976 then (n % 4294967296, true) else (0, false)) : Int × Bool).1 ((if 0 ≤ n ∧ n ≤ 1152921504606846976 then (n % 4294967296, true) else (0, false)) : Int × Bool).2 false) (fun k => ?_) ?_
    · unfold laws_FnCounters.f
      rw [if_neg h, hd]
      simp only [Option.bind_some]
      rw [specSerialOf_eq, serialOf_eq]
      simp
    · by_cases hn : 0 ≤ n ∧ n ≤ 1152921504606846976
      · rw [if_pos hn]
        have e : wrap64 (wrap64 (n + v) - 500000) = n + v - 500000 := by
          have h1 : wrap64 (n + v) = n + v := by unfold wrap64; omega
          rw [h1]
          unfold wrap64
          omega
        refine Ev.step (f := fun k => (laws_numberOf.f k l1).bind fun t => if (wrap64 ((wrap64 (n + t)) - 500000)) ≥ 0 then (laws_FnCounters.j1 k l1 n (n % 4294967296) (wrap64 ((wrap64 (n + t)) - 500000)) (decide ((wrap64 ((wrap64 (n + t)) - 500000)) ≤ 1152921504606846976))) else (laws_FnCounters.j1 k l1 n (n % 4294967296) (wrap64 ((wrap64 (n + t)) - 500000)) false)) (fun k => ?_) (Ev.bind hv ?_)
        · simp only [laws_FnCounters.j0]
          rfl
        · rw [e]
          by_cases h0 : n + v - 500000 ≥ 0
          · simp only [if_pos h0]
            exact counters_j1 hl n _ hn.1 hn.2 (by omega) (by omega) _ (fun hb => ⟨h0, of_decide_eq_true hb⟩)
          · simp only [if_neg h0]
            exact counters_j1 hl n _ hn.1 hn.2 (by omega) (by omega) _ (fun hb => by cases hb)
      · rw [if_neg hn]
        refine Ev.step (fun k => ?_) (counters_j3 hl)
        simp only [laws_FnCounters.j0]
        rfl

end Go.Proofs.Ytkbhmikjnoncfaa.Pure

-- LawFnCounters
-- By my own call of the kit's print (wip/tools/pp.py).
namespace Go.Proofs.Ytkbhmikjnoncfaa.fnCounters
open Go.ChangeShapes Go.WideShapes Go.ChangeAt Go.RowKit
open Go.ChangeMaps (open_string shut_string)
set_option linter.unusedVariables false
theorem own : ownKnob Try.prog.godebug = none := by kernel_rfl
theorem laidOut : laidOutB Try.prog = true := by kernel_rfl
def IsRow (k : IntKind) (w : World) (a : Option Addr) (len cap : Nat) (zs : List Int) : Prop :=
  (a = none ∧ len = 0 ∧ cap = 0 ∧ zs = []) ∨
  ∃ x, a = some x ∧ len ≤ cap ∧ cap ≤ maxLen ∧ zs.length = cap ∧ (∀ i, i < zs.length → w.cell? (x.add i) = some (.int k (zs.getD i 0))) ∧ ∀ n ∈ zs, (Lit.int k n).wf = true
set_option maxRecDepth 100000 in
theorem lifted (os : Os) (started : os.Started) (H : Type) (enc : TypeId × Value → H) :
    ReturnsInHanded {} Try.checked os 11 .any (Rows.fnCountersSpec.pre6 enc Try.prog Try.f11 Rows.fnCountersRow.domain false) (Rows.fnCountersSpec.post enc Try.prog Try.f11 false true false false) := by
  refine returnsInHanded_of_change_sized (C := Try.checked) own started (by kernel_rfl) Try.func11
    (ChangeSpec.witness6 (enc := enc) (C := Try.checked) false ⟨#[], #[.slice none 0 0, .slice none 0 0], []⟩ 8 (by kernel_rfl) (by kernel_rfl) (by kernel_rfl) (by kernel_rfl)) ?_
  intro W base args ds gs before hval0 hW hcnd hsz0 _
  have hsz : (DataW.weightsEach Try.prog (Try.f11.params.toList ++ Rows.fnCountersSpec.plain.varTypes Try.prog) (ds ++ gs)).all (· ≤ reachBytes) = true := hsz0
  have hval : ∀ (j : Nat) t v, Try.f11.params[j]? = some t → args[j]? = some v → Value.okWide Try.prog W .any base t v := hval0
  have hW' := hW
  obtain ⟨p, q, hA0, hV, rfl, hfz, hnd⟩ := hW
  have hA : DataW.TrodAll enc Try.prog W 0 (fun _ => true) true Try.f11.params.toList args.toList ds p := hA0
  rw [Try.params11] at hA hval hsz
  obtain ⟨v0, vs0, d0, ds0, p0, q0, hargs, rfl, rfl, h0, r0⟩ := trodAll_cons hA
  obtain ⟨v1, vs1, d1, ds1, p1, q1, rfl, rfl, rfl, h1, r1⟩ := trodAll_cons r0
  obtain ⟨rfl, rfl, rfl⟩ := trodAll_nil r1
  obtain rfl : args = #[v0, v1] := by cases args; simp_all
  obtain ⟨rfl, rfl⟩ := trodVars_none hV
  obtain ⟨a0, len0, cap0, rfl⟩ := okWide_slice Try.underlying30 (hval 0 30 v0 rfl rfl)
  have k0 := h0
  have lt0 : ∀ x ∈ p0, x.block < W.heap.size := by obtain ⟨m, hm⟩ := k0; exact DataW.trod_lt m _ _ _ hm
  obtain ⟨z0, w0⟩ : ∃ zs, IsRow .u8 W a0 len0 cap0 zs := by
    obtain ⟨fuel, hf⟩ := h0
    rcases open_ints Try.underlying30 Try.underlying5 (by kernel_rfl) hf with ⟨hcs, _⟩ | ⟨x, l, c, zs, hcs, _, hl, hm, hz, _, hcell, hwz⟩
    · simp [Value.cells] at hcs
      obtain ⟨rfl, rfl, rfl⟩ := hcs
      exact ⟨[], .inl ⟨rfl, rfl, rfl, rfl⟩⟩
    · simp [Value.cells] at hcs
      obtain ⟨rfl, rfl, rfl⟩ := hcs
      exact ⟨zs, .inr ⟨_, rfl, hl, hm, by simpa using hz, hcell, hwz⟩⟩
  have y0 : len0 * 1 ≤ 140737488351232 := Go.Proofs.YtkbhmikjnoncfaaW.PrintWords.sized_ints hsz (j := 0) (t := 30) rfl rfl Try.underlying30 Try.underlying5 (by kernel_rfl) (by kernel_rfl) h0
  obtain ⟨a1, len1, cap1, rfl⟩ := okWide_slice Try.underlying30 (hval 1 30 v1 rfl rfl)
  have k1 := h1
  have lt1 : ∀ x ∈ p1, x.block < W.heap.size := by obtain ⟨m, hm⟩ := k1; exact DataW.trod_lt m _ _ _ hm
  obtain ⟨z1, w1⟩ : ∃ zs, IsRow .u8 W a1 len1 cap1 zs := by
    obtain ⟨fuel, hf⟩ := h1
    rcases open_ints Try.underlying30 Try.underlying5 (by kernel_rfl) hf with ⟨hcs, _⟩ | ⟨x, l, c, zs, hcs, _, hl, hm, hz, _, hcell, hwz⟩
    · simp [Value.cells] at hcs
      obtain ⟨rfl, rfl, rfl⟩ := hcs
      exact ⟨[], .inl ⟨rfl, rfl, rfl, rfl⟩⟩
    · simp [Value.cells] at hcs
      obtain ⟨rfl, rfl, rfl⟩ := hcs
      exact ⟨zs, .inr ⟨_, rfl, hl, hm, by simpa using hz, hcell, hwz⟩⟩
  have y1 : len1 * 1 ≤ 140737488351232 := Go.Proofs.YtkbhmikjnoncfaaW.PrintWords.sized_ints hsz (j := 1) (t := 30) rfl rfl Try.underlying30 Try.underlying5 (by kernel_rfl) (by kernel_rfl) h1
  clear hA0 hval0 hsz0 hsz
  refine (P.laws_FnCounters.walk Pure.FnCounters a0 len0 cap0 z0 a1 len1 cap1 z1 W w0 y0 w1 y1).mono fun e W' ⟨he, bel⟩ => ?_
  subst he
  exact ⟨_, rfl, _, _, _, [], _, [], hW', trodAll_mk1 (shut_bool Try.underlying4 _), (trodAll_cons_mk (Below.trod laidOut (by kernel_rfl) (of_decide_eq_true (by kernel_rfl)) k0 bel lt0) (trodAll_cons_mk (Below.trod laidOut (by kernel_rfl) (of_decide_eq_true (by kernel_rfl)) k1 bel lt1) trodAll_mk0)), rfl, bel.frame _, fun h => by cases h⟩
theorem over : Rows.fnCountersRow.holds Try.pinned (OpenSpec.ofChange Rows.fnCountersSpec) :=
  OpenClaim.holds_of_wide 11 Try.f11 rfl rfl rfl rfl rfl rfl rfl ⟨rfl, rfl, rfl, rfl, rfl⟩ rfl rfl rfl rfl rfl (by kernel_rfl) Try.func11 (by kernel_rfl)
    (of_decide_eq_true (by kernel_rfl)) (by unfold Func.isWrapper; first | (rw [if_pos (by decide +kernel)]; kernel_rfl) | (rw [if_neg (by decide +kernel)]; exact ⟨rfl, rfl⟩))
    (fun os started H enc _ => lifted os started H enc)
theorem proved : Rows.FnCountersSaid := over
#print axioms proved
end Go.Proofs.Ytkbhmikjnoncfaa.fnCounters
namespace Go.Proofs.Ytkbhmikjnoncfaa
/-- The row, under a short name, for the claim. -/
theorem fnCounters_holds : Rows.FnCountersSaid := fnCounters.proved
end Go.Proofs.Ytkbhmikjnoncfaa
