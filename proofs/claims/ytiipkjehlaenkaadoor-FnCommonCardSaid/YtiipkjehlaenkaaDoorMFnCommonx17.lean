/- FnCommon: part 18 of 22 of my texts for this claim, joined; the theorem stands in the last. Conditions: none beyond the statement's. -/
import Derived.Test.YtiipkjehlaenkaaDoorMFnCommonx0
import Derived.Test.YtiipkjehlaenkaaDoorMFnCommonx5
import Derived.Test.YtiipkjehlaenkaaDoorMFnCommonx10
import Derived.Test.YtiipkjehlaenkaaDoorMFnCommonx15
import Derived.Test.YtiipkjehlaenkaaDoorMFnCommonx16
-- F4
-- By my own call of the kit's print (wip/tools/pp.py).
namespace Go.Proofs.YtiipkjehlaenkaaDoor.P
open Go.RowKit Go.Proofs.YtiipkjehlaenkaaDoorW.PrintWords Go.Proofs.YtiipkjehlaenkaaDoorW.PrintLast Go.Proofs.YtiipkjehlaenkaaDoorW.PrintMore
attribute [local go_sem] max2_int min2_int max_two min_two max_three min_three max_four min_four
set_option linter.unusedVariables false
set_option linter.unusedSimpArgs false

/-! ### laws_FnCommon: function 4 -/
mutual
def laws_FnCommon.j0 : Nat → ByteArray → ByteArray → ByteArray → Bool → Bool → Bool → Option (Bool)
  | 0, _, _, _, _, _, _ => none
  | k + 1, x3, x4, x5, x6, x9, x73 => if x73 = true then (some false) else (if x6 = true then ((impl_CommonOf.f k x4 x3).bind fun bt255 => ((impl_IsBelow.f x3 x5).bind fun bt257 => ((impl_IsBelow.f x4 x5).bind fun bt259 => (if bt255.2 = true then (if bt255.1.toList = x5.toList then (if bt257.2 = true then (if bt257.1 = true then (if bt259.2 = true then (if bt259.1 = true then (laws_FnCommon.j1 k x3 x4 x5 (x9 != (x5.toList == x4.toList))) else (laws_FnCommon.j1 k x3 x4 x5 true)) else (laws_FnCommon.j1 k x3 x4 x5 true)) else (laws_FnCommon.j1 k x3 x4 x5 true)) else (laws_FnCommon.j1 k x3 x4 x5 true)) else (laws_FnCommon.j1 k x3 x4 x5 true)) else (laws_FnCommon.j1 k x3 x4 x5 true))))) else (some (x5.toList == ([] : List UInt8))))
def laws_FnCommon.j1 : Nat → ByteArray → ByteArray → ByteArray → Bool → Option (Bool)
  | 0, _, _, _, _ => none
  | k + 1, x3, x4, x5, x125 => if x125 = true then (some false) else (laws_FnCommon.l0 k x4 x5 x3)
def laws_FnCommon.l0 : Nat → ByteArray → ByteArray → ByteArray → Option (Bool)
  | 0, _, _, _ => none
  | k + 1, x4, x5, x19 => if x19.toList = x5.toList then (some true) else ((impl_IsBelow.f x4 x19).bind fun bt261 => ((impl_ParentOf.f x19).bind fun bt263 => (if bt261.2 = true then (if bt261.1 = true then (some false) else (if bt263.2 = true then (laws_FnCommon.l0 k x4 x5 bt263.1) else (some false))) else (some false))))
end
def laws_FnCommon.f (k : Nat) (l0 : List Int) : Option (Bool) := if (l0.length : Int) > 1048576 then (some true) else ((spec_DrawCommonOf.f k l0).bind fun bt245 => ((impl_CommonOf.f k bt245.1 bt245.2).bind fun bt247 => ((spec_CommonOf.f k bt245.1 bt245.2).bind fun bt249 => ((impl_IsBelow.f bt245.1 bt245.2).bind fun bt251 => ((spec_IsBelow.f k bt245.1 bt245.2).bind fun bt253 => (if (bt247.2 != bt249.2) = true then (laws_FnCommon.j0 k bt245.1 bt245.2 bt247.1 bt247.2 bt251.1 true) else (if bt247.1.toList = bt249.1.toList then (if (bt251.2 != bt253.2) = true then (laws_FnCommon.j0 k bt245.1 bt245.2 bt247.1 bt247.2 bt251.1 true) else (laws_FnCommon.j0 k bt245.1 bt245.2 bt247.1 bt247.2 bt251.1 (bt251.1 != bt253.1))) else (laws_FnCommon.j0 k bt245.1 bt245.2 bt247.1 bt247.2 bt251.1 true))))))))
theorem laws_FnCommon.mono_l : ∀ k, (∀ y0 y1 y2 y3 y4 y5, LeO (laws_FnCommon.j0 k y0 y1 y2 y3 y4 y5) (laws_FnCommon.j0 (k + 1) y0 y1 y2 y3 y4 y5)) ∧ (∀ y0 y1 y2 y3, LeO (laws_FnCommon.j1 k y0 y1 y2 y3) (laws_FnCommon.j1 (k + 1) y0 y1 y2 y3)) ∧ (∀ y0 y1 y2, LeO (laws_FnCommon.l0 k y0 y1 y2) (laws_FnCommon.l0 (k + 1) y0 y1 y2))
  | 0 => ⟨fun _ _ _ _ _ _ r h => by simp [laws_FnCommon.j0] at h, fun _ _ _ _ r h => by simp [laws_FnCommon.j1] at h, fun _ _ _ r h => by simp [laws_FnCommon.l0] at h⟩
  | k + 1 => by
    obtain ⟨ih0, ih1, ih2⟩ := laws_FnCommon.mono_l k
    refine ⟨?_, ?_, ?_⟩
    · intro y0 y1 y2 y3 y4 y5
      unfold laws_FnCommon.j0
      repeat' first
      | (with_reducible exact ih0 _ _ _ _ _ _)
      | (with_reducible exact ih1 _ _ _ _)
      | (with_reducible exact ih2 _ _ _)
      | (with_reducible exact impl_CommonOf.mono _ _ _)
      | (with_reducible exact spec_CommonOf.mono _ _ _)
      | (with_reducible exact spec_DrawCommonOf.mono _ _)
      | (with_reducible exact spec_IsBelow.mono _ _ _)
      | (with_reducible exact LeO.refl _)
      | (with_reducible exact LeO.none _)
      | (with_reducible refine LeO.ite ?_ ?_)
      | (with_reducible refine LeO.bind ?_ (fun _ => ?_))
      | exact ih0 _ _ _ _ _ _
      | exact ih1 _ _ _ _
      | exact ih2 _ _ _
      | exact impl_CommonOf.mono _ _ _
      | exact spec_CommonOf.mono _ _ _
      | exact spec_DrawCommonOf.mono _ _
      | exact spec_IsBelow.mono _ _ _
      | exact LeO.none _
      | refine LeO.ite ?_ ?_
      | refine LeO.bind ?_ (fun _ => ?_)
    · intro y0 y1 y2 y3
      unfold laws_FnCommon.j1
      repeat' first
      | (with_reducible exact ih0 _ _ _ _ _ _)
      | (with_reducible exact ih1 _ _ _ _)
      | (with_reducible exact ih2 _ _ _)
      | (with_reducible exact impl_CommonOf.mono _ _ _)
      | (with_reducible exact spec_CommonOf.mono _ _ _)
      | (with_reducible exact spec_DrawCommonOf.mono _ _)
      | (with_reducible exact spec_IsBelow.mono _ _ _)
      | (with_reducible exact LeO.refl _)
      | (with_reducible exact LeO.none _)
      | (with_reducible refine LeO.ite ?_ ?_)
      | (with_reducible refine LeO.bind ?_ (fun _ => ?_))
      | exact ih0 _ _ _ _ _ _
      | exact ih1 _ _ _ _
      | exact ih2 _ _ _
      | exact impl_CommonOf.mono _ _ _
      | exact spec_CommonOf.mono _ _ _
      | exact spec_DrawCommonOf.mono _ _
      | exact spec_IsBelow.mono _ _ _
      | exact LeO.none _
      | refine LeO.ite ?_ ?_
      | refine LeO.bind ?_ (fun _ => ?_)
    · intro y0 y1 y2
      unfold laws_FnCommon.l0
      repeat' first
      | (with_reducible exact ih0 _ _ _ _ _ _)
      | (with_reducible exact ih1 _ _ _ _)
      | (with_reducible exact ih2 _ _ _)
      | (with_reducible exact impl_CommonOf.mono _ _ _)
      | (with_reducible exact spec_CommonOf.mono _ _ _)
      | (with_reducible exact spec_DrawCommonOf.mono _ _)
      | (with_reducible exact spec_IsBelow.mono _ _ _)
      | (with_reducible exact LeO.refl _)
      | (with_reducible exact LeO.none _)
      | (with_reducible refine LeO.ite ?_ ?_)
      | (with_reducible refine LeO.bind ?_ (fun _ => ?_))
      | exact ih0 _ _ _ _ _ _
      | exact ih1 _ _ _ _
      | exact ih2 _ _ _
      | exact impl_CommonOf.mono _ _ _
      | exact spec_CommonOf.mono _ _ _
      | exact spec_DrawCommonOf.mono _ _
      | exact spec_IsBelow.mono _ _ _
      | exact LeO.none _
      | refine LeO.ite ?_ ?_
      | refine LeO.bind ?_ (fun _ => ?_)
theorem laws_FnCommon.mono : ∀ a0 k, LeO (laws_FnCommon.f k a0) (laws_FnCommon.f (k + 1) a0) := by
  intro a0 k
  obtain ⟨ih0, ih1, ih2⟩ := laws_FnCommon.mono_l k
  unfold laws_FnCommon.f
  repeat' first
      | (with_reducible exact ih0 _ _ _ _ _ _)
      | (with_reducible exact ih1 _ _ _ _)
      | (with_reducible exact ih2 _ _ _)
      | (with_reducible exact impl_CommonOf.mono _ _ _)
      | (with_reducible exact spec_CommonOf.mono _ _ _)
      | (with_reducible exact spec_DrawCommonOf.mono _ _)
      | (with_reducible exact spec_IsBelow.mono _ _ _)
      | (with_reducible exact LeO.refl _)
      | (with_reducible exact LeO.none _)
      | (with_reducible refine LeO.ite ?_ ?_)
      | (with_reducible refine LeO.bind ?_ (fun _ => ?_))
      | exact ih0 _ _ _ _ _ _
      | exact ih1 _ _ _ _
      | exact ih2 _ _ _
      | exact impl_CommonOf.mono _ _ _
      | exact spec_CommonOf.mono _ _ _
      | exact spec_DrawCommonOf.mono _ _
      | exact spec_IsBelow.mono _ _ _
      | exact LeO.none _
      | refine LeO.ite ?_ ?_
      | refine LeO.bind ?_ (fun _ => ?_)
set_option maxHeartbeats 8000000 in
set_option maxRecDepth 100000 in
theorem laws_FnCommon.calls (k : Nat) (A0 : Option Addr) (c0 : Nat) (l0 : List Int) (r : Bool) (w : World) (hr0 : Kd.C (Kd.int .u8) w A0 l0.length l0) (hc0 : l0.length ≤ c0) (h : laws_FnCommon.f k l0 = some r) :
    Calls Tryd.prog 4 #[.slice A0 l0.length c0] w fun e w' => e = .returned (.bool r) ∧ Below w.heap.size w w' := by
  have HR0 := Aside0.mk hr0
  have HC0 := Aside0.mk hc0
  clear hr0 hc0
  have HB := Aside0.mk (Below.refl w.heap.size w)
  have H : (if (l0.length : Int) > 1048576 then (some true) else ((spec_DrawCommonOf.f k l0).bind fun bt245 => ((impl_CommonOf.f k bt245.1 bt245.2).bind fun bt247 => ((spec_CommonOf.f k bt245.1 bt245.2).bind fun bt249 => ((impl_IsBelow.f bt245.1 bt245.2).bind fun bt251 => ((spec_IsBelow.f k bt245.1 bt245.2).bind fun bt253 => (if (bt247.2 != bt249.2) = true then (laws_FnCommon.j0 k bt245.1 bt245.2 bt247.1 bt247.2 bt251.1 true) else (if bt247.1.toList = bt249.1.toList then (if (bt251.2 != bt253.2) = true then (laws_FnCommon.j0 k bt245.1 bt245.2 bt247.1 bt247.2 bt251.1 true) else (laws_FnCommon.j0 k bt245.1 bt245.2 bt247.1 bt247.2 bt251.1 (bt251.1 != bt253.1))) else (laws_FnCommon.j0 k bt245.1 bt245.2 bt247.1 bt247.2 bt251.1 true))))))))) = some r := h
  clear h
  by_cases c2 : (l0.length : Int) > 1048576
  · rw [if_pos c2] at H
    have c2b0 : decide (1048576 < (l0.length : Int)) = true := decide_eq_true c2
    have c2b1 : decide (1048576 < l0.length) = true := decide_eq_true (by omega)
    clear c2
    obtain rfl := Option.some.inj H
    go_enter Tryd.func4, Tryd.ntmps4
    go_wp2
    go_ret
    exact ⟨by first | rfl | (simp [errW_none, errW_some] <;> rfl) | (simp [*, errW_none, errW_some] <;> rfl), by repeat (first | (with_reducible first | exact HB.out | apply below_alloc | apply pw_below_drewN | apply below_drew1) | exact HB.out)⟩
  · rw [if_neg c2] at H
    have c2b0 : decide (1048576 < (l0.length : Int)) = false := decide_eq_false c2
    have c2b1 : decide (1048576 < l0.length) = false := decide_eq_false (by omega)
    clear c2
    replace H := Option.bind_eq_some_iff.mp H
    obtain ⟨⟨t245, t246⟩, A30, H⟩ := H
    replace H : ((impl_CommonOf.f k t245 t246).bind fun bt247 => ((spec_CommonOf.f k t245 t246).bind fun bt249 => ((impl_IsBelow.f t245 t246).bind fun bt251 => ((spec_IsBelow.f k t245 t246).bind fun bt253 => (if (bt247.2 != bt249.2) = true then (laws_FnCommon.j0 k t245 t246 bt247.1 bt247.2 bt251.1 true) else (if bt247.1.toList = bt249.1.toList then (if (bt251.2 != bt253.2) = true then (laws_FnCommon.j0 k t245 t246 bt247.1 bt247.2 bt251.1 true) else (laws_FnCommon.j0 k t245 t246 bt247.1 bt247.2 bt251.1 (bt251.1 != bt253.1))) else (laws_FnCommon.j0 k t245 t246 bt247.1 bt247.2 bt251.1 true))))))) = some r := H
    have A3 := Aside0.mk A30
    clear A30
    replace H := Option.bind_eq_some_iff.mp H
    obtain ⟨⟨t247, t248⟩, A40, H⟩ := H
    replace H : ((spec_CommonOf.f k t245 t246).bind fun bt249 => ((impl_IsBelow.f t245 t246).bind fun bt251 => ((spec_IsBelow.f k t245 t246).bind fun bt253 => (if (t248 != bt249.2) = true then (laws_FnCommon.j0 k t245 t246 t247 t248 bt251.1 true) else (if t247.toList = bt249.1.toList then (if (bt251.2 != bt253.2) = true then (laws_FnCommon.j0 k t245 t246 t247 t248 bt251.1 true) else (laws_FnCommon.j0 k t245 t246 t247 t248 bt251.1 (bt251.1 != bt253.1))) else (laws_FnCommon.j0 k t245 t246 t247 t248 bt251.1 true)))))) = some r := H
    have A4 := Aside0.mk A40
    clear A40
    replace H := Option.bind_eq_some_iff.mp H
    obtain ⟨⟨t249, t250⟩, A50, H⟩ := H
    replace H : ((impl_IsBelow.f t245 t246).bind fun bt251 => ((spec_IsBelow.f k t245 t246).bind fun bt253 => (if (t248 != t250) = true then (laws_FnCommon.j0 k t245 t246 t247 t248 bt251.1 true) else (if t247.toList = t249.toList then (if (bt251.2 != bt253.2) = true then (laws_FnCommon.j0 k t245 t246 t247 t248 bt251.1 true) else (laws_FnCommon.j0 k t245 t246 t247 t248 bt251.1 (bt251.1 != bt253.1))) else (laws_FnCommon.j0 k t245 t246 t247 t248 bt251.1 true))))) = some r := H
    have A5 := Aside0.mk A50
    clear A50
    replace H := Option.bind_eq_some_iff.mp H
    obtain ⟨⟨t251, t252⟩, A60, H⟩ := H
    replace H : ((spec_IsBelow.f k t245 t246).bind fun bt253 => (if (t248 != t250) = true then (laws_FnCommon.j0 k t245 t246 t247 t248 t251 true) else (if t247.toList = t249.toList then (if (t252 != bt253.2) = true then (laws_FnCommon.j0 k t245 t246 t247 t248 t251 true) else (laws_FnCommon.j0 k t245 t246 t247 t248 t251 (t251 != bt253.1))) else (laws_FnCommon.j0 k t245 t246 t247 t248 t251 true)))) = some r := H
    have A6 := Aside0.mk A60
    clear A60
    replace H := Option.bind_eq_some_iff.mp H
    obtain ⟨⟨t253, t254⟩, A70, H⟩ := H
    replace H : (if (t248 != t250) = true then (laws_FnCommon.j0 k t245 t246 t247 t248 t251 true) else (if t247.toList = t249.toList then (if (t252 != t254) = true then (laws_FnCommon.j0 k t245 t246 t247 t248 t251 true) else (laws_FnCommon.j0 k t245 t246 t247 t248 t251 (t251 != t253))) else (laws_FnCommon.j0 k t245 t246 t247 t248 t251 true))) = some r := H
    have A7 := Aside0.mk A70
    clear A70
    have HC8 := Aside0.mk H
    clear H
    go_enter Tryd.func4, Tryd.ntmps4
    go_upto_region 8 with (first | ((with_reducible refine gate_callee (f := 11) rfl ?_); refine goesL_ (some 29) rfl rfl Tryd.func11 (by kernel_rfl) rfl #[.slice A0 l0.length c0] rfl (by (try simp only [List.map_toArray, List.map_cons, List.map_nil]); first | done | rfl | (simp only [List.length_drop, List.length_take]; rfl)) ?_; (with_reducible refine (spec_DrawCommonOf.calls k _ _ l0 t245 t246 _ ?side1 ?side2 A3.out).mono ?_); (case side1 => repeat (first | exact HR0.out | (with_reducible refine Kd.C_alloc ?_ _) | (with_reducible refine Kd.C_drewN ?_ _) | (with_reducible refine Kd.C_drew ?_))); (case side2 => exact HC0.out); rintro e w9 ⟨rfl, hb⟩; refine ⟨_, rfl, ?_⟩; have n0_ := Aside0.mk (below_step (by repeat (first | (with_reducible first | exact HB.out | apply below_alloc | apply pw_below_drewN | apply below_drew1) | exact HB.out)) hb); clear HB; have HB := n0_; clear n0_; (try clear hb); (try clear hb2); (try clear hk); (try clear hi)) | ((with_reducible refine gate_callee (f := 12) rfl ?_); refine goesL_ (some 35) rfl rfl Tryd.func12 (by kernel_rfl) rfl #[.string t245, .string t246] rfl (by (try simp only [List.map_toArray, List.map_cons, List.map_nil]); first | done | rfl | (simp only [List.length_drop, List.length_take]; rfl)) ?_; (with_reducible refine (impl_CommonOf.calls k t245 t246 t247 t248 _ A4.out).mono ?_); rintro e w10 ⟨rfl, hb⟩; refine ⟨_, rfl, ?_⟩; have n0_ := Aside0.mk (below_step (by repeat (first | (with_reducible first | exact HB.out | apply below_alloc | apply pw_below_drewN | apply below_drew1) | exact HB.out)) hb); clear HB; have HB := n0_; clear n0_; (try clear hb); (try clear hb2); (try clear hk); (try clear hi)) | ((with_reducible refine gate_callee (f := 13) rfl ?_); refine goesL_ (some 41) rfl rfl Tryd.func13 (by kernel_rfl) rfl #[.string t245, .string t246] rfl (by (try simp only [List.map_toArray, List.map_cons, List.map_nil]); first | done | rfl | (simp only [List.length_drop, List.length_take]; rfl)) ?_; (with_reducible refine (spec_CommonOf.calls k t245 t246 t249 t250 _ A5.out).mono ?_); rintro e w11 ⟨rfl, hb⟩; refine ⟨_, rfl, ?_⟩; have n0_ := Aside0.mk (below_step (by repeat (first | (with_reducible first | exact HB.out | apply below_alloc | apply pw_below_drewN | apply below_drew1) | exact HB.out)) hb); clear HB; have HB := n0_; clear n0_; (try clear hb); (try clear hb2); (try clear hk); (try clear hi)) | ((with_reducible refine gate_callee (f := 14) rfl ?_); refine goesL_ (some 47) rfl rfl Tryd.func14 (by kernel_rfl) rfl #[.string t245, .string t246] rfl (by (try simp only [List.map_toArray, List.map_cons, List.map_nil]); first | done | rfl | (simp only [List.length_drop, List.length_take]; rfl)) ?_; (with_reducible refine (impl_IsBelow.calls t245 t246 t251 t252 _ A6.out).mono ?_); rintro e w12 ⟨rfl, hb⟩; refine ⟨_, rfl, ?_⟩; have n0_ := Aside0.mk (below_step (by repeat (first | (with_reducible first | exact HB.out | apply below_alloc | apply pw_below_drewN | apply below_drew1) | exact HB.out)) hb); clear HB; have HB := n0_; clear n0_; (try clear hb); (try clear hb2); (try clear hk); (try clear hi)) | ((with_reducible refine gate_callee (f := 15) rfl ?_); refine goesL_ (some 53) rfl rfl Tryd.func15 (by kernel_rfl) rfl #[.string t245, .string t246] rfl (by (try simp only [List.map_toArray, List.map_cons, List.map_nil]); first | done | rfl | (simp only [List.length_drop, List.length_take]; rfl)) ?_; (with_reducible refine (spec_IsBelow.calls k t245 t246 t253 t254 _ A7.out).mono ?_); rintro e w13 ⟨rfl, hb⟩; refine ⟨_, rfl, ?_⟩; have n0_ := Aside0.mk (below_step (by repeat (first | (with_reducible first | exact HB.out | apply below_alloc | apply pw_below_drewN | apply below_drew1) | exact HB.out)) hb); clear HB; have HB := n0_; clear n0_; (try clear hb); (try clear hb2); (try clear hk); (try clear hi)))
    (try simp only [Act.put, List.setIfInBounds_toArray, List.set_cons_zero, List.set_cons_succ])
    go_cut [73] (fun v73 wc => ∃ (kq : Nat) (x73_7 : Bool), v73 = .bool x73_7 ∧ Aside0 (laws_FnCommon.j0 kq t245 t246 t247 t248 t251 x73_7 = some r) ∧ Aside0 (kq ≤ k) ∧ Aside0 (Below w.heap.size w wc))
    case first =>
      have H := HC8.out
      clear HC8
      by_cases c14 : (t248 != t250) = true
      · rw [if_pos c14] at H
        have c14b0 : (t248 != t250) = true := c14
        (try (have c14b1 : decide (t248 = t250) = false := by simpa using c14))
        (try (have c14b2 : (t248 == t250) = false := by simpa using c14))
        (try (have c14b3 : ¬ (t248 = t250) := by simpa using c14))
        clear c14
        (first | rw [c14b0] | (simp only [i64_w, i32_w]; rw [c14b0]) | skip)
        have H' := Aside0.mk H
        clear H
        go_wp2
        go_meet
        case rel => exact ⟨_, (true), (by first | rfl | (simp; done) | (simp [*]; done)), H', ⟨by first | omega | exact Nat.le_refl _⟩, ⟨by repeat (first | (with_reducible first | exact HB.out | apply below_alloc | apply pw_below_drewN | apply below_drew1) | exact HB.out)⟩⟩
      · rw [if_neg c14] at H
        have c14b0 : (t248 != t250) = false := by simpa using c14
        (try (have c14b1 : decide (t248 = t250) = true := by simpa using c14))
        (try (have c14b2 : (t248 == t250) = true := by simpa using c14))
        clear c14
        (first | rw [c14b0] | (simp only [i64_w, i32_w]; rw [c14b0]) | skip)
        by_cases c15 : t247.toList = t249.toList
        · rw [if_pos c15] at H
          have c15b0 : (t247.toList == t249.toList) = true := beq_iff_eq.mpr c15
          have c15b1 : (t247.toList != t249.toList) = false := bne_eq_false_iff_eq.mpr c15
          clear c15
          by_cases c16 : (t252 != t254) = true
          · rw [if_pos c16] at H
            have c16b0 : (t252 != t254) = true := c16
            (try (have c16b1 : decide (t252 = t254) = false := by simpa using c16))
            (try (have c16b2 : (t252 == t254) = false := by simpa using c16))
            (try (have c16b3 : ¬ (t252 = t254) := by simpa using c16))
            clear c16
            have H' := Aside0.mk H
            clear H
            go_wp2
            go_meet
            case rel => exact ⟨_, (true), (by first | rfl | (simp; done) | (simp [*]; done)), H', ⟨by first | omega | exact Nat.le_refl _⟩, ⟨by repeat (first | (with_reducible first | exact HB.out | apply below_alloc | apply pw_below_drewN | apply below_drew1) | exact HB.out)⟩⟩
          · rw [if_neg c16] at H
            have c16b0 : (t252 != t254) = false := by simpa using c16
            (try (have c16b1 : decide (t252 = t254) = true := by simpa using c16))
            (try (have c16b2 : (t252 == t254) = true := by simpa using c16))
            clear c16
            have H' := Aside0.mk H
            clear H
            go_wp2
            go_meet
            case rel => exact ⟨_, ((t251 != t253)), (by first | rfl | (simp; done) | (simp [*]; done)), H', ⟨by first | omega | exact Nat.le_refl _⟩, ⟨by repeat (first | (with_reducible first | exact HB.out | apply below_alloc | apply pw_below_drewN | apply below_drew1) | exact HB.out)⟩⟩
        · rw [if_neg c15] at H
          have c15b0 : (t247.toList == t249.toList) = false := beq_eq_false_iff_ne.mpr c15
          have c15b1 : (t247.toList != t249.toList) = true := bne_iff_ne.mpr c15
          have H' := Aside0.mk H
          clear H
          go_wp2
          go_meet
          case rel => exact ⟨_, (true), (by first | rfl | (simp; done) | (simp [*]; done)), H', ⟨by first | omega | exact Nat.le_refl _⟩, ⟨by repeat (first | (with_reducible first | exact HB.out | apply below_alloc | apply pw_below_drewN | apply below_drew1) | exact HB.out)⟩⟩
    case rest =>
      clear HC8
      try clear c1
      try clear c2
      try clear c2b0
      try clear c2b1
      try clear p2
      try clear c4
      try clear c11
      try clear c12
      try clear c13
      try clear c14
      try clear c14b0
      try clear c14b1
      try clear c14b2
      try clear c15
      try clear c15b0
      try clear c15b1
      try clear c16
      try clear c16b0
      try clear c16b1
      try clear c16b2
      obtain ⟨kq, x73_7, rfl, HA, HJ7, HB⟩ := hcut
      cases kq with
      | zero => exact absurd HA.out (by simp [laws_FnCommon.j0])
      | succ kj7 =>
        have H := HA.out
        clear HA
        simp only [laws_FnCommon.j0] at H
        by_cases c17 : x73_7 = true
        · subst c17
          have H1 : (some false) = some r := by rw [if_pos rfl] at H; exact H
          clear H
          have H := H1
          clear H1
          obtain rfl := Option.some.inj H
          go_wp2
          go_ret
          exact ⟨by first | rfl | (simp [errW_none, errW_some] <;> rfl) | (simp [*, errW_none, errW_some] <;> rfl), by repeat (first | (with_reducible first | exact HB.out | apply below_alloc | apply pw_below_drewN | apply below_drew1) | exact HB.out)⟩
        · replace c17 := Bool.eq_false_iff.mpr c17
          subst c17
          have H1 : (if t248 = true then ((impl_CommonOf.f kj7 t246 t245).bind fun bt255 => ((impl_IsBelow.f t245 t247).bind fun bt257 => ((impl_IsBelow.f t246 t247).bind fun bt259 => (if bt255.2 = true then (if bt255.1.toList = t247.toList then (if bt257.2 = true then (if bt257.1 = true then (if bt259.2 = true then (if bt259.1 = true then (laws_FnCommon.j1 kj7 t245 t246 t247 (t251 != (t247.toList == t246.toList))) else (laws_FnCommon.j1 kj7 t245 t246 t247 true)) else (laws_FnCommon.j1 kj7 t245 t246 t247 true)) else (laws_FnCommon.j1 kj7 t245 t246 t247 true)) else (laws_FnCommon.j1 kj7 t245 t246 t247 true)) else (laws_FnCommon.j1 kj7 t245 t246 t247 true)) else (laws_FnCommon.j1 kj7 t245 t246 t247 true))))) else (some (t247.toList == ([] : List UInt8)))) = some r := by rw [if_neg (show ¬ (false = true) by decide)] at H; exact H
          clear H
          have H := H1
          clear H1
          by_cases c18 : t248 = true
          · subst c18
            have H1 : ((impl_CommonOf.f kj7 t246 t245).bind fun bt255 => ((impl_IsBelow.f t245 t247).bind fun bt257 => ((impl_IsBelow.f t246 t247).bind fun bt259 => (if bt255.2 = true then (if bt255.1.toList = t247.toList then (if bt257.2 = true then (if bt257.1 = true then (if bt259.2 = true then (if bt259.1 = true then (laws_FnCommon.j1 kj7 t245 t246 t247 (t251 != (t247.toList == t246.toList))) else (laws_FnCommon.j1 kj7 t245 t246 t247 true)) else (laws_FnCommon.j1 kj7 t245 t246 t247 true)) else (laws_FnCommon.j1 kj7 t245 t246 t247 true)) else (laws_FnCommon.j1 kj7 t245 t246 t247 true)) else (laws_FnCommon.j1 kj7 t245 t246 t247 true)) else (laws_FnCommon.j1 kj7 t245 t246 t247 true))))) = some r := by rw [if_pos rfl] at H; exact H
            clear H
            have H := H1
            clear H1
            replace H := Option.bind_eq_some_iff.mp H
            obtain ⟨⟨t255, t256⟩, A190, H⟩ := H
            replace H : ((impl_IsBelow.f t245 t247).bind fun bt257 => ((impl_IsBelow.f t246 t247).bind fun bt259 => (if t256 = true then (if t255.toList = t247.toList then (if bt257.2 = true then (if bt257.1 = true then (if bt259.2 = true then (if bt259.1 = true then (laws_FnCommon.j1 kj7 t245 t246 t247 (t251 != (t247.toList == t246.toList))) else (laws_FnCommon.j1 kj7 t245 t246 t247 true)) else (laws_FnCommon.j1 kj7 t245 t246 t247 true)) else (laws_FnCommon.j1 kj7 t245 t246 t247 true)) else (laws_FnCommon.j1 kj7 t245 t246 t247 true)) else (laws_FnCommon.j1 kj7 t245 t246 t247 true)) else (laws_FnCommon.j1 kj7 t245 t246 t247 true)))) = some r := H
            have A19 := Aside0.mk A190
            clear A190
            replace H := Option.bind_eq_some_iff.mp H
            obtain ⟨⟨t257, t258⟩, A200, H⟩ := H
            replace H : ((impl_IsBelow.f t246 t247).bind fun bt259 => (if t256 = true then (if t255.toList = t247.toList then (if t258 = true then (if t257 = true then (if bt259.2 = true then (if bt259.1 = true then (laws_FnCommon.j1 kj7 t245 t246 t247 (t251 != (t247.toList == t246.toList))) else (laws_FnCommon.j1 kj7 t245 t246 t247 true)) else (laws_FnCommon.j1 kj7 t245 t246 t247 true)) else (laws_FnCommon.j1 kj7 t245 t246 t247 true)) else (laws_FnCommon.j1 kj7 t245 t246 t247 true)) else (laws_FnCommon.j1 kj7 t245 t246 t247 true)) else (laws_FnCommon.j1 kj7 t245 t246 t247 true))) = some r := H
            have A20 := Aside0.mk A200
            clear A200
            replace H := Option.bind_eq_some_iff.mp H
            obtain ⟨⟨t259, t260⟩, A210, H⟩ := H
            replace H : (if t256 = true then (if t255.toList = t247.toList then (if t258 = true then (if t257 = true then (if t260 = true then (if t259 = true then (laws_FnCommon.j1 kj7 t245 t246 t247 (t251 != (t247.toList == t246.toList))) else (laws_FnCommon.j1 kj7 t245 t246 t247 true)) else (laws_FnCommon.j1 kj7 t245 t246 t247 true)) else (laws_FnCommon.j1 kj7 t245 t246 t247 true)) else (laws_FnCommon.j1 kj7 t245 t246 t247 true)) else (laws_FnCommon.j1 kj7 t245 t246 t247 true)) else (laws_FnCommon.j1 kj7 t245 t246 t247 true)) = some r := H
            have A21 := Aside0.mk A210
            clear A210
            have HC22 := Aside0.mk H
            clear H
            go_upto_region 15 with (first | ((with_reducible refine gate_callee (f := 12) rfl ?_); refine goesL_ (some 81) rfl rfl Tryd.func12 (by kernel_rfl) rfl #[.string t246, .string t245] rfl (by (try simp only [List.map_toArray, List.map_cons, List.map_nil]); first | done | rfl | (simp only [List.length_drop, List.length_take]; rfl)) ?_; (with_reducible refine (impl_CommonOf.calls kj7 t246 t245 t255 t256 _ A19.out).mono ?_); rintro e w23 ⟨rfl, hb⟩; refine ⟨_, rfl, ?_⟩; have n0_ := Aside0.mk (below_step (by repeat (first | (with_reducible first | exact HB.out | apply below_alloc | apply pw_below_drewN | apply below_drew1) | exact HB.out)) hb); clear HB; have HB := n0_; clear n0_; (try clear hb); (try clear hb2); (try clear hk); (try clear hi)) | ((with_reducible refine gate_callee (f := 14) rfl ?_); refine goesL_ (some 87) rfl rfl Tryd.func14 (by kernel_rfl) rfl #[.string t245, .string t247] rfl (by (try simp only [List.map_toArray, List.map_cons, List.map_nil]); first | done | rfl | (simp only [List.length_drop, List.length_take]; rfl)) ?_; (with_reducible refine (impl_IsBelow.calls t245 t247 t257 t258 _ A20.out).mono ?_); rintro e w24 ⟨rfl, hb⟩; refine ⟨_, rfl, ?_⟩; have n0_ := Aside0.mk (below_step (by repeat (first | (with_reducible first | exact HB.out | apply below_alloc | apply pw_below_drewN | apply below_drew1) | exact HB.out)) hb); clear HB; have HB := n0_; clear n0_; (try clear hb); (try clear hb2); (try clear hk); (try clear hi)) | ((with_reducible refine gate_callee (f := 14) rfl ?_); refine goesL_ (some 93) rfl rfl Tryd.func14 (by kernel_rfl) rfl #[.string t246, .string t247] rfl (by (try simp only [List.map_toArray, List.map_cons, List.map_nil]); first | done | rfl | (simp only [List.length_drop, List.length_take]; rfl)) ?_; (with_reducible refine (impl_IsBelow.calls t246 t247 t259 t260 _ A21.out).mono ?_); rintro e w25 ⟨rfl, hb⟩; refine ⟨_, rfl, ?_⟩; have n0_ := Aside0.mk (below_step (by repeat (first | (with_reducible first | exact HB.out | apply below_alloc | apply pw_below_drewN | apply below_drew1) | exact HB.out)) hb); clear HB; have HB := n0_; clear n0_; (try clear hb); (try clear hb2); (try clear hk); (try clear hi)))
            (try simp only [Act.put, List.setIfInBounds_toArray, List.set_cons_zero, List.set_cons_succ])
            go_cut [125] (fun v125 wc => ∃ (kq : Nat) (x125_21 : Bool), v125 = .bool x125_21 ∧ Aside0 (laws_FnCommon.j1 kq t245 t246 t247 x125_21 = some r) ∧ Aside0 (kq ≤ kj7) ∧ Aside0 (Below w.heap.size w wc))
            case first =>
              have H := HC22.out
              clear HC22
              by_cases c26 : t256 = true
              · subst c26
                have H1 : (if t255.toList = t247.toList then (if t258 = true then (if t257 = true then (if t260 = true then (if t259 = true then (laws_FnCommon.j1 kj7 t245 t246 t247 (t251 != (t247.toList == t246.toList))) else (laws_FnCommon.j1 kj7 t245 t246 t247 true)) else (laws_FnCommon.j1 kj7 t245 t246 t247 true)) else (laws_FnCommon.j1 kj7 t245 t246 t247 true)) else (laws_FnCommon.j1 kj7 t245 t246 t247 true)) else (laws_FnCommon.j1 kj7 t245 t246 t247 true)) = some r := by rw [if_pos rfl] at H; exact H
                clear H
                have H := H1
                clear H1
                by_cases c27 : t255.toList = t247.toList
                · rw [if_pos c27] at H
                  have c27b0 : (t255.toList == t247.toList) = true := beq_iff_eq.mpr c27
                  have c27b1 : (t255.toList != t247.toList) = false := bne_eq_false_iff_eq.mpr c27
                  clear c27
                  (first | rw [c27b0] | (simp only [i64_w, i32_w]; rw [c27b0]) | skip)
                  by_cases c28 : t258 = true
                  · subst c28
                    have H1 : (if t257 = true then (if t260 = true then (if t259 = true then (laws_FnCommon.j1 kj7 t245 t246 t247 (t251 != (t247.toList == t246.toList))) else (laws_FnCommon.j1 kj7 t245 t246 t247 true)) else (laws_FnCommon.j1 kj7 t245 t246 t247 true)) else (laws_FnCommon.j1 kj7 t245 t246 t247 true)) = some r := by rw [if_pos rfl] at H; exact H
                    clear H
                    have H := H1
                    clear H1
                    by_cases c29 : t257 = true
                    · subst c29
                      have H1 : (if t260 = true then (if t259 = true then (laws_FnCommon.j1 kj7 t245 t246 t247 (t251 != (t247.toList == t246.toList))) else (laws_FnCommon.j1 kj7 t245 t246 t247 true)) else (laws_FnCommon.j1 kj7 t245 t246 t247 true)) = some r := by rw [if_pos rfl] at H; exact H
                      clear H
                      have H := H1
                      clear H1
                      by_cases c30 : t260 = true
                      · subst c30
                        have H1 : (if t259 = true then (laws_FnCommon.j1 kj7 t245 t246 t247 (t251 != (t247.toList == t246.toList))) else (laws_FnCommon.j1 kj7 t245 t246 t247 true)) = some r := by rw [if_pos rfl] at H; exact H
                        clear H
                        have H := H1
                        clear H1
                        by_cases c31 : t259 = true
                        · subst c31
                          have H1 : (laws_FnCommon.j1 kj7 t245 t246 t247 (t251 != (t247.toList == t246.toList))) = some r := by rw [if_pos rfl] at H; exact H
                          clear H
                          have H := H1
                          clear H1
                          have H' := Aside0.mk H
                          clear H
                          go_wp2
                          go_meet
                          case rel => exact ⟨_, ((t251 != (t247.toList == t246.toList))), (by first | rfl | (simp; done) | (simp [*]; done)), H', ⟨by have := HJ7.out; first | omega | exact Nat.le_refl _⟩, ⟨by repeat (first | (with_reducible first | exact HB.out | apply below_alloc | apply pw_below_drewN | apply below_drew1) | exact HB.out)⟩⟩
                        · replace c31 := Bool.eq_false_iff.mpr c31
                          subst c31
                          have H1 : (laws_FnCommon.j1 kj7 t245 t246 t247 true) = some r := by rw [if_neg (show ¬ (false = true) by decide)] at H; exact H
                          clear H
                          have H := H1
                          clear H1
                          have H' := Aside0.mk H
                          clear H
                          go_wp2
                          go_meet
                          case rel => exact ⟨_, (true), (by first | rfl | (simp; done) | (simp [*]; done)), H', ⟨by have := HJ7.out; first | omega | exact Nat.le_refl _⟩, ⟨by repeat (first | (with_reducible first | exact HB.out | apply below_alloc | apply pw_below_drewN | apply below_drew1) | exact HB.out)⟩⟩
                      · replace c30 := Bool.eq_false_iff.mpr c30
                        subst c30
                        have H1 : (laws_FnCommon.j1 kj7 t245 t246 t247 true) = some r := by rw [if_neg (show ¬ (false = true) by decide)] at H; exact H
                        clear H
                        have H := H1
                        clear H1
                        have H' := Aside0.mk H
                        clear H
                        go_wp2
                        go_meet
                        case rel => exact ⟨_, (true), (by first | rfl | (simp; done) | (simp [*]; done)), H', ⟨by have := HJ7.out; first | omega | exact Nat.le_refl _⟩, ⟨by repeat (first | (with_reducible first | exact HB.out | apply below_alloc | apply pw_below_drewN | apply below_drew1) | exact HB.out)⟩⟩
                    · replace c29 := Bool.eq_false_iff.mpr c29
                      subst c29
                      have H1 : (laws_FnCommon.j1 kj7 t245 t246 t247 true) = some r := by rw [if_neg (show ¬ (false = true) by decide)] at H; exact H
                      clear H
                      have H := H1
                      clear H1
                      have H' := Aside0.mk H
                      clear H
                      go_wp2
                      go_meet
                      case rel => exact ⟨_, (true), (by first | rfl | (simp; done) | (simp [*]; done)), H', ⟨by have := HJ7.out; first | omega | exact Nat.le_refl _⟩, ⟨by repeat (first | (with_reducible first | exact HB.out | apply below_alloc | apply pw_below_drewN | apply below_drew1) | exact HB.out)⟩⟩
                  · replace c28 := Bool.eq_false_iff.mpr c28
                    subst c28
                    have H1 : (laws_FnCommon.j1 kj7 t245 t246 t247 true) = some r := by rw [if_neg (show ¬ (false = true) by decide)] at H; exact H
                    clear H
                    have H := H1
                    clear H1
                    have H' := Aside0.mk H
                    clear H
                    go_wp2
                    go_meet
                    case rel => exact ⟨_, (true), (by first | rfl | (simp; done) | (simp [*]; done)), H', ⟨by have := HJ7.out; first | omega | exact Nat.le_refl _⟩, ⟨by repeat (first | (with_reducible first | exact HB.out | apply below_alloc | apply pw_below_drewN | apply below_drew1) | exact HB.out)⟩⟩
                · rw [if_neg c27] at H
                  have c27b0 : (t255.toList == t247.toList) = false := beq_eq_false_iff_ne.mpr c27
                  have c27b1 : (t255.toList != t247.toList) = true := bne_iff_ne.mpr c27
                  (first | rw [c27b0] | (simp only [i64_w, i32_w]; rw [c27b0]) | skip)
                  have H' := Aside0.mk H
                  clear H
                  go_wp2
                  go_meet
                  case rel => exact ⟨_, (true), (by first | rfl | (simp; done) | (simp [*]; done)), H', ⟨by have := HJ7.out; first | omega | exact Nat.le_refl _⟩, ⟨by repeat (first | (with_reducible first | exact HB.out | apply below_alloc | apply pw_below_drewN | apply below_drew1) | exact HB.out)⟩⟩
              · replace c26 := Bool.eq_false_iff.mpr c26
                subst c26
                have H1 : (laws_FnCommon.j1 kj7 t245 t246 t247 true) = some r := by rw [if_neg (show ¬ (false = true) by decide)] at H; exact H
                clear H
                have H := H1
                clear H1
                have H' := Aside0.mk H
                clear H
                go_wp2
                go_meet
                case rel => exact ⟨_, (true), (by first | rfl | (simp; done) | (simp [*]; done)), H', ⟨by have := HJ7.out; first | omega | exact Nat.le_refl _⟩, ⟨by repeat (first | (with_reducible first | exact HB.out | apply below_alloc | apply pw_below_drewN | apply below_drew1) | exact HB.out)⟩⟩
            case rest =>
              clear HC22
              try clear c1
              try clear c2
              try clear c2b0
              try clear c2b1
              try clear p2
              try clear c3
              try clear c4
              try clear c11
              try clear c12
              try clear c13
              try clear c14
              try clear c14b0
              try clear c14b1
              try clear c14b2
              try clear c15
              try clear c15b0
              try clear c15b1
              try clear c16
              try clear c16b0
              try clear c16b1
              try clear c16b2
              try clear c17
              try clear c18
              try clear c26
              try clear c27
              try clear c27b0
              try clear c27b1
              try clear c28
              try clear c29
              try clear c30
              try clear c31
              try clear p2
              obtain ⟨kq, x125_21, rfl, HA, HJ21, HB⟩ := hcut
              cases kq with
              | zero => exact absurd HA.out (by simp [laws_FnCommon.j1])
              | succ kj21 =>
                have H := HA.out
                clear HA
                simp only [laws_FnCommon.j1] at H
                by_cases c32 : x125_21 = true
                · subst c32
                  have H1 : (some false) = some r := by rw [if_pos rfl] at H; exact H
                  clear H
                  have H := H1
                  clear H1
                  obtain rfl := Option.some.inj H
                  go_wp2
                  go_ret
                  exact ⟨by first | rfl | (simp [errW_none, errW_some] <;> rfl) | (simp [*, errW_none, errW_some] <;> rfl), by repeat (first | (with_reducible first | exact HB.out | apply below_alloc | apply pw_below_drewN | apply below_drew1) | exact HB.out)⟩
                · replace c32 := Bool.eq_false_iff.mpr c32
                  subst c32
                  have H1 : (laws_FnCommon.l0 kj21 t246 t247 t245) = some r := by rw [if_neg (show ¬ (false = true) by decide)] at H; exact H
                  clear H
                  have H := H1
                  clear H1
                  have H' := Aside0.mk H
                  clear H
                  go_wp2
                  go_loopg [19] kj21 (fun kq v19 w' => ∃ (x19_3 : ByteArray), v19 = .string x19_3 ∧ Aside0 (laws_FnCommon.l0 kq t246 t247 x19_3 = some r) ∧ Aside0 (kq ≤ kj21) ∧ Aside0 (Below w.heap.size w w'))
                  case atStart => exact ⟨(t245), (by first | rfl | (simp; done) | (simp [*]; done)), H', ⟨Nat.le_refl _⟩, ⟨by repeat (first | (with_reducible first | exact HB.out | apply below_alloc | apply pw_below_drewN | apply below_drew1) | exact HB.out)⟩⟩
                  case round =>
                    clear H'
                    try clear c1
                    try clear c2
                    try clear c2b0
                    try clear c2b1
                    try clear p2
                    try clear c3
                    try clear c4
                    try clear c11
                    try clear c12
                    try clear c13
                    try clear c14
                    try clear c14b0
                    try clear c14b1
                    try clear c14b2
                    try clear c15
                    try clear c15b0
                    try clear c15b1
                    try clear c16
                    try clear c16b0
                    try clear c16b1
                    try clear c16b2
                    try clear c17
                    try clear c18
                    try clear c26
                    try clear c27
                    try clear c27b0
                    try clear c27b1
                    try clear c28
                    try clear c29
                    try clear c30
                    try clear c31
                    try clear c32
                    try clear p2
                    obtain ⟨x19_3, rfl, HA, HK3, HB⟩ := hrel
                    cases gk with
                    | zero => exact absurd HA.out (by simp [laws_FnCommon.l0])
                    | succ k3 =>
                      have H := HA.out
                      clear HA
                      simp only [laws_FnCommon.l0] at H
                      by_cases c33 : x19_3.toList = t247.toList
                      · rw [if_pos c33] at H
                        have c33b0 : (x19_3.toList == t247.toList) = true := beq_iff_eq.mpr c33
                        have c33b1 : (x19_3.toList != t247.toList) = false := bne_eq_false_iff_eq.mpr c33
                        clear c33
                        obtain rfl := Option.some.inj H
                        go_wp2
                        go_ret
                        exact ⟨by first | rfl | (simp [errW_none, errW_some] <;> rfl) | (simp [*, errW_none, errW_some] <;> rfl), by repeat (first | (with_reducible first | exact HB.out | apply below_alloc | apply pw_below_drewN | apply below_drew1) | exact HB.out)⟩
                      · rw [if_neg c33] at H
                        have c33b0 : (x19_3.toList == t247.toList) = false := beq_eq_false_iff_ne.mpr c33
                        have c33b1 : (x19_3.toList != t247.toList) = true := bne_iff_ne.mpr c33
                        replace H := Option.bind_eq_some_iff.mp H
                        obtain ⟨⟨t261, t262⟩, A340, H⟩ := H
                        replace H : ((impl_ParentOf.f x19_3).bind fun bt263 => (if t262 = true then (if t261 = true then (some false) else (if bt263.2 = true then (laws_FnCommon.l0 k3 t246 t247 bt263.1) else (some false))) else (some false))) = some r := H
                        have A34 := Aside0.mk A340
                        clear A340
                        replace H := Option.bind_eq_some_iff.mp H
                        obtain ⟨⟨t263, t264⟩, A350, H⟩ := H
                        replace H : (if t262 = true then (if t261 = true then (some false) else (if t264 = true then (laws_FnCommon.l0 k3 t246 t247 t263) else (some false))) else (some false)) = some r := H
                        have A35 := Aside0.mk A350
                        clear A350
                        by_cases c36 : t262 = true
                        · subst c36
                          have H1 : (if t261 = true then (some false) else (if t264 = true then (laws_FnCommon.l0 k3 t246 t247 t263) else (some false))) = some r := by rw [if_pos rfl] at H; exact H
                          clear H
                          have H := H1
                          clear H1
                          by_cases c37 : t261 = true
                          · subst c37
                            have H1 : (some false) = some r := by rw [if_pos rfl] at H; exact H
                            clear H
                            have H := H1
                            clear H1
                            obtain rfl := Option.some.inj H
                            go_wp2_with (first | ((with_reducible refine gate_callee (f := 14) rfl ?_); refine goesL_ (some 133) rfl rfl Tryd.func14 (by kernel_rfl) rfl #[.string t246, .string x19_3] rfl (by (try simp only [List.map_toArray, List.map_cons, List.map_nil]); first | done | rfl | (simp only [List.length_drop, List.length_take]; rfl)) ?_; (with_reducible refine (impl_IsBelow.calls t246 x19_3 true true _ A34.out).mono ?_); rintro e w38 ⟨rfl, hb⟩; refine ⟨_, rfl, ?_⟩; have n0_ := Aside0.mk (below_step (by repeat (first | (with_reducible first | exact HB.out | apply below_alloc | apply pw_below_drewN | apply below_drew1) | exact HB.out)) hb); clear HB; have HB := n0_; clear n0_; (try clear hb); (try clear hb2); (try clear hk); (try clear hi)) | ((with_reducible refine gate_callee (f := 16) rfl ?_); refine goesL_ (some 138) rfl rfl Tryd.func16 (by kernel_rfl) rfl #[.string x19_3] rfl (by (try simp only [List.map_toArray, List.map_cons, List.map_nil]); first | done | rfl | (simp only [List.length_drop, List.length_take]; rfl)) ?_; (with_reducible refine (impl_ParentOf.calls x19_3 t263 t264 _ A35.out).mono ?_); rintro e w39 ⟨rfl, hb⟩; refine ⟨_, rfl, ?_⟩; have n0_ := Aside0.mk (below_step (by repeat (first | (with_reducible first | exact HB.out | apply below_alloc | apply pw_below_drewN | apply below_drew1) | exact HB.out)) hb); clear HB; have HB := n0_; clear n0_; (try clear hb); (try clear hb2); (try clear hk); (try clear hi)))
                            go_ret
                            exact ⟨by first | rfl | (simp [errW_none, errW_some] <;> rfl) | (simp [*, errW_none, errW_some] <;> rfl), by repeat (first | (with_reducible first | exact HB.out | apply below_alloc | apply pw_below_drewN | apply below_drew1) | exact HB.out)⟩
                          · replace c37 := Bool.eq_false_iff.mpr c37
                            subst c37
                            have H1 : (if t264 = true then (laws_FnCommon.l0 k3 t246 t247 t263) else (some false)) = some r := by rw [if_neg (show ¬ (false = true) by decide)] at H; exact H
                            clear H
                            have H := H1
                            clear H1
                            by_cases c40 : t264 = true
                            · subst c40
                              have H1 : (laws_FnCommon.l0 k3 t246 t247 t263) = some r := by rw [if_pos rfl] at H; exact H
                              clear H
                              have H := H1
                              clear H1
                              have H' := Aside0.mk H
                              clear H
                              go_wp2_with (first | ((with_reducible refine gate_callee (f := 14) rfl ?_); refine goesL_ (some 133) rfl rfl Tryd.func14 (by kernel_rfl) rfl #[.string t246, .string x19_3] rfl (by (try simp only [List.map_toArray, List.map_cons, List.map_nil]); first | done | rfl | (simp only [List.length_drop, List.length_take]; rfl)) ?_; (with_reducible refine (impl_IsBelow.calls t246 x19_3 false true _ A34.out).mono ?_); rintro e w41 ⟨rfl, hb⟩; refine ⟨_, rfl, ?_⟩; have n0_ := Aside0.mk (below_step (by repeat (first | (with_reducible first | exact HB.out | apply below_alloc | apply pw_below_drewN | apply below_drew1) | exact HB.out)) hb); clear HB; have HB := n0_; clear n0_; (try clear hb); (try clear hb2); (try clear hk); (try clear hi)) | ((with_reducible refine gate_callee (f := 16) rfl ?_); refine goesL_ (some 138) rfl rfl Tryd.func16 (by kernel_rfl) rfl #[.string x19_3] rfl (by (try simp only [List.map_toArray, List.map_cons, List.map_nil]); first | done | rfl | (simp only [List.length_drop, List.length_take]; rfl)) ?_; (with_reducible refine (impl_ParentOf.calls x19_3 t263 true _ A35.out).mono ?_); rintro e w42 ⟨rfl, hb⟩; refine ⟨_, rfl, ?_⟩; have n0_ := Aside0.mk (below_step (by repeat (first | (with_reducible first | exact HB.out | apply below_alloc | apply pw_below_drewN | apply below_drew1) | exact HB.out)) hb); clear HB; have HB := n0_; clear n0_; (try clear hb); (try clear hb2); (try clear hk); (try clear hi)))
                              go_roundg k3
                              case measure => have := HJ7.out; have := HJ21.out; have := HK3.out; omega
                              case rel => exact ⟨(t263), (by first | rfl | (simp; done) | (simp [*]; done)), H', ⟨by have := HJ7.out; have := HJ21.out; have := HK3.out; omega⟩, ⟨by repeat (first | (with_reducible first | exact HB.out | apply below_alloc | apply pw_below_drewN | apply below_drew1) | exact HB.out)⟩⟩
                            · replace c40 := Bool.eq_false_iff.mpr c40
                              subst c40
                              have H1 : (some false) = some r := by rw [if_neg (show ¬ (false = true) by decide)] at H; exact H
                              clear H
                              have H := H1
                              clear H1
                              obtain rfl := Option.some.inj H
                              go_wp2_with (first | ((with_reducible refine gate_callee (f := 14) rfl ?_); refine goesL_ (some 133) rfl rfl Tryd.func14 (by kernel_rfl) rfl #[.string t246, .string x19_3] rfl (by (try simp only [List.map_toArray, List.map_cons, List.map_nil]); first | done | rfl | (simp only [List.length_drop, List.length_take]; rfl)) ?_; (with_reducible refine (impl_IsBelow.calls t246 x19_3 false true _ A34.out).mono ?_); rintro e w43 ⟨rfl, hb⟩; refine ⟨_, rfl, ?_⟩; have n0_ := Aside0.mk (below_step (by repeat (first | (with_reducible first | exact HB.out | apply below_alloc | apply pw_below_drewN | apply below_drew1) | exact HB.out)) hb); clear HB; have HB := n0_; clear n0_; (try clear hb); (try clear hb2); (try clear hk); (try clear hi)) | ((with_reducible refine gate_callee (f := 16) rfl ?_); refine goesL_ (some 138) rfl rfl Tryd.func16 (by kernel_rfl) rfl #[.string x19_3] rfl (by (try simp only [List.map_toArray, List.map_cons, List.map_nil]); first | done | rfl | (simp only [List.length_drop, List.length_take]; rfl)) ?_; (with_reducible refine (impl_ParentOf.calls x19_3 t263 false _ A35.out).mono ?_); rintro e w44 ⟨rfl, hb⟩; refine ⟨_, rfl, ?_⟩; have n0_ := Aside0.mk (below_step (by repeat (first | (with_reducible first | exact HB.out | apply below_alloc | apply pw_below_drewN | apply below_drew1) | exact HB.out)) hb); clear HB; have HB := n0_; clear n0_; (try clear hb); (try clear hb2); (try clear hk); (try clear hi)))
                              go_ret
                              exact ⟨by first | rfl | (simp [errW_none, errW_some] <;> rfl) | (simp [*, errW_none, errW_some] <;> rfl), by repeat (first | (with_reducible first | exact HB.out | apply below_alloc | apply pw_below_drewN | apply below_drew1) | exact HB.out)⟩
                        · replace c36 := Bool.eq_false_iff.mpr c36
                          subst c36
                          have H1 : (some false) = some r := by rw [if_neg (show ¬ (false = true) by decide)] at H; exact H
                          clear H
                          have H := H1
                          clear H1
                          obtain rfl := Option.some.inj H
                          go_wp2_with (first | ((with_reducible refine gate_callee (f := 14) rfl ?_); refine goesL_ (some 133) rfl rfl Tryd.func14 (by kernel_rfl) rfl #[.string t246, .string x19_3] rfl (by (try simp only [List.map_toArray, List.map_cons, List.map_nil]); first | done | rfl | (simp only [List.length_drop, List.length_take]; rfl)) ?_; (with_reducible refine (impl_IsBelow.calls t246 x19_3 t261 false _ A34.out).mono ?_); rintro e w45 ⟨rfl, hb⟩; refine ⟨_, rfl, ?_⟩; have n0_ := Aside0.mk (below_step (by repeat (first | (with_reducible first | exact HB.out | apply below_alloc | apply pw_below_drewN | apply below_drew1) | exact HB.out)) hb); clear HB; have HB := n0_; clear n0_; (try clear hb); (try clear hb2); (try clear hk); (try clear hi)) | ((with_reducible refine gate_callee (f := 16) rfl ?_); refine goesL_ (some 138) rfl rfl Tryd.func16 (by kernel_rfl) rfl #[.string x19_3] rfl (by (try simp only [List.map_toArray, List.map_cons, List.map_nil]); first | done | rfl | (simp only [List.length_drop, List.length_take]; rfl)) ?_; (with_reducible refine (impl_ParentOf.calls x19_3 t263 t264 _ A35.out).mono ?_); rintro e w46 ⟨rfl, hb⟩; refine ⟨_, rfl, ?_⟩; have n0_ := Aside0.mk (below_step (by repeat (first | (with_reducible first | exact HB.out | apply below_alloc | apply pw_below_drewN | apply below_drew1) | exact HB.out)) hb); clear HB; have HB := n0_; clear n0_; (try clear hb); (try clear hb2); (try clear hk); (try clear hi)))
                          go_ret
                          exact ⟨by first | rfl | (simp [errW_none, errW_some] <;> rfl) | (simp [*, errW_none, errW_some] <;> rfl), by repeat (first | (with_reducible first | exact HB.out | apply below_alloc | apply pw_below_drewN | apply below_drew1) | exact HB.out)⟩
          · replace c18 := Bool.eq_false_iff.mpr c18
            subst c18
            have H1 : (some (t247.toList == ([] : List UInt8))) = some r := by rw [if_neg (show ¬ (false = true) by decide)] at H; exact H
            clear H
            have H := H1
            clear H1
            obtain rfl := Option.some.inj H
            go_wp2
            go_ret
            exact ⟨by first | rfl | (simp [errW_none, errW_some] <;> rfl) | (simp [*, errW_none, errW_some] <;> rfl), by repeat (first | (with_reducible first | exact HB.out | apply below_alloc | apply pw_below_drewN | apply below_drew1) | exact HB.out)⟩

/-- THE ONE PURE STATEMENT of laws_FnCommon: yours. -/
def laws_FnCommon.Pure : Prop := ∀ (l0 : List Int), l0.length ≤ maxLen → l0.length * 1 ≤ 140737488351232 → (∀ x ∈ l0, (Lit.int .u8 x).wf = true) → ∃ k, laws_FnCommon.f k l0 = some true
theorem laws_FnCommon.walk (P : laws_FnCommon.Pure) (a0 : Option Addr) (len0 cap0 : Nat) (z0 : List Int) (w : World) (w0 : (a0 = none ∧ len0 = 0 ∧ cap0 = 0 ∧ z0 = []) ∨ ∃ x, a0 = some x ∧ len0 ≤ cap0 ∧ cap0 ≤ maxLen ∧ z0.length = cap0 ∧ (∀ i, i < z0.length → w.cell? (x.add i) = some (.int .u8 (z0.getD i 0))) ∧ ∀ n ∈ z0, (Lit.int .u8 n).wf = true) (y0 : len0 * 1 ≤ 140737488351232) :
    Calls Tryd.prog 4 #[.slice a0 len0 cap0] w fun e w' => e = .returned (.bool true) ∧ Below w.heap.size w w' := by
  obtain ⟨l0, rfl, hr0, hm0, hw0, hc0⟩ := ReadsInt.ofRowC w0
  obtain ⟨k, h⟩ := P l0 hm0 y0 hw0
  refine (laws_FnCommon.calls k _ _ l0 true w (Kd.C_of_reads (d := (0 : Int)) (h1 := fun _ => rfl) hr0) hc0 h).mono ?_
  rintro e w' ⟨rfl, hd⟩
  exact ⟨rfl, hd⟩

end Go.Proofs.YtiipkjehlaenkaaDoor.P
