/- FnExactQuestionFor: part 22 of 27 of my texts for this claim, joined; the theorem stands in the last. Conditions: none beyond the statement's. -/
import Derived.Test.YtkpkfallgjdkmaaGreatDoorMFnExactQuestionForx2
import Derived.Test.YtkpkfallgjdkmaaGreatDoorMFnExactQuestionForx9
import Derived.Test.YtkpkfallgjdkmaaGreatDoorMFnExactQuestionForx15
import Derived.Test.YtkpkfallgjdkmaaGreatDoorMFnExactQuestionForx17
import Derived.Test.YtkpkfallgjdkmaaGreatDoorMFnExactQuestionForx18
import Derived.Test.YtkpkfallgjdkmaaGreatDoorMFnExactQuestionForx20
import Derived.Test.YtkpkfallgjdkmaaGreatDoorMFnExactQuestionForx11
-- F3
-- By my own call of the kit's print (wip/tools/pp.py).
namespace Go.Proofs.YtkpkfallgjdkmaaGreatDoor.P
open Go.RowKit Go.Proofs.YtkpkfallgjdkmaaGreatDoorW.PrintWords Go.Proofs.YtkpkfallgjdkmaaGreatDoorW.PrintLast Go.Proofs.YtkpkfallgjdkmaaGreatDoorW.PrintMore
attribute [local go_sem] max2_int min2_int max_two min_two max_three min_three max_four min_four
set_option linter.unusedVariables false
set_option linter.unusedSimpArgs false

/-! ### laws_FnExactQuestionFor: function 3 -/
mutual
def laws_FnExactQuestionFor.j0 : Nat → Int → ByteArray → Int → Bool → Bool → Int → Bool → Bool → Int → ByteArray → Int → List (S72) → List (S72) → Int → Bool → Bool → Int → ByteArray → Int → List (S72) → List (S72) → Option (Bool)
  | 0, _, _, _, _, _, _, _, _, _, _, _, _, _, _, _, _, _, _, _, _, _ => none
  | k + 1, x0, x1, x2, x8, x40, x261000, x261001, x261002, x261003, x261004, x261005, x261006, x261007, x275000, x275001, x275002, x275003, x275004, x275005, x275006, x275007 => if x40 = true then (some false) else ((laws_markMessage.f k x275000 x275001 x275002 x275003 x275004 x275005 x275006 x275007 1).bind fun bt276 => ((laws_heldMessage.f k x275000 x275001 x275002 x275003 x275004 x275005 bt276.2.1 bt276.2.2 1).bind fun t279 => (if t279 < 0 then (some false) else (if t279 = bt276.1 then ((impl_QuestionFor.f k x0 x1 x2).bind fun bt280 => ((laws_eqMessage.f k bt280.1 bt280.2.1 bt280.2.2.1 bt280.2.2.2.1 bt280.2.2.2.2.1 bt280.2.2.2.2.2.1 bt280.2.2.2.2.2.2.1 bt280.2.2.2.2.2.2.2.1 x261000 x261001 x261002 x261003 x261004 x261005 x261006 x261007).bind fun t294 => (if t294 = true then (laws_FnExactQuestionFor.j1 k bt276.1 (bt280.2.2.2.2.2.2.2.2 != x8) x275000 x275001 x275002 x275003 x275004 x275005 bt276.2.1 bt276.2.2) else (laws_FnExactQuestionFor.j1 k bt276.1 true x275000 x275001 x275002 x275003 x275004 x275005 bt276.2.1 bt276.2.2)))) else (some false)))))
def laws_FnExactQuestionFor.j1 : Nat → Int → Bool → Int → Bool → Bool → Int → ByteArray → Int → List (S72) → List (S72) → Option (Bool)
  | 0, _, _, _, _, _, _, _, _, _, _ => none
  | k + 1, x11, x67, x275000, x275001, x275002, x275003, x275004, x275005, x275006, x275007 => if x67 = true then (some false) else ((laws_heldMessage.f k x275000 x275001 x275002 x275003 x275004 x275005 x275006 x275007 1).bind fun t295 => (if t295 < 0 then (some false) else (if t295 = x11 then (some true) else (some false))))
end
def laws_FnExactQuestionFor.f (k : Nat) (a0 : Int) (a1 : ByteArray) (a2 : Int) : Option (Bool) := if (a1.size : Int) > 1048576 then (some true) else ((spec_QuestionFor.f k a0 a1 a2).bind fun bt247 => ((impl_QuestionFor.f k a0 a1 a2).bind fun bt261 => ((laws_eqMessage.f k bt261.1 bt261.2.1 bt261.2.2.1 bt261.2.2.2.1 bt261.2.2.2.2.1 bt261.2.2.2.2.2.1 bt261.2.2.2.2.2.2.1 bt261.2.2.2.2.2.2.2.1 bt247.1 bt247.2.1 bt247.2.2.1 bt247.2.2.2.1 bt247.2.2.2.2.1 bt247.2.2.2.2.2.1 bt247.2.2.2.2.2.2.1 bt247.2.2.2.2.2.2.2.1).bind fun t275 => (if t275 = true then (laws_FnExactQuestionFor.j0 k a0 a1 a2 bt247.2.2.2.2.2.2.2.2 (bt261.2.2.2.2.2.2.2.2 != bt247.2.2.2.2.2.2.2.2) bt247.1 bt247.2.1 bt247.2.2.1 bt247.2.2.2.1 bt247.2.2.2.2.1 bt247.2.2.2.2.2.1 bt247.2.2.2.2.2.2.1 bt247.2.2.2.2.2.2.2.1 bt261.1 bt261.2.1 bt261.2.2.1 bt261.2.2.2.1 bt261.2.2.2.2.1 bt261.2.2.2.2.2.1 bt261.2.2.2.2.2.2.1 bt261.2.2.2.2.2.2.2.1) else (laws_FnExactQuestionFor.j0 k a0 a1 a2 bt247.2.2.2.2.2.2.2.2 true bt247.1 bt247.2.1 bt247.2.2.1 bt247.2.2.2.1 bt247.2.2.2.2.1 bt247.2.2.2.2.2.1 bt247.2.2.2.2.2.2.1 bt247.2.2.2.2.2.2.2.1 bt261.1 bt261.2.1 bt261.2.2.1 bt261.2.2.2.1 bt261.2.2.2.2.1 bt261.2.2.2.2.2.1 bt261.2.2.2.2.2.2.1 bt261.2.2.2.2.2.2.2.1)))))
theorem laws_FnExactQuestionFor.mono_l : ∀ k, (∀ y0 y1 y2 y3 y4 y5 y6 y7 y8 y9 y10 y11 y12 y13 y14 y15 y16 y17 y18 y19 y20, LeO (laws_FnExactQuestionFor.j0 k y0 y1 y2 y3 y4 y5 y6 y7 y8 y9 y10 y11 y12 y13 y14 y15 y16 y17 y18 y19 y20) (laws_FnExactQuestionFor.j0 (k + 1) y0 y1 y2 y3 y4 y5 y6 y7 y8 y9 y10 y11 y12 y13 y14 y15 y16 y17 y18 y19 y20)) ∧ (∀ y0 y1 y2 y3 y4 y5 y6 y7 y8 y9, LeO (laws_FnExactQuestionFor.j1 k y0 y1 y2 y3 y4 y5 y6 y7 y8 y9) (laws_FnExactQuestionFor.j1 (k + 1) y0 y1 y2 y3 y4 y5 y6 y7 y8 y9))
  | 0 => ⟨fun _ _ _ _ _ _ _ _ _ _ _ _ _ _ _ _ _ _ _ _ _ r h => by simp [laws_FnExactQuestionFor.j0] at h, fun _ _ _ _ _ _ _ _ _ _ r h => by simp [laws_FnExactQuestionFor.j1] at h⟩
  | k + 1 => by
    obtain ⟨ih0, ih1⟩ := laws_FnExactQuestionFor.mono_l k
    refine ⟨?_, ?_⟩
    · intro y0 y1 y2 y3 y4 y5 y6 y7 y8 y9 y10 y11 y12 y13 y14 y15 y16 y17 y18 y19 y20
      unfold laws_FnExactQuestionFor.j0
      repeat' first
      | (with_reducible exact ih0 _ _ _ _ _ _ _ _ _ _ _ _ _ _ _ _ _ _ _ _ _)
      | (with_reducible exact ih1 _ _ _ _ _ _ _ _ _ _)
      | (with_reducible exact impl_QuestionFor.mono _ _ _ _)
      | (with_reducible exact laws_eqMessage.mono _ _ _ _ _ _ _ _ _ _ _ _ _ _ _ _ _)
      | (with_reducible exact laws_heldMessage.mono _ _ _ _ _ _ _ _ _ _)
      | (with_reducible exact laws_markMessage.mono _ _ _ _ _ _ _ _ _ _)
      | (with_reducible exact spec_QuestionFor.mono _ _ _ _)
      | (with_reducible exact LeO.refl _)
      | (with_reducible exact LeO.none _)
      | (with_reducible refine LeO.ite ?_ ?_)
      | (with_reducible refine LeO.bind ?_ (fun _ => ?_))
      | exact ih0 _ _ _ _ _ _ _ _ _ _ _ _ _ _ _ _ _ _ _ _ _
      | exact ih1 _ _ _ _ _ _ _ _ _ _
      | exact impl_QuestionFor.mono _ _ _ _
      | exact laws_eqMessage.mono _ _ _ _ _ _ _ _ _ _ _ _ _ _ _ _ _
      | exact laws_heldMessage.mono _ _ _ _ _ _ _ _ _ _
      | exact laws_markMessage.mono _ _ _ _ _ _ _ _ _ _
      | exact spec_QuestionFor.mono _ _ _ _
      | exact LeO.none _
      | refine LeO.ite ?_ ?_
      | refine LeO.bind ?_ (fun _ => ?_)
    · intro y0 y1 y2 y3 y4 y5 y6 y7 y8 y9
      unfold laws_FnExactQuestionFor.j1
      repeat' first
      | (with_reducible exact ih0 _ _ _ _ _ _ _ _ _ _ _ _ _ _ _ _ _ _ _ _ _)
      | (with_reducible exact ih1 _ _ _ _ _ _ _ _ _ _)
      | (with_reducible exact impl_QuestionFor.mono _ _ _ _)
      | (with_reducible exact laws_eqMessage.mono _ _ _ _ _ _ _ _ _ _ _ _ _ _ _ _ _)
      | (with_reducible exact laws_heldMessage.mono _ _ _ _ _ _ _ _ _ _)
      | (with_reducible exact laws_markMessage.mono _ _ _ _ _ _ _ _ _ _)
      | (with_reducible exact spec_QuestionFor.mono _ _ _ _)
      | (with_reducible exact LeO.refl _)
      | (with_reducible exact LeO.none _)
      | (with_reducible refine LeO.ite ?_ ?_)
      | (with_reducible refine LeO.bind ?_ (fun _ => ?_))
      | exact ih0 _ _ _ _ _ _ _ _ _ _ _ _ _ _ _ _ _ _ _ _ _
      | exact ih1 _ _ _ _ _ _ _ _ _ _
      | exact impl_QuestionFor.mono _ _ _ _
      | exact laws_eqMessage.mono _ _ _ _ _ _ _ _ _ _ _ _ _ _ _ _ _
      | exact laws_heldMessage.mono _ _ _ _ _ _ _ _ _ _
      | exact laws_markMessage.mono _ _ _ _ _ _ _ _ _ _
      | exact spec_QuestionFor.mono _ _ _ _
      | exact LeO.none _
      | refine LeO.ite ?_ ?_
      | refine LeO.bind ?_ (fun _ => ?_)
theorem laws_FnExactQuestionFor.mono : ∀ a0 a1 a2 k, LeO (laws_FnExactQuestionFor.f k a0 a1 a2) (laws_FnExactQuestionFor.f (k + 1) a0 a1 a2) := by
  intro a0 a1 a2 k
  obtain ⟨ih0, ih1⟩ := laws_FnExactQuestionFor.mono_l k
  unfold laws_FnExactQuestionFor.f
  repeat' first
      | (with_reducible exact ih0 _ _ _ _ _ _ _ _ _ _ _ _ _ _ _ _ _ _ _ _ _)
      | (with_reducible exact ih1 _ _ _ _ _ _ _ _ _ _)
      | (with_reducible exact impl_QuestionFor.mono _ _ _ _)
      | (with_reducible exact laws_eqMessage.mono _ _ _ _ _ _ _ _ _ _ _ _ _ _ _ _ _)
      | (with_reducible exact laws_heldMessage.mono _ _ _ _ _ _ _ _ _ _)
      | (with_reducible exact laws_markMessage.mono _ _ _ _ _ _ _ _ _ _)
      | (with_reducible exact spec_QuestionFor.mono _ _ _ _)
      | (with_reducible exact LeO.refl _)
      | (with_reducible exact LeO.none _)
      | (with_reducible refine LeO.ite ?_ ?_)
      | (with_reducible refine LeO.bind ?_ (fun _ => ?_))
      | exact ih0 _ _ _ _ _ _ _ _ _ _ _ _ _ _ _ _ _ _ _ _ _
      | exact ih1 _ _ _ _ _ _ _ _ _ _
      | exact impl_QuestionFor.mono _ _ _ _
      | exact laws_eqMessage.mono _ _ _ _ _ _ _ _ _ _ _ _ _ _ _ _ _
      | exact laws_heldMessage.mono _ _ _ _ _ _ _ _ _ _
      | exact laws_markMessage.mono _ _ _ _ _ _ _ _ _ _
      | exact spec_QuestionFor.mono _ _ _ _
      | exact LeO.none _
      | refine LeO.ite ?_ ?_
      | refine LeO.bind ?_ (fun _ => ?_)
set_option maxHeartbeats 8000000 in
set_option maxRecDepth 100000 in
theorem laws_FnExactQuestionFor.calls (k : Nat) (a0 : Int) (a1 : ByteArray) (a2 : Int) (r : Bool) (w : World) (h : laws_FnExactQuestionFor.f k a0 a1 a2 = some r) (hv_ : Vars w := by first | assumption | (refine Vars.below (Aside0.out (by assumption)) ?_; repeat (first | (with_reducible first | exact Below.refl _ _ | exact Aside0.out (by assumption) | apply below_alloc | apply pw_below_drewN | apply below_drew1 | refine below_set ?_ (Aside0.out (by assumption))) | exact Aside0.out (by assumption)))) :
    Calls Tryz.prog 3 #[.int .i64 a0, .string a1, .int .i64 a2] w fun e w' => e = .returned (.bool r) ∧ Below w.heap.size w w' := by
  have HV_ := Aside0.mk hv_
  clear hv_
  have hu24 := Tryz.underlying24
  have HB := Aside0.mk (Below.refl w.heap.size w)
  have H : (if (a1.size : Int) > 1048576 then (some true) else ((spec_QuestionFor.f k a0 a1 a2).bind fun bt247 => ((impl_QuestionFor.f k a0 a1 a2).bind fun bt261 => ((laws_eqMessage.f k bt261.1 bt261.2.1 bt261.2.2.1 bt261.2.2.2.1 bt261.2.2.2.2.1 bt261.2.2.2.2.2.1 bt261.2.2.2.2.2.2.1 bt261.2.2.2.2.2.2.2.1 bt247.1 bt247.2.1 bt247.2.2.1 bt247.2.2.2.1 bt247.2.2.2.2.1 bt247.2.2.2.2.2.1 bt247.2.2.2.2.2.2.1 bt247.2.2.2.2.2.2.2.1).bind fun t275 => (if t275 = true then (laws_FnExactQuestionFor.j0 k a0 a1 a2 bt247.2.2.2.2.2.2.2.2 (bt261.2.2.2.2.2.2.2.2 != bt247.2.2.2.2.2.2.2.2) bt247.1 bt247.2.1 bt247.2.2.1 bt247.2.2.2.1 bt247.2.2.2.2.1 bt247.2.2.2.2.2.1 bt247.2.2.2.2.2.2.1 bt247.2.2.2.2.2.2.2.1 bt261.1 bt261.2.1 bt261.2.2.1 bt261.2.2.2.1 bt261.2.2.2.2.1 bt261.2.2.2.2.2.1 bt261.2.2.2.2.2.2.1 bt261.2.2.2.2.2.2.2.1) else (laws_FnExactQuestionFor.j0 k a0 a1 a2 bt247.2.2.2.2.2.2.2.2 true bt247.1 bt247.2.1 bt247.2.2.1 bt247.2.2.2.1 bt247.2.2.2.2.1 bt247.2.2.2.2.2.1 bt247.2.2.2.2.2.2.1 bt247.2.2.2.2.2.2.2.1 bt261.1 bt261.2.1 bt261.2.2.1 bt261.2.2.2.1 bt261.2.2.2.2.1 bt261.2.2.2.2.2.1 bt261.2.2.2.2.2.2.1 bt261.2.2.2.2.2.2.2.1)))))) = some r := h
  clear h
  by_cases c4 : (a1.size : Int) > 1048576
  · rw [if_pos c4] at H
    have c4b0 : decide (1048576 < (a1.size : Int)) = true := decide_eq_true c4
    have c4b1 : decide (1048576 < a1.size) = true := decide_eq_true (by omega)
    clear c4
    obtain rfl := Option.some.inj H
    go_enter Tryz.func3, Tryz.ntmps3
    go_wp2
    go_ret
    exact ⟨by first | rfl | (simp [errW_none, errW_some] <;> rfl) | (simp [*, errW_none, errW_some] <;> rfl), by repeat (first | (with_reducible first | exact HB.out | apply below_alloc | apply pw_below_drewN | apply below_drew1) | exact HB.out)⟩
  · rw [if_neg c4] at H
    have c4b0 : decide (1048576 < (a1.size : Int)) = false := decide_eq_false c4
    have c4b1 : decide (1048576 < a1.size) = false := decide_eq_false (by omega)
    clear c4
    replace H := Option.bind_eq_some_iff.mp H
    obtain ⟨⟨t247, t248, t249, t250, t251, t252, t253, t256, t259⟩, A50, H⟩ := H
    replace H : ((impl_QuestionFor.f k a0 a1 a2).bind fun bt261 => ((laws_eqMessage.f k bt261.1 bt261.2.1 bt261.2.2.1 bt261.2.2.2.1 bt261.2.2.2.2.1 bt261.2.2.2.2.2.1 bt261.2.2.2.2.2.2.1 bt261.2.2.2.2.2.2.2.1 t247 t248 t249 t250 t251 t252 t253 t256).bind fun t275 => (if t275 = true then (laws_FnExactQuestionFor.j0 k a0 a1 a2 t259 (bt261.2.2.2.2.2.2.2.2 != t259) t247 t248 t249 t250 t251 t252 t253 t256 bt261.1 bt261.2.1 bt261.2.2.1 bt261.2.2.2.1 bt261.2.2.2.2.1 bt261.2.2.2.2.2.1 bt261.2.2.2.2.2.2.1 bt261.2.2.2.2.2.2.2.1) else (laws_FnExactQuestionFor.j0 k a0 a1 a2 t259 true t247 t248 t249 t250 t251 t252 t253 t256 bt261.1 bt261.2.1 bt261.2.2.1 bt261.2.2.2.1 bt261.2.2.2.2.1 bt261.2.2.2.2.2.1 bt261.2.2.2.2.2.2.1 bt261.2.2.2.2.2.2.2.1)))) = some r := H
    have A5 := Aside0.mk A50
    clear A50
    replace H := Option.bind_eq_some_iff.mp H
    obtain ⟨⟨t261, t262, t263, t264, t265, t266, t267, t270, t273⟩, A60, H⟩ := H
    replace H : ((laws_eqMessage.f k t261 t262 t263 t264 t265 t266 t267 t270 t247 t248 t249 t250 t251 t252 t253 t256).bind fun t275 => (if t275 = true then (laws_FnExactQuestionFor.j0 k a0 a1 a2 t259 (t273 != t259) t247 t248 t249 t250 t251 t252 t253 t256 t261 t262 t263 t264 t265 t266 t267 t270) else (laws_FnExactQuestionFor.j0 k a0 a1 a2 t259 true t247 t248 t249 t250 t251 t252 t253 t256 t261 t262 t263 t264 t265 t266 t267 t270))) = some r := H
    have A6 := Aside0.mk A60
    clear A60
    have HC7 := Aside0.mk H
    clear H
    go_enter Tryz.func3, Tryz.ntmps3
    go_upto_region 5 with (first | ((with_reducible refine gate_callee (f := 12) rfl ?_); refine goesL_ (some 22) rfl rfl Tryz.func12 (by kernel_rfl) rfl #[.int .i64 a0, .string a1, .int .i64 a2] rfl (by (try simp only [List.map_toArray, List.map_cons, List.map_nil]); first | done | rfl | (simp only [List.length_drop, List.length_take]; rfl)) ?_; (with_reducible refine (spec_QuestionFor.calls k a0 a1 a2 t247 t248 t249 t250 t251 t252 t253 t256 t259 _ A5.out).mono ?_); rintro e w8 ⟨v254, v257, rfl, ho0, ho1, hb⟩; refine ⟨_, rfl, ?_⟩; have n0_ := Aside0.mk (Kd.R_lower ho0 (below_size bq0_)); have n1_ := Aside0.mk (Kd.R_lower ho1 (below_size bq0_)); have n2_ := Aside0.mk (below_step bq0_ hb); clear HB; have HO255 := n0_; have HO258 := n1_; have HB := n2_; clear n0_ n1_ n2_; (try clear hb); (try clear hb2); (try clear hk); (try clear hi); (try clear ho0); (try clear ho1)) | ((with_reducible refine gate_dst (N := 7) rfl ?_); refine box_event ?hg (N := 7) ?hd (cs := #[.int .i64 0, .bool false, .bool false, .int .i64 0, .string (⟨#[]⟩ : ByteArray), .int .i64 0, .slice none 0 0, .slice none 0 0]) (t := 24) ?hr ?_; (case hd => rfl); (case hg => rfl); (case hr => first | (go_simp; done) | (go_simp; rfl)); intro gb260 hg w9 hbox hb; have n0_ := Aside0.mk (Kd.R_below (by (with_reducible repeat (first | apply Kd.R_alloc | apply Kd.R_drewN | apply Kd.R_drew)); exact HO255.out) hb); have n1_ := Aside0.mk (Kd.R_below (by (with_reducible repeat (first | apply Kd.R_alloc | apply Kd.R_drewN | apply Kd.R_drew)); exact HO258.out) hb); have n2_ := Aside0.mk (below_step bq0_ hb); have n3_ := Aside0.mk (hbox); have n4_ := Aside0.mk ((by rw [hg]; exact (below_size bq0_) : w.heap.size ≤ gb260)); have n5_ := Aside0.mk ((by rw [hg]; exact (below_size bq0_) : w.heap.size ≤ gb260)); clear HO255; clear HO258; clear HB; have HO255 := n0_; have HO258 := n1_; have HB := n2_; have BK260 := n3_; have GW260 := n4_; have GE260 := n5_; clear n0_ n1_ n2_ n3_ n4_ n5_; clear hb hbox hg; obtain ⟨hcz10_0, hcz10_1, hcz10_2, hcz10_3, hcz10_4, hcz10_5, hcz10_6, hcz10_7, hfz10_0, hfz10_1, hfz10_2, hfz10_3, hfz10_4, hfz10_5, hfz10_6, hfz10_7⟩ := bk8_ BK260.out; obtain ⟨Ao11, co11, eo11⟩ := Kd.R_slice HO255.out; subst eo11; obtain ⟨Ao12, co12, eo12⟩ := Kd.R_slice HO258.out; subst eo12) | ((with_reducible refine gate_callee (f := 13) rfl ?_); refine goesL_ (some 29) rfl rfl Tryz.func13 (by kernel_rfl) rfl #[.int .i64 a0, .string a1, .int .i64 a2] rfl (by (try simp only [List.map_toArray, List.map_cons, List.map_nil]); first | done | rfl | (simp only [List.length_drop, List.length_take]; rfl)) ?_; (with_reducible refine (impl_QuestionFor.calls k a0 a1 a2 t261 t262 t263 t264 t265 t266 t267 t270 t273 _ A6.out).mono ?_); rintro e w13 ⟨v268, v271, rfl, ho0, ho1, hb⟩; refine ⟨_, rfl, ?_⟩; have n0_ := Aside0.mk (Kd.R_mono (Kd.R_told (Kd.R_told (Kd.R_old (by (with_reducible repeat (first | apply Kd.R_alloc | apply Kd.R_drewN | apply Kd.R_drew)); exact (Kd.R_mono (Kd.R_far (p := ⟨gb260, 7, none⟩) (Kd.R_far (p := ⟨gb260, 6, none⟩) (Kd.R_far (p := ⟨gb260, 5, none⟩) (Kd.R_far (p := ⟨gb260, 4, none⟩) (Kd.R_far (p := ⟨gb260, 3, none⟩) (Kd.R_far (p := ⟨gb260, 2, none⟩) (Kd.R_far (p := ⟨gb260, 1, none⟩) (Kd.R_far (p := ⟨gb260, 0, none⟩) (Kd.R_types HO255.out BK260.out (by decide)) (fun _ hk => hk.2) (.int .i64 t247)) (fun _ hk => hk.2) (.bool t248)) (fun _ hk => hk.2) (.bool t249)) (fun _ hk => hk.2) (.int .i64 t250)) (fun _ hk => hk.2) (.string t251)) (fun _ hk => hk.2) (.int .i64 t252)) (fun _ hk => hk.2) (.slice Ao11 t253.length co11)) (fun _ hk => hk.2) (.slice Ao12 t256.length co12)) (fun _ h_ => h_.1))) hb) (Kd.R_base ho0)) (Kd.R_base ho1)) (fun _ h_ => h_.1)); have n1_ := Aside0.mk (Kd.R_mono (Kd.R_told (Kd.R_told (Kd.R_old (by (with_reducible repeat (first | apply Kd.R_alloc | apply Kd.R_drewN | apply Kd.R_drew)); exact (Kd.R_mono (Kd.R_far (p := ⟨gb260, 7, none⟩) (Kd.R_far (p := ⟨gb260, 6, none⟩) (Kd.R_far (p := ⟨gb260, 5, none⟩) (Kd.R_far (p := ⟨gb260, 4, none⟩) (Kd.R_far (p := ⟨gb260, 3, none⟩) (Kd.R_far (p := ⟨gb260, 2, none⟩) (Kd.R_far (p := ⟨gb260, 1, none⟩) (Kd.R_far (p := ⟨gb260, 0, none⟩) (Kd.R_types HO258.out BK260.out (by decide)) (fun _ hk => hk.2) (.int .i64 t247)) (fun _ hk => hk.2) (.bool t248)) (fun _ hk => hk.2) (.bool t249)) (fun _ hk => hk.2) (.int .i64 t250)) (fun _ hk => hk.2) (.string t251)) (fun _ hk => hk.2) (.int .i64 t252)) (fun _ hk => hk.2) (.slice Ao11 t253.length co11)) (fun _ hk => hk.2) (.slice Ao12 t256.length co12)) (fun _ h_ => h_.1))) hb) (Kd.R_base ho0)) (Kd.R_base ho1)) (fun _ h_ => h_.1)); have n2_ := Aside0.mk (Kd.R_lower (Kd.R_new' (Kd.R_new' ho0 (Kd.R_lt (by (with_reducible repeat (first | apply Kd.R_alloc | apply Kd.R_drewN | apply Kd.R_drew)); exact (Kd.R_mono (Kd.R_far (p := ⟨gb260, 7, none⟩) (Kd.R_far (p := ⟨gb260, 6, none⟩) (Kd.R_far (p := ⟨gb260, 5, none⟩) (Kd.R_far (p := ⟨gb260, 4, none⟩) (Kd.R_far (p := ⟨gb260, 3, none⟩) (Kd.R_far (p := ⟨gb260, 2, none⟩) (Kd.R_far (p := ⟨gb260, 1, none⟩) (Kd.R_far (p := ⟨gb260, 0, none⟩) (Kd.R_types HO255.out BK260.out (by decide)) (fun _ hk => hk.2) (.int .i64 t247)) (fun _ hk => hk.2) (.bool t248)) (fun _ hk => hk.2) (.bool t249)) (fun _ hk => hk.2) (.int .i64 t250)) (fun _ hk => hk.2) (.string t251)) (fun _ hk => hk.2) (.int .i64 t252)) (fun _ hk => hk.2) (.slice Ao11 t253.length co11)) (fun _ hk => hk.2) (.slice Ao12 t256.length co12)) (fun _ h_ => h_.1))))) (Kd.R_lt (by (with_reducible repeat (first | apply Kd.R_alloc | apply Kd.R_drewN | apply Kd.R_drew)); exact (Kd.R_mono (Kd.R_far (p := ⟨gb260, 7, none⟩) (Kd.R_far (p := ⟨gb260, 6, none⟩) (Kd.R_far (p := ⟨gb260, 5, none⟩) (Kd.R_far (p := ⟨gb260, 4, none⟩) (Kd.R_far (p := ⟨gb260, 3, none⟩) (Kd.R_far (p := ⟨gb260, 2, none⟩) (Kd.R_far (p := ⟨gb260, 1, none⟩) (Kd.R_far (p := ⟨gb260, 0, none⟩) (Kd.R_types HO258.out BK260.out (by decide)) (fun _ hk => hk.2) (.int .i64 t247)) (fun _ hk => hk.2) (.bool t248)) (fun _ hk => hk.2) (.bool t249)) (fun _ hk => hk.2) (.int .i64 t250)) (fun _ hk => hk.2) (.string t251)) (fun _ hk => hk.2) (.int .i64 t252)) (fun _ hk => hk.2) (.slice Ao11 t253.length co11)) (fun _ hk => hk.2) (.slice Ao12 t256.length co12)) (fun _ h_ => h_.1))))) (below_size bq1_)); have n3_ := Aside0.mk (Kd.R_lower (Kd.R_new' (Kd.R_new' ho1 (Kd.R_lt (by (with_reducible repeat (first | apply Kd.R_alloc | apply Kd.R_drewN | apply Kd.R_drew)); exact (Kd.R_mono (Kd.R_far (p := ⟨gb260, 7, none⟩) (Kd.R_far (p := ⟨gb260, 6, none⟩) (Kd.R_far (p := ⟨gb260, 5, none⟩) (Kd.R_far (p := ⟨gb260, 4, none⟩) (Kd.R_far (p := ⟨gb260, 3, none⟩) (Kd.R_far (p := ⟨gb260, 2, none⟩) (Kd.R_far (p := ⟨gb260, 1, none⟩) (Kd.R_far (p := ⟨gb260, 0, none⟩) (Kd.R_types HO255.out BK260.out (by decide)) (fun _ hk => hk.2) (.int .i64 t247)) (fun _ hk => hk.2) (.bool t248)) (fun _ hk => hk.2) (.bool t249)) (fun _ hk => hk.2) (.int .i64 t250)) (fun _ hk => hk.2) (.string t251)) (fun _ hk => hk.2) (.int .i64 t252)) (fun _ hk => hk.2) (.slice Ao11 t253.length co11)) (fun _ hk => hk.2) (.slice Ao12 t256.length co12)) (fun _ h_ => h_.1))))) (Kd.R_lt (by (with_reducible repeat (first | apply Kd.R_alloc | apply Kd.R_drewN | apply Kd.R_drew)); exact (Kd.R_mono (Kd.R_far (p := ⟨gb260, 7, none⟩) (Kd.R_far (p := ⟨gb260, 6, none⟩) (Kd.R_far (p := ⟨gb260, 5, none⟩) (Kd.R_far (p := ⟨gb260, 4, none⟩) (Kd.R_far (p := ⟨gb260, 3, none⟩) (Kd.R_far (p := ⟨gb260, 2, none⟩) (Kd.R_far (p := ⟨gb260, 1, none⟩) (Kd.R_far (p := ⟨gb260, 0, none⟩) (Kd.R_types HO258.out BK260.out (by decide)) (fun _ hk => hk.2) (.int .i64 t247)) (fun _ hk => hk.2) (.bool t248)) (fun _ hk => hk.2) (.bool t249)) (fun _ hk => hk.2) (.int .i64 t250)) (fun _ hk => hk.2) (.string t251)) (fun _ hk => hk.2) (.int .i64 t252)) (fun _ hk => hk.2) (.slice Ao11 t253.length co11)) (fun _ hk => hk.2) (.slice Ao12 t256.length co12)) (fun _ h_ => h_.1))))) (below_size bq1_)); have n4_ := Aside0.mk (blk_below (g := gb260) (o := .cells #[.int .i64 t247, .bool t248, .bool t249, .int .i64 t250, .string t251, .int .i64 t252, .slice Ao11 t253.length co11, .slice Ao12 t256.length co12] 24 (0, 0)) (by (with_reducible repeat (first | refine blk_drewN ?_ _ | refine blk_drew ?_ | refine blk_alloc ?_ _)); refine blk_put (cs := #[.int .i64 t247, .bool t248, .bool t249, .int .i64 t250, .string t251, .int .i64 t252, .slice Ao11 t253.length co11, .slice none 0 0]) ?_ 7 _ rfl; (with_reducible repeat (first | refine blk_drewN ?_ _ | refine blk_drew ?_ | refine blk_alloc ?_ _)); refine blk_put (cs := #[.int .i64 t247, .bool t248, .bool t249, .int .i64 t250, .string t251, .int .i64 t252, .slice none 0 0, .slice none 0 0]) ?_ 6 _ rfl; (with_reducible repeat (first | refine blk_drewN ?_ _ | refine blk_drew ?_ | refine blk_alloc ?_ _)); refine blk_put (cs := #[.int .i64 t247, .bool t248, .bool t249, .int .i64 t250, .string t251, .int .i64 0, .slice none 0 0, .slice none 0 0]) ?_ 5 _ rfl; (with_reducible repeat (first | refine blk_drewN ?_ _ | refine blk_drew ?_ | refine blk_alloc ?_ _)); refine blk_put (cs := #[.int .i64 t247, .bool t248, .bool t249, .int .i64 t250, .string (⟨#[]⟩ : ByteArray), .int .i64 0, .slice none 0 0, .slice none 0 0]) ?_ 4 _ rfl; (with_reducible repeat (first | refine blk_drewN ?_ _ | refine blk_drew ?_ | refine blk_alloc ?_ _)); refine blk_put (cs := #[.int .i64 t247, .bool t248, .bool t249, .int .i64 0, .string (⟨#[]⟩ : ByteArray), .int .i64 0, .slice none 0 0, .slice none 0 0]) ?_ 3 _ rfl; (with_reducible repeat (first | refine blk_drewN ?_ _ | refine blk_drew ?_ | refine blk_alloc ?_ _)); refine blk_put (cs := #[.int .i64 t247, .bool t248, .bool false, .int .i64 0, .string (⟨#[]⟩ : ByteArray), .int .i64 0, .slice none 0 0, .slice none 0 0]) ?_ 2 _ rfl; (with_reducible repeat (first | refine blk_drewN ?_ _ | refine blk_drew ?_ | refine blk_alloc ?_ _)); refine blk_put (cs := #[.int .i64 t247, .bool false, .bool false, .int .i64 0, .string (⟨#[]⟩ : ByteArray), .int .i64 0, .slice none 0 0, .slice none 0 0]) ?_ 1 _ rfl; (with_reducible repeat (first | refine blk_drewN ?_ _ | refine blk_drew ?_ | refine blk_alloc ?_ _)); refine blk_put (cs := #[.int .i64 0, .bool false, .bool false, .int .i64 0, .string (⟨#[]⟩ : ByteArray), .int .i64 0, .slice none 0 0, .slice none 0 0]) ?_ 0 _ rfl; (with_reducible repeat (first | refine blk_drewN ?_ _ | refine blk_drew ?_ | refine blk_alloc ?_ _)); exact BK260.out) hb); have n5_ := Aside0.mk (below_step bq1_ hb); clear HO255; clear HO258; clear BK260; clear HB; have HO255 := n0_; have HO258 := n1_; have HO269 := n2_; have HO272 := n3_; have BK260 := n4_; have HB := n5_; clear n0_ n1_ n2_ n3_ n4_ n5_; (try clear hb); (try clear hb2); (try clear hk); (try clear hi); (try clear ho0); (try clear ho1)) | ((with_reducible refine gate_dst (N := 9) rfl ?_); refine box_event ?hg (N := 9) ?hd (cs := #[.int .i64 0, .bool false, .bool false, .int .i64 0, .string (⟨#[]⟩ : ByteArray), .int .i64 0, .slice none 0 0, .slice none 0 0]) (t := 24) ?hr ?_; (case hd => rfl); (case hg => rfl); (case hr => first | (go_simp; done) | (go_simp; rfl)); intro gb274 hg w14 hbox hb; have n0_ := Aside0.mk (Kd.R_below (by (with_reducible repeat (first | apply Kd.R_alloc | apply Kd.R_drewN | apply Kd.R_drew)); exact HO255.out) hb); have n1_ := Aside0.mk (Kd.R_below (by (with_reducible repeat (first | apply Kd.R_alloc | apply Kd.R_drewN | apply Kd.R_drew)); exact HO258.out) hb); have n2_ := Aside0.mk (Kd.R_below (by (with_reducible repeat (first | apply Kd.R_alloc | apply Kd.R_drewN | apply Kd.R_drew)); exact HO269.out) hb); have n3_ := Aside0.mk (Kd.R_below (by (with_reducible repeat (first | apply Kd.R_alloc | apply Kd.R_drewN | apply Kd.R_drew)); exact HO272.out) hb); have n4_ := Aside0.mk (bkB_ BK260 hb); have n5_ := Aside0.mk (below_step bq1_ hb); have n6_ := Aside0.mk (hbox); have n7_ := Aside0.mk ((by rw [hg]; exact (below_size bq1_) : w.heap.size ≤ gb274)); have n8_ := Aside0.mk ((by rw [hg]; exact (below_size bq1_) : w.heap.size ≤ gb274)); have n9_ := Aside0.mk ((by rw [hg]; exact Nat.ne_of_lt (blk_lt (g := gb260) (o := .cells #[.int .i64 t247, .bool t248, .bool t249, .int .i64 t250, .string t251, .int .i64 t252, .slice Ao11 t253.length co11, .slice Ao12 t256.length co12] 24 (0, 0)) (by (with_reducible repeat (first | refine blk_drewN ?_ _ | refine blk_drew ?_ | refine blk_alloc ?_ _)); exact BK260.out)) : gb260 ≠ gb274)); have n10_ := Aside0.mk ((by rw [hg]; exact Nat.ne_of_gt (blk_lt (g := gb260) (o := .cells #[.int .i64 t247, .bool t248, .bool t249, .int .i64 t250, .string t251, .int .i64 t252, .slice Ao11 t253.length co11, .slice Ao12 t256.length co12] 24 (0, 0)) (by (with_reducible repeat (first | refine blk_drewN ?_ _ | refine blk_drew ?_ | refine blk_alloc ?_ _)); exact BK260.out)) : gb274 ≠ gb260)); clear HO255; clear HO258; clear HO269; clear HO272; clear BK260; clear HB; have HO255 := n0_; have HO258 := n1_; have HO269 := n2_; have HO272 := n3_; have BK260 := n4_; have HB := n5_; have BK274 := n6_; have GW274 := n7_; have GE274 := n8_; have NB260_274 := n9_; have NB274_260 := n10_; clear n0_ n1_ n2_ n3_ n4_ n5_ n6_ n7_ n8_ n9_ n10_; clear hb hbox hg; have hnb15 := NB274_260.out; have hnc15 := NB260_274.out; obtain ⟨hcz16_0, hcz16_1, hcz16_2, hcz16_3, hcz16_4, hcz16_5, hcz16_6, hcz16_7, hfz16_0, hfz16_1, hfz16_2, hfz16_3, hfz16_4, hfz16_5, hfz16_6, hfz16_7⟩ := bk8_ BK274.out; obtain ⟨Ao17, co17, eo17⟩ := Kd.R_slice HO269.out; subst eo17; obtain ⟨Ao18, co18, eo18⟩ := Kd.R_slice HO272.out; subst eo18))
    (try simp only [Act.put, List.setIfInBounds_toArray, List.set_cons_zero, List.set_cons_succ])
    go_cut [40] (fun v40 wc => ∃ (kq : Nat) (x40_6 : Bool), v40 = .bool x40_6 ∧ Aside0 (laws_FnExactQuestionFor.j0 kq a0 a1 a2 t259 x40_6 t247 t248 t249 t250 t251 t252 t253 t256 t261 t262 t263 t264 t265 t266 t267 t270 = some r) ∧ Aside0 (kq ≤ k) ∧ Aside0 (Kd.R k72 72 wc w.heap.size (fun k_ => some k_ ≠ ((.slice Ao12 t256.length co12) : Value).ownBlock ∧ some k_ ≠ ((.slice Ao17 t267.length co17) : Value).ownBlock ∧ some k_ ≠ ((.slice Ao18 t270.length co18) : Value).ownBlock) (.slice Ao11 t253.length co11) t253) ∧ Aside0 (Kd.R k72 72 wc w.heap.size (fun k_ => some k_ ≠ ((.slice Ao11 t253.length co11) : Value).ownBlock ∧ some k_ ≠ ((.slice Ao17 t267.length co17) : Value).ownBlock ∧ some k_ ≠ ((.slice Ao18 t270.length co18) : Value).ownBlock) (.slice Ao12 t256.length co12) t256) ∧ Aside0 (Kd.R k72 72 wc w.heap.size (fun k_ => some k_ ≠ ((.slice Ao11 t253.length co11) : Value).ownBlock ∧ some k_ ≠ ((.slice Ao12 t256.length co12) : Value).ownBlock ∧ some k_ ≠ ((.slice Ao18 t270.length co18) : Value).ownBlock) (.slice Ao17 t267.length co17) t267) ∧ Aside0 (Kd.R k72 72 wc w.heap.size (fun k_ => some k_ ≠ ((.slice Ao11 t253.length co11) : Value).ownBlock ∧ some k_ ≠ ((.slice Ao12 t256.length co12) : Value).ownBlock ∧ some k_ ≠ ((.slice Ao17 t267.length co17) : Value).ownBlock) (.slice Ao18 t270.length co18) t270) ∧ Aside0 (wc.heap[gb260]? = some (.cells #[.int .i64 t247, .bool t248, .bool t249, .int .i64 t250, .string t251, .int .i64 t252, (.slice Ao11 t253.length co11), (.slice Ao12 t256.length co12)] 24 (0, 0))) ∧ Aside0 (wc.heap[gb274]? = some (.cells #[.int .i64 t261, .bool t262, .bool t263, .int .i64 t264, .string t265, .int .i64 t266, (.slice Ao17 t267.length co17), (.slice Ao18 t270.length co18)] 24 (0, 0))) ∧ Aside0 (Below w.heap.size w wc))
    case first =>
      have H := HC7.out
      clear HC7
      replace H := Option.bind_eq_some_iff.mp H
      obtain ⟨t275, A190, H⟩ := H
      replace H : (if t275 = true then (laws_FnExactQuestionFor.j0 k a0 a1 a2 t259 (t273 != t259) t247 t248 t249 t250 t251 t252 t253 t256 t261 t262 t263 t264 t265 t266 t267 t270) else (laws_FnExactQuestionFor.j0 k a0 a1 a2 t259 true t247 t248 t249 t250 t251 t252 t253 t256 t261 t262 t263 t264 t265 t266 t267 t270)) = some r := H
      have A19 := Aside0.mk A190
      clear A190
      by_cases c20 : t275 = true
      · subst c20
        have H1 : (laws_FnExactQuestionFor.j0 k a0 a1 a2 t259 (t273 != t259) t247 t248 t249 t250 t251 t252 t253 t256 t261 t262 t263 t264 t265 t266 t267 t270) = some r := by rw [if_pos rfl] at H; exact H
        clear H
        have H := H1
        clear H1
        have H' := Aside0.mk H
        clear H
        have hnb21 := NB274_260.out
        have hnc21 := NB260_274.out
        have hcz22_0 : w14.cell? ⟨gb274, 0, none⟩ = some (.int .i64 0) := (blk_cell BK274.out 0).trans rfl
        have hcz22_1 : w14.cell? ⟨gb274, 1, none⟩ = some (.bool false) := (blk_cell BK274.out 1).trans rfl
        have hcz22_2 : w14.cell? ⟨gb274, 2, none⟩ = some (.bool false) := (blk_cell BK274.out 2).trans rfl
        have hcz22_3 : w14.cell? ⟨gb274, 3, none⟩ = some (.int .i64 0) := (blk_cell BK274.out 3).trans rfl
        have hcz22_4 : w14.cell? ⟨gb274, 4, none⟩ = some (.string (⟨#[]⟩ : ByteArray)) := (blk_cell BK274.out 4).trans rfl
        have hcz22_5 : w14.cell? ⟨gb274, 5, none⟩ = some (.int .i64 0) := (blk_cell BK274.out 5).trans rfl
        have hcz22_6 : w14.cell? ⟨gb274, 6, none⟩ = some (.slice none 0 0) := (blk_cell BK274.out 6).trans rfl
        have hcz22_7 : w14.cell? ⟨gb274, 7, none⟩ = some (.slice none 0 0) := (blk_cell BK274.out 7).trans rfl
        have hfz22_0 := blk_frozen BK274.out 0
        have hfz22_1 := blk_frozen BK274.out 1
        have hfz22_2 := blk_frozen BK274.out 2
        have hfz22_3 := blk_frozen BK274.out 3
        have hfz22_4 := blk_frozen BK274.out 4
        have hfz22_5 := blk_frozen BK274.out 5
        have hfz22_6 := blk_frozen BK274.out 6
        have hfz22_7 := blk_frozen BK274.out 7
        have hcz23_0 : w14.cell? ⟨gb260, 0, none⟩ = some (.int .i64 t247) := (blk_cell BK260.out 0).trans rfl
        have hcz23_1 : w14.cell? ⟨gb260, 1, none⟩ = some (.bool t248) := (blk_cell BK260.out 1).trans rfl
        have hcz23_2 : w14.cell? ⟨gb260, 2, none⟩ = some (.bool t249) := (blk_cell BK260.out 2).trans rfl
        have hcz23_3 : w14.cell? ⟨gb260, 3, none⟩ = some (.int .i64 t250) := (blk_cell BK260.out 3).trans rfl
        have hcz23_4 : w14.cell? ⟨gb260, 4, none⟩ = some (.string t251) := (blk_cell BK260.out 4).trans rfl
        have hcz23_5 : w14.cell? ⟨gb260, 5, none⟩ = some (.int .i64 t252) := (blk_cell BK260.out 5).trans rfl
        have hcz23_6 : w14.cell? ⟨gb260, 6, none⟩ = some (.slice Ao11 t253.length co11) := (blk_cell BK260.out 6).trans rfl
        have hcz23_7 : w14.cell? ⟨gb260, 7, none⟩ = some (.slice Ao12 t256.length co12) := (blk_cell BK260.out 7).trans rfl
        have hfz23_0 := blk_frozen BK260.out 0
        have hfz23_1 := blk_frozen BK260.out 1
        have hfz23_2 := blk_frozen BK260.out 2
        have hfz23_3 := blk_frozen BK260.out 3
        have hfz23_4 := blk_frozen BK260.out 4
        have hfz23_5 := blk_frozen BK260.out 5
        have hfz23_6 := blk_frozen BK260.out 6
        have hfz23_7 := blk_frozen BK260.out 7
        go_wp2_with (first | ((with_reducible refine gate_callee (f := 14) rfl ?_); refine goesL_ (some 34) rfl rfl Tryz.func14 (by kernel_rfl) rfl #[.agg #[.int .i64 t261, .bool t262, .bool t263, .int .i64 t264, .string t265, .int .i64 t266, .slice Ao17 t267.length co17, .slice Ao18 t270.length co18], .agg #[.int .i64 t247, .bool t248, .bool t249, .int .i64 t250, .string t251, .int .i64 t252, .slice Ao11 t253.length co11, .slice Ao12 t256.length co12]] rfl (by (try simp only [List.map_toArray, List.map_cons, List.map_nil]); first | done | rfl | (simp only [List.length_drop, List.length_take]; rfl)) ?_; (with_reducible refine (laws_eqMessage.calls k t261 t262 t263 t264 t265 t266 _ _ t267 _ _ t270 t247 t248 t249 t250 t251 t252 _ _ t253 _ _ t256 true _ ?side1 ?side2 ?side3 ?side4 ?side5 ?side6 ?side7 ?side8 A19.out).mono ?_); (case side1 => refine (Kd.R_reads' (e := 72) (base := w.heap.size) (ok := fun k_ => ((some k_ ≠ (.slice Ao18 t270.length co18 : Value).ownBlock ∧ some k_ ≠ (.slice Ao11 t253.length co11 : Value).ownBlock) ∧ some k_ ≠ (.slice Ao12 t256.length co12 : Value).ownBlock)) (n := t267.length) (c := co17) ?_).2.2; exact (by (with_reducible repeat (first | apply Kd.R_alloc | apply Kd.R_drewN | apply Kd.R_drew)); exact (Kd.R_mono (Kd.R_far (p := ⟨gb274, 7, none⟩) (Kd.R_far (p := ⟨gb274, 6, none⟩) (Kd.R_far (p := ⟨gb274, 5, none⟩) (Kd.R_far (p := ⟨gb274, 4, none⟩) (Kd.R_far (p := ⟨gb274, 3, none⟩) (Kd.R_far (p := ⟨gb274, 2, none⟩) (Kd.R_far (p := ⟨gb274, 1, none⟩) (Kd.R_far (p := ⟨gb274, 0, none⟩) (Kd.R_types HO269.out BK274.out (by decide)) (fun _ hk => hk.2) (.int .i64 t261)) (fun _ hk => hk.2) (.bool t262)) (fun _ hk => hk.2) (.bool t263)) (fun _ hk => hk.2) (.int .i64 t264)) (fun _ hk => hk.2) (.string t265)) (fun _ hk => hk.2) (.int .i64 t266)) (fun _ hk => hk.2) (.slice Ao17 t267.length co17)) (fun _ hk => hk.2) (.slice Ao18 t270.length co18)) (fun _ h_ => h_.1)))); (case side2 => exact (Kd.R_reads' HO269.out).2.1); (case side3 => refine (Kd.R_reads' (e := 72) (base := w.heap.size) (ok := fun k_ => ((some k_ ≠ (.slice Ao17 t267.length co17 : Value).ownBlock ∧ some k_ ≠ (.slice Ao11 t253.length co11 : Value).ownBlock) ∧ some k_ ≠ (.slice Ao12 t256.length co12 : Value).ownBlock)) (n := t270.length) (c := co18) ?_).2.2; exact (by (with_reducible repeat (first | apply Kd.R_alloc | apply Kd.R_drewN | apply Kd.R_drew)); exact (Kd.R_mono (Kd.R_far (p := ⟨gb274, 7, none⟩) (Kd.R_far (p := ⟨gb274, 6, none⟩) (Kd.R_far (p := ⟨gb274, 5, none⟩) (Kd.R_far (p := ⟨gb274, 4, none⟩) (Kd.R_far (p := ⟨gb274, 3, none⟩) (Kd.R_far (p := ⟨gb274, 2, none⟩) (Kd.R_far (p := ⟨gb274, 1, none⟩) (Kd.R_far (p := ⟨gb274, 0, none⟩) (Kd.R_types HO272.out BK274.out (by decide)) (fun _ hk => hk.2) (.int .i64 t261)) (fun _ hk => hk.2) (.bool t262)) (fun _ hk => hk.2) (.bool t263)) (fun _ hk => hk.2) (.int .i64 t264)) (fun _ hk => hk.2) (.string t265)) (fun _ hk => hk.2) (.int .i64 t266)) (fun _ hk => hk.2) (.slice Ao17 t267.length co17)) (fun _ hk => hk.2) (.slice Ao18 t270.length co18)) (fun _ h_ => h_.1)))); (case side4 => exact (Kd.R_reads' HO272.out).2.1); (case side5 => refine (Kd.R_reads' (e := 72) (base := w.heap.size) (ok := fun k_ => ((some k_ ≠ (.slice Ao12 t256.length co12 : Value).ownBlock ∧ some k_ ≠ (.slice Ao17 t267.length co17 : Value).ownBlock) ∧ some k_ ≠ (.slice Ao18 t270.length co18 : Value).ownBlock)) (n := t253.length) (c := co11) ?_).2.2; exact (by (with_reducible repeat (first | apply Kd.R_alloc | apply Kd.R_drewN | apply Kd.R_drew)); exact (Kd.R_mono (Kd.R_far (p := ⟨gb274, 7, none⟩) (Kd.R_far (p := ⟨gb274, 6, none⟩) (Kd.R_far (p := ⟨gb274, 5, none⟩) (Kd.R_far (p := ⟨gb274, 4, none⟩) (Kd.R_far (p := ⟨gb274, 3, none⟩) (Kd.R_far (p := ⟨gb274, 2, none⟩) (Kd.R_far (p := ⟨gb274, 1, none⟩) (Kd.R_far (p := ⟨gb274, 0, none⟩) (Kd.R_types HO255.out BK274.out (by decide)) (fun _ hk => hk.2) (.int .i64 t261)) (fun _ hk => hk.2) (.bool t262)) (fun _ hk => hk.2) (.bool t263)) (fun _ hk => hk.2) (.int .i64 t264)) (fun _ hk => hk.2) (.string t265)) (fun _ hk => hk.2) (.int .i64 t266)) (fun _ hk => hk.2) (.slice Ao17 t267.length co17)) (fun _ hk => hk.2) (.slice Ao18 t270.length co18)) (fun _ h_ => h_.1)))); (case side6 => exact (Kd.R_reads' HO255.out).2.1); (case side7 => refine (Kd.R_reads' (e := 72) (base := w.heap.size) (ok := fun k_ => ((some k_ ≠ (.slice Ao11 t253.length co11 : Value).ownBlock ∧ some k_ ≠ (.slice Ao17 t267.length co17 : Value).ownBlock) ∧ some k_ ≠ (.slice Ao18 t270.length co18 : Value).ownBlock)) (n := t256.length) (c := co12) ?_).2.2; exact (by (with_reducible repeat (first | apply Kd.R_alloc | apply Kd.R_drewN | apply Kd.R_drew)); exact (Kd.R_mono (Kd.R_far (p := ⟨gb274, 7, none⟩) (Kd.R_far (p := ⟨gb274, 6, none⟩) (Kd.R_far (p := ⟨gb274, 5, none⟩) (Kd.R_far (p := ⟨gb274, 4, none⟩) (Kd.R_far (p := ⟨gb274, 3, none⟩) (Kd.R_far (p := ⟨gb274, 2, none⟩) (Kd.R_far (p := ⟨gb274, 1, none⟩) (Kd.R_far (p := ⟨gb274, 0, none⟩) (Kd.R_types HO258.out BK274.out (by decide)) (fun _ hk => hk.2) (.int .i64 t261)) (fun _ hk => hk.2) (.bool t262)) (fun _ hk => hk.2) (.bool t263)) (fun _ hk => hk.2) (.int .i64 t264)) (fun _ hk => hk.2) (.string t265)) (fun _ hk => hk.2) (.int .i64 t266)) (fun _ hk => hk.2) (.slice Ao17 t267.length co17)) (fun _ hk => hk.2) (.slice Ao18 t270.length co18)) (fun _ h_ => h_.1)))); (case side8 => exact (Kd.R_reads' HO258.out).2.1); rintro e w24 ⟨rfl, hb⟩; refine ⟨_, rfl, ?_⟩; have n0_ := Aside0.mk (Kd.R_below (by (with_reducible repeat (first | apply Kd.R_alloc | apply Kd.R_drewN | apply Kd.R_drew)); exact (Kd.R_mono (Kd.R_far (p := ⟨gb274, 7, none⟩) (Kd.R_far (p := ⟨gb274, 6, none⟩) (Kd.R_far (p := ⟨gb274, 5, none⟩) (Kd.R_far (p := ⟨gb274, 4, none⟩) (Kd.R_far (p := ⟨gb274, 3, none⟩) (Kd.R_far (p := ⟨gb274, 2, none⟩) (Kd.R_far (p := ⟨gb274, 1, none⟩) (Kd.R_far (p := ⟨gb274, 0, none⟩) (Kd.R_types HO255.out BK274.out (by decide)) (fun _ hk => hk.2) (.int .i64 t261)) (fun _ hk => hk.2) (.bool t262)) (fun _ hk => hk.2) (.bool t263)) (fun _ hk => hk.2) (.int .i64 t264)) (fun _ hk => hk.2) (.string t265)) (fun _ hk => hk.2) (.int .i64 t266)) (fun _ hk => hk.2) (.slice Ao17 t267.length co17)) (fun _ hk => hk.2) (.slice Ao18 t270.length co18)) (fun _ h_ => h_.1))) hb); have n1_ := Aside0.mk (Kd.R_below (by (with_reducible repeat (first | apply Kd.R_alloc | apply Kd.R_drewN | apply Kd.R_drew)); exact (Kd.R_mono (Kd.R_far (p := ⟨gb274, 7, none⟩) (Kd.R_far (p := ⟨gb274, 6, none⟩) (Kd.R_far (p := ⟨gb274, 5, none⟩) (Kd.R_far (p := ⟨gb274, 4, none⟩) (Kd.R_far (p := ⟨gb274, 3, none⟩) (Kd.R_far (p := ⟨gb274, 2, none⟩) (Kd.R_far (p := ⟨gb274, 1, none⟩) (Kd.R_far (p := ⟨gb274, 0, none⟩) (Kd.R_types HO258.out BK274.out (by decide)) (fun _ hk => hk.2) (.int .i64 t261)) (fun _ hk => hk.2) (.bool t262)) (fun _ hk => hk.2) (.bool t263)) (fun _ hk => hk.2) (.int .i64 t264)) (fun _ hk => hk.2) (.string t265)) (fun _ hk => hk.2) (.int .i64 t266)) (fun _ hk => hk.2) (.slice Ao17 t267.length co17)) (fun _ hk => hk.2) (.slice Ao18 t270.length co18)) (fun _ h_ => h_.1))) hb); have n2_ := Aside0.mk (Kd.R_below (by (with_reducible repeat (first | apply Kd.R_alloc | apply Kd.R_drewN | apply Kd.R_drew)); exact (Kd.R_mono (Kd.R_far (p := ⟨gb274, 7, none⟩) (Kd.R_far (p := ⟨gb274, 6, none⟩) (Kd.R_far (p := ⟨gb274, 5, none⟩) (Kd.R_far (p := ⟨gb274, 4, none⟩) (Kd.R_far (p := ⟨gb274, 3, none⟩) (Kd.R_far (p := ⟨gb274, 2, none⟩) (Kd.R_far (p := ⟨gb274, 1, none⟩) (Kd.R_far (p := ⟨gb274, 0, none⟩) (Kd.R_types HO269.out BK274.out (by decide)) (fun _ hk => hk.2) (.int .i64 t261)) (fun _ hk => hk.2) (.bool t262)) (fun _ hk => hk.2) (.bool t263)) (fun _ hk => hk.2) (.int .i64 t264)) (fun _ hk => hk.2) (.string t265)) (fun _ hk => hk.2) (.int .i64 t266)) (fun _ hk => hk.2) (.slice Ao17 t267.length co17)) (fun _ hk => hk.2) (.slice Ao18 t270.length co18)) (fun _ h_ => h_.1))) hb); have n3_ := Aside0.mk (Kd.R_below (by (with_reducible repeat (first | apply Kd.R_alloc | apply Kd.R_drewN | apply Kd.R_drew)); exact (Kd.R_mono (Kd.R_far (p := ⟨gb274, 7, none⟩) (Kd.R_far (p := ⟨gb274, 6, none⟩) (Kd.R_far (p := ⟨gb274, 5, none⟩) (Kd.R_far (p := ⟨gb274, 4, none⟩) (Kd.R_far (p := ⟨gb274, 3, none⟩) (Kd.R_far (p := ⟨gb274, 2, none⟩) (Kd.R_far (p := ⟨gb274, 1, none⟩) (Kd.R_far (p := ⟨gb274, 0, none⟩) (Kd.R_types HO272.out BK274.out (by decide)) (fun _ hk => hk.2) (.int .i64 t261)) (fun _ hk => hk.2) (.bool t262)) (fun _ hk => hk.2) (.bool t263)) (fun _ hk => hk.2) (.int .i64 t264)) (fun _ hk => hk.2) (.string t265)) (fun _ hk => hk.2) (.int .i64 t266)) (fun _ hk => hk.2) (.slice Ao17 t267.length co17)) (fun _ hk => hk.2) (.slice Ao18 t270.length co18)) (fun _ h_ => h_.1))) hb); have n4_ := Aside0.mk (blk_below (g := gb260) (o := .cells #[.int .i64 t247, .bool t248, .bool t249, .int .i64 t250, .string t251, .int .i64 t252, .slice Ao11 t253.length co11, .slice Ao12 t256.length co12] 24 (0, 0)) (by (with_reducible repeat (first | refine blk_drewN ?_ _ | refine blk_drew ?_ | refine blk_alloc ?_ _)); refine blk_far ?_ NB260_274.out _; (with_reducible repeat (first | refine blk_drewN ?_ _ | refine blk_drew ?_ | refine blk_alloc ?_ _)); refine blk_far ?_ NB260_274.out _; (with_reducible repeat (first | refine blk_drewN ?_ _ | refine blk_drew ?_ | refine blk_alloc ?_ _)); refine blk_far ?_ NB260_274.out _; (with_reducible repeat (first | refine blk_drewN ?_ _ | refine blk_drew ?_ | refine blk_alloc ?_ _)); refine blk_far ?_ NB260_274.out _; (with_reducible repeat (first | refine blk_drewN ?_ _ | refine blk_drew ?_ | refine blk_alloc ?_ _)); refine blk_far ?_ NB260_274.out _; (with_reducible repeat (first | refine blk_drewN ?_ _ | refine blk_drew ?_ | refine blk_alloc ?_ _)); refine blk_far ?_ NB260_274.out _; (with_reducible repeat (first | refine blk_drewN ?_ _ | refine blk_drew ?_ | refine blk_alloc ?_ _)); refine blk_far ?_ NB260_274.out _; (with_reducible repeat (first | refine blk_drewN ?_ _ | refine blk_drew ?_ | refine blk_alloc ?_ _)); refine blk_far ?_ NB260_274.out _; (with_reducible repeat (first | refine blk_drewN ?_ _ | refine blk_drew ?_ | refine blk_alloc ?_ _)); exact BK260.out) hb); have n5_ := Aside0.mk (blk_below (g := gb274) (o := .cells #[.int .i64 t261, .bool t262, .bool t263, .int .i64 t264, .string t265, .int .i64 t266, .slice Ao17 t267.length co17, .slice Ao18 t270.length co18] 24 (0, 0)) (by (with_reducible repeat (first | refine blk_drewN ?_ _ | refine blk_drew ?_ | refine blk_alloc ?_ _)); refine blk_put (cs := #[.int .i64 t261, .bool t262, .bool t263, .int .i64 t264, .string t265, .int .i64 t266, .slice Ao17 t267.length co17, .slice none 0 0]) ?_ 7 _ rfl; (with_reducible repeat (first | refine blk_drewN ?_ _ | refine blk_drew ?_ | refine blk_alloc ?_ _)); refine blk_put (cs := #[.int .i64 t261, .bool t262, .bool t263, .int .i64 t264, .string t265, .int .i64 t266, .slice none 0 0, .slice none 0 0]) ?_ 6 _ rfl; (with_reducible repeat (first | refine blk_drewN ?_ _ | refine blk_drew ?_ | refine blk_alloc ?_ _)); refine blk_put (cs := #[.int .i64 t261, .bool t262, .bool t263, .int .i64 t264, .string t265, .int .i64 0, .slice none 0 0, .slice none 0 0]) ?_ 5 _ rfl; (with_reducible repeat (first | refine blk_drewN ?_ _ | refine blk_drew ?_ | refine blk_alloc ?_ _)); refine blk_put (cs := #[.int .i64 t261, .bool t262, .bool t263, .int .i64 t264, .string (⟨#[]⟩ : ByteArray), .int .i64 0, .slice none 0 0, .slice none 0 0]) ?_ 4 _ rfl; (with_reducible repeat (first | refine blk_drewN ?_ _ | refine blk_drew ?_ | refine blk_alloc ?_ _)); refine blk_put (cs := #[.int .i64 t261, .bool t262, .bool t263, .int .i64 0, .string (⟨#[]⟩ : ByteArray), .int .i64 0, .slice none 0 0, .slice none 0 0]) ?_ 3 _ rfl; (with_reducible repeat (first | refine blk_drewN ?_ _ | refine blk_drew ?_ | refine blk_alloc ?_ _)); refine blk_put (cs := #[.int .i64 t261, .bool t262, .bool false, .int .i64 0, .string (⟨#[]⟩ : ByteArray), .int .i64 0, .slice none 0 0, .slice none 0 0]) ?_ 2 _ rfl; (with_reducible repeat (first | refine blk_drewN ?_ _ | refine blk_drew ?_ | refine blk_alloc ?_ _)); refine blk_put (cs := #[.int .i64 t261, .bool false, .bool false, .int .i64 0, .string (⟨#[]⟩ : ByteArray), .int .i64 0, .slice none 0 0, .slice none 0 0]) ?_ 1 _ rfl; (with_reducible repeat (first | refine blk_drewN ?_ _ | refine blk_drew ?_ | refine blk_alloc ?_ _)); refine blk_put (cs := #[.int .i64 0, .bool false, .bool false, .int .i64 0, .string (⟨#[]⟩ : ByteArray), .int .i64 0, .slice none 0 0, .slice none 0 0]) ?_ 0 _ rfl; (with_reducible repeat (first | refine blk_drewN ?_ _ | refine blk_drew ?_ | refine blk_alloc ?_ _)); exact BK274.out) hb); have n6_ := Aside0.mk (below_step bq1_ hb); clear HO255; clear HO258; clear HO269; clear HO272; clear BK260; clear BK274; clear HB; have HO255 := n0_; have HO258 := n1_; have HO269 := n2_; have HO272 := n3_; have BK260 := n4_; have BK274 := n5_; have HB := n6_; clear n0_ n1_ n2_ n3_ n4_ n5_ n6_; (try clear hb); (try clear hb2); (try clear hk); (try clear hi)))
        go_meet
        case rel => exact ⟨_, ((t273 != t259)), (by first | rfl | (simp; done) | (simp [*]; done)), H', ⟨by first | omega | exact Nat.le_refl _⟩, ⟨by (with_reducible repeat (first | apply Kd.R_alloc | apply Kd.R_drewN | apply Kd.R_drew)); exact Kd.R_mono HO255.out (fun _ hk => ⟨hk.1.1, ⟨hk.1.2, hk.2⟩⟩)⟩, ⟨by (with_reducible repeat (first | apply Kd.R_alloc | apply Kd.R_drewN | apply Kd.R_drew)); exact Kd.R_mono HO258.out (fun _ hk => ⟨hk.1.1, ⟨hk.1.2, hk.2⟩⟩)⟩, ⟨by (with_reducible repeat (first | apply Kd.R_alloc | apply Kd.R_drewN | apply Kd.R_drew)); exact Kd.R_mono HO269.out (fun _ hk => ⟨hk.1.2, ⟨hk.2, hk.1.1⟩⟩)⟩, ⟨by (with_reducible repeat (first | apply Kd.R_alloc | apply Kd.R_drewN | apply Kd.R_drew)); exact Kd.R_mono HO272.out (fun _ hk => ⟨hk.1.2, ⟨hk.2, hk.1.1⟩⟩)⟩, ⟨by (with_reducible repeat (first | refine blk_drewN ?_ _ | refine blk_drew ?_ | refine blk_alloc ?_ _)); exact BK260.out⟩, ⟨by (with_reducible repeat (first | refine blk_drewN ?_ _ | refine blk_drew ?_ | refine blk_alloc ?_ _)); exact BK274.out⟩, ⟨by repeat (first | (with_reducible first | exact HB.out | apply below_alloc | apply pw_below_drewN | apply below_drew1 | refine below_set ?_ GE260.out | refine below_set ?_ GE274.out) | exact HB.out)⟩⟩
      · replace c20 := Bool.eq_false_iff.mpr c20
        subst c20
        have H1 : (laws_FnExactQuestionFor.j0 k a0 a1 a2 t259 true t247 t248 t249 t250 t251 t252 t253 t256 t261 t262 t263 t264 t265 t266 t267 t270) = some r := by rw [if_neg (show ¬ (false = true) by decide)] at H; exact H
        clear H
        have H := H1
        clear H1
        have H' := Aside0.mk H
        clear H
        have hnb25 := NB274_260.out
        have hnc25 := NB260_274.out
        have hcz26_0 : w14.cell? ⟨gb274, 0, none⟩ = some (.int .i64 0) := (blk_cell BK274.out 0).trans rfl
        have hcz26_1 : w14.cell? ⟨gb274, 1, none⟩ = some (.bool false) := (blk_cell BK274.out 1).trans rfl
        have hcz26_2 : w14.cell? ⟨gb274, 2, none⟩ = some (.bool false) := (blk_cell BK274.out 2).trans rfl
        have hcz26_3 : w14.cell? ⟨gb274, 3, none⟩ = some (.int .i64 0) := (blk_cell BK274.out 3).trans rfl
        have hcz26_4 : w14.cell? ⟨gb274, 4, none⟩ = some (.string (⟨#[]⟩ : ByteArray)) := (blk_cell BK274.out 4).trans rfl
        have hcz26_5 : w14.cell? ⟨gb274, 5, none⟩ = some (.int .i64 0) := (blk_cell BK274.out 5).trans rfl
        have hcz26_6 : w14.cell? ⟨gb274, 6, none⟩ = some (.slice none 0 0) := (blk_cell BK274.out 6).trans rfl
        have hcz26_7 : w14.cell? ⟨gb274, 7, none⟩ = some (.slice none 0 0) := (blk_cell BK274.out 7).trans rfl
        have hfz26_0 := blk_frozen BK274.out 0
        have hfz26_1 := blk_frozen BK274.out 1
        have hfz26_2 := blk_frozen BK274.out 2
        have hfz26_3 := blk_frozen BK274.out 3
        have hfz26_4 := blk_frozen BK274.out 4
        have hfz26_5 := blk_frozen BK274.out 5
        have hfz26_6 := blk_frozen BK274.out 6
        have hfz26_7 := blk_frozen BK274.out 7
        have hcz27_0 : w14.cell? ⟨gb260, 0, none⟩ = some (.int .i64 t247) := (blk_cell BK260.out 0).trans rfl
        have hcz27_1 : w14.cell? ⟨gb260, 1, none⟩ = some (.bool t248) := (blk_cell BK260.out 1).trans rfl
        have hcz27_2 : w14.cell? ⟨gb260, 2, none⟩ = some (.bool t249) := (blk_cell BK260.out 2).trans rfl
        have hcz27_3 : w14.cell? ⟨gb260, 3, none⟩ = some (.int .i64 t250) := (blk_cell BK260.out 3).trans rfl
        have hcz27_4 : w14.cell? ⟨gb260, 4, none⟩ = some (.string t251) := (blk_cell BK260.out 4).trans rfl
        have hcz27_5 : w14.cell? ⟨gb260, 5, none⟩ = some (.int .i64 t252) := (blk_cell BK260.out 5).trans rfl
        have hcz27_6 : w14.cell? ⟨gb260, 6, none⟩ = some (.slice Ao11 t253.length co11) := (blk_cell BK260.out 6).trans rfl
        have hcz27_7 : w14.cell? ⟨gb260, 7, none⟩ = some (.slice Ao12 t256.length co12) := (blk_cell BK260.out 7).trans rfl
        have hfz27_0 := blk_frozen BK260.out 0
        have hfz27_1 := blk_frozen BK260.out 1
        have hfz27_2 := blk_frozen BK260.out 2
        have hfz27_3 := blk_frozen BK260.out 3
        have hfz27_4 := blk_frozen BK260.out 4
        have hfz27_5 := blk_frozen BK260.out 5
        have hfz27_6 := blk_frozen BK260.out 6
        have hfz27_7 := blk_frozen BK260.out 7
        go_wp2_with (first | ((with_reducible refine gate_callee (f := 14) rfl ?_); refine goesL_ (some 34) rfl rfl Tryz.func14 (by kernel_rfl) rfl #[.agg #[.int .i64 t261, .bool t262, .bool t263, .int .i64 t264, .string t265, .int .i64 t266, .slice Ao17 t267.length co17, .slice Ao18 t270.length co18], .agg #[.int .i64 t247, .bool t248, .bool t249, .int .i64 t250, .string t251, .int .i64 t252, .slice Ao11 t253.length co11, .slice Ao12 t256.length co12]] rfl (by (try simp only [List.map_toArray, List.map_cons, List.map_nil]); first | done | rfl | (simp only [List.length_drop, List.length_take]; rfl)) ?_; (with_reducible refine (laws_eqMessage.calls k t261 t262 t263 t264 t265 t266 _ _ t267 _ _ t270 t247 t248 t249 t250 t251 t252 _ _ t253 _ _ t256 false _ ?side1 ?side2 ?side3 ?side4 ?side5 ?side6 ?side7 ?side8 A19.out).mono ?_); (case side1 => refine (Kd.R_reads' (e := 72) (base := w.heap.size) (ok := fun k_ => ((some k_ ≠ (.slice Ao18 t270.length co18 : Value).ownBlock ∧ some k_ ≠ (.slice Ao11 t253.length co11 : Value).ownBlock) ∧ some k_ ≠ (.slice Ao12 t256.length co12 : Value).ownBlock)) (n := t267.length) (c := co17) ?_).2.2; exact (by (with_reducible repeat (first | apply Kd.R_alloc | apply Kd.R_drewN | apply Kd.R_drew)); exact (Kd.R_mono (Kd.R_far (p := ⟨gb274, 7, none⟩) (Kd.R_far (p := ⟨gb274, 6, none⟩) (Kd.R_far (p := ⟨gb274, 5, none⟩) (Kd.R_far (p := ⟨gb274, 4, none⟩) (Kd.R_far (p := ⟨gb274, 3, none⟩) (Kd.R_far (p := ⟨gb274, 2, none⟩) (Kd.R_far (p := ⟨gb274, 1, none⟩) (Kd.R_far (p := ⟨gb274, 0, none⟩) (Kd.R_types HO269.out BK274.out (by decide)) (fun _ hk => hk.2) (.int .i64 t261)) (fun _ hk => hk.2) (.bool t262)) (fun _ hk => hk.2) (.bool t263)) (fun _ hk => hk.2) (.int .i64 t264)) (fun _ hk => hk.2) (.string t265)) (fun _ hk => hk.2) (.int .i64 t266)) (fun _ hk => hk.2) (.slice Ao17 t267.length co17)) (fun _ hk => hk.2) (.slice Ao18 t270.length co18)) (fun _ h_ => h_.1)))); (case side2 => exact (Kd.R_reads' HO269.out).2.1); (case side3 => refine (Kd.R_reads' (e := 72) (base := w.heap.size) (ok := fun k_ => ((some k_ ≠ (.slice Ao17 t267.length co17 : Value).ownBlock ∧ some k_ ≠ (.slice Ao11 t253.length co11 : Value).ownBlock) ∧ some k_ ≠ (.slice Ao12 t256.length co12 : Value).ownBlock)) (n := t270.length) (c := co18) ?_).2.2; exact (by (with_reducible repeat (first | apply Kd.R_alloc | apply Kd.R_drewN | apply Kd.R_drew)); exact (Kd.R_mono (Kd.R_far (p := ⟨gb274, 7, none⟩) (Kd.R_far (p := ⟨gb274, 6, none⟩) (Kd.R_far (p := ⟨gb274, 5, none⟩) (Kd.R_far (p := ⟨gb274, 4, none⟩) (Kd.R_far (p := ⟨gb274, 3, none⟩) (Kd.R_far (p := ⟨gb274, 2, none⟩) (Kd.R_far (p := ⟨gb274, 1, none⟩) (Kd.R_far (p := ⟨gb274, 0, none⟩) (Kd.R_types HO272.out BK274.out (by decide)) (fun _ hk => hk.2) (.int .i64 t261)) (fun _ hk => hk.2) (.bool t262)) (fun _ hk => hk.2) (.bool t263)) (fun _ hk => hk.2) (.int .i64 t264)) (fun _ hk => hk.2) (.string t265)) (fun _ hk => hk.2) (.int .i64 t266)) (fun _ hk => hk.2) (.slice Ao17 t267.length co17)) (fun _ hk => hk.2) (.slice Ao18 t270.length co18)) (fun _ h_ => h_.1)))); (case side4 => exact (Kd.R_reads' HO272.out).2.1); (case side5 => refine (Kd.R_reads' (e := 72) (base := w.heap.size) (ok := fun k_ => ((some k_ ≠ (.slice Ao12 t256.length co12 : Value).ownBlock ∧ some k_ ≠ (.slice Ao17 t267.length co17 : Value).ownBlock) ∧ some k_ ≠ (.slice Ao18 t270.length co18 : Value).ownBlock)) (n := t253.length) (c := co11) ?_).2.2; exact (by (with_reducible repeat (first | apply Kd.R_alloc | apply Kd.R_drewN | apply Kd.R_drew)); exact (Kd.R_mono (Kd.R_far (p := ⟨gb274, 7, none⟩) (Kd.R_far (p := ⟨gb274, 6, none⟩) (Kd.R_far (p := ⟨gb274, 5, none⟩) (Kd.R_far (p := ⟨gb274, 4, none⟩) (Kd.R_far (p := ⟨gb274, 3, none⟩) (Kd.R_far (p := ⟨gb274, 2, none⟩) (Kd.R_far (p := ⟨gb274, 1, none⟩) (Kd.R_far (p := ⟨gb274, 0, none⟩) (Kd.R_types HO255.out BK274.out (by decide)) (fun _ hk => hk.2) (.int .i64 t261)) (fun _ hk => hk.2) (.bool t262)) (fun _ hk => hk.2) (.bool t263)) (fun _ hk => hk.2) (.int .i64 t264)) (fun _ hk => hk.2) (.string t265)) (fun _ hk => hk.2) (.int .i64 t266)) (fun _ hk => hk.2) (.slice Ao17 t267.length co17)) (fun _ hk => hk.2) (.slice Ao18 t270.length co18)) (fun _ h_ => h_.1)))); (case side6 => exact (Kd.R_reads' HO255.out).2.1); (case side7 => refine (Kd.R_reads' (e := 72) (base := w.heap.size) (ok := fun k_ => ((some k_ ≠ (.slice Ao11 t253.length co11 : Value).ownBlock ∧ some k_ ≠ (.slice Ao17 t267.length co17 : Value).ownBlock) ∧ some k_ ≠ (.slice Ao18 t270.length co18 : Value).ownBlock)) (n := t256.length) (c := co12) ?_).2.2; exact (by (with_reducible repeat (first | apply Kd.R_alloc | apply Kd.R_drewN | apply Kd.R_drew)); exact (Kd.R_mono (Kd.R_far (p := ⟨gb274, 7, none⟩) (Kd.R_far (p := ⟨gb274, 6, none⟩) (Kd.R_far (p := ⟨gb274, 5, none⟩) (Kd.R_far (p := ⟨gb274, 4, none⟩) (Kd.R_far (p := ⟨gb274, 3, none⟩) (Kd.R_far (p := ⟨gb274, 2, none⟩) (Kd.R_far (p := ⟨gb274, 1, none⟩) (Kd.R_far (p := ⟨gb274, 0, none⟩) (Kd.R_types HO258.out BK274.out (by decide)) (fun _ hk => hk.2) (.int .i64 t261)) (fun _ hk => hk.2) (.bool t262)) (fun _ hk => hk.2) (.bool t263)) (fun _ hk => hk.2) (.int .i64 t264)) (fun _ hk => hk.2) (.string t265)) (fun _ hk => hk.2) (.int .i64 t266)) (fun _ hk => hk.2) (.slice Ao17 t267.length co17)) (fun _ hk => hk.2) (.slice Ao18 t270.length co18)) (fun _ h_ => h_.1)))); (case side8 => exact (Kd.R_reads' HO258.out).2.1); rintro e w28 ⟨rfl, hb⟩; refine ⟨_, rfl, ?_⟩; have n0_ := Aside0.mk (Kd.R_below (by (with_reducible repeat (first | apply Kd.R_alloc | apply Kd.R_drewN | apply Kd.R_drew)); exact (Kd.R_mono (Kd.R_far (p := ⟨gb274, 7, none⟩) (Kd.R_far (p := ⟨gb274, 6, none⟩) (Kd.R_far (p := ⟨gb274, 5, none⟩) (Kd.R_far (p := ⟨gb274, 4, none⟩) (Kd.R_far (p := ⟨gb274, 3, none⟩) (Kd.R_far (p := ⟨gb274, 2, none⟩) (Kd.R_far (p := ⟨gb274, 1, none⟩) (Kd.R_far (p := ⟨gb274, 0, none⟩) (Kd.R_types HO255.out BK274.out (by decide)) (fun _ hk => hk.2) (.int .i64 t261)) (fun _ hk => hk.2) (.bool t262)) (fun _ hk => hk.2) (.bool t263)) (fun _ hk => hk.2) (.int .i64 t264)) (fun _ hk => hk.2) (.string t265)) (fun _ hk => hk.2) (.int .i64 t266)) (fun _ hk => hk.2) (.slice Ao17 t267.length co17)) (fun _ hk => hk.2) (.slice Ao18 t270.length co18)) (fun _ h_ => h_.1))) hb); have n1_ := Aside0.mk (Kd.R_below (by (with_reducible repeat (first | apply Kd.R_alloc | apply Kd.R_drewN | apply Kd.R_drew)); exact (Kd.R_mono (Kd.R_far (p := ⟨gb274, 7, none⟩) (Kd.R_far (p := ⟨gb274, 6, none⟩) (Kd.R_far (p := ⟨gb274, 5, none⟩) (Kd.R_far (p := ⟨gb274, 4, none⟩) (Kd.R_far (p := ⟨gb274, 3, none⟩) (Kd.R_far (p := ⟨gb274, 2, none⟩) (Kd.R_far (p := ⟨gb274, 1, none⟩) (Kd.R_far (p := ⟨gb274, 0, none⟩) (Kd.R_types HO258.out BK274.out (by decide)) (fun _ hk => hk.2) (.int .i64 t261)) (fun _ hk => hk.2) (.bool t262)) (fun _ hk => hk.2) (.bool t263)) (fun _ hk => hk.2) (.int .i64 t264)) (fun _ hk => hk.2) (.string t265)) (fun _ hk => hk.2) (.int .i64 t266)) (fun _ hk => hk.2) (.slice Ao17 t267.length co17)) (fun _ hk => hk.2) (.slice Ao18 t270.length co18)) (fun _ h_ => h_.1))) hb); have n2_ := Aside0.mk (Kd.R_below (by (with_reducible repeat (first | apply Kd.R_alloc | apply Kd.R_drewN | apply Kd.R_drew)); exact (Kd.R_mono (Kd.R_far (p := ⟨gb274, 7, none⟩) (Kd.R_far (p := ⟨gb274, 6, none⟩) (Kd.R_far (p := ⟨gb274, 5, none⟩) (Kd.R_far (p := ⟨gb274, 4, none⟩) (Kd.R_far (p := ⟨gb274, 3, none⟩) (Kd.R_far (p := ⟨gb274, 2, none⟩) (Kd.R_far (p := ⟨gb274, 1, none⟩) (Kd.R_far (p := ⟨gb274, 0, none⟩) (Kd.R_types HO269.out BK274.out (by decide)) (fun _ hk => hk.2) (.int .i64 t261)) (fun _ hk => hk.2) (.bool t262)) (fun _ hk => hk.2) (.bool t263)) (fun _ hk => hk.2) (.int .i64 t264)) (fun _ hk => hk.2) (.string t265)) (fun _ hk => hk.2) (.int .i64 t266)) (fun _ hk => hk.2) (.slice Ao17 t267.length co17)) (fun _ hk => hk.2) (.slice Ao18 t270.length co18)) (fun _ h_ => h_.1))) hb); have n3_ := Aside0.mk (Kd.R_below (by (with_reducible repeat (first | apply Kd.R_alloc | apply Kd.R_drewN | apply Kd.R_drew)); exact (Kd.R_mono (Kd.R_far (p := ⟨gb274, 7, none⟩) (Kd.R_far (p := ⟨gb274, 6, none⟩) (Kd.R_far (p := ⟨gb274, 5, none⟩) (Kd.R_far (p := ⟨gb274, 4, none⟩) (Kd.R_far (p := ⟨gb274, 3, none⟩) (Kd.R_far (p := ⟨gb274, 2, none⟩) (Kd.R_far (p := ⟨gb274, 1, none⟩) (Kd.R_far (p := ⟨gb274, 0, none⟩) (Kd.R_types HO272.out BK274.out (by decide)) (fun _ hk => hk.2) (.int .i64 t261)) (fun _ hk => hk.2) (.bool t262)) (fun _ hk => hk.2) (.bool t263)) (fun _ hk => hk.2) (.int .i64 t264)) (fun _ hk => hk.2) (.string t265)) (fun _ hk => hk.2) (.int .i64 t266)) (fun _ hk => hk.2) (.slice Ao17 t267.length co17)) (fun _ hk => hk.2) (.slice Ao18 t270.length co18)) (fun _ h_ => h_.1))) hb); have n4_ := Aside0.mk (blk_below (g := gb260) (o := .cells #[.int .i64 t247, .bool t248, .bool t249, .int .i64 t250, .string t251, .int .i64 t252, .slice Ao11 t253.length co11, .slice Ao12 t256.length co12] 24 (0, 0)) (by (with_reducible repeat (first | refine blk_drewN ?_ _ | refine blk_drew ?_ | refine blk_alloc ?_ _)); refine blk_far ?_ NB260_274.out _; (with_reducible repeat (first | refine blk_drewN ?_ _ | refine blk_drew ?_ | refine blk_alloc ?_ _)); refine blk_far ?_ NB260_274.out _; (with_reducible repeat (first | refine blk_drewN ?_ _ | refine blk_drew ?_ | refine blk_alloc ?_ _)); refine blk_far ?_ NB260_274.out _; (with_reducible repeat (first | refine blk_drewN ?_ _ | refine blk_drew ?_ | refine blk_alloc ?_ _)); refine blk_far ?_ NB260_274.out _; (with_reducible repeat (first | refine blk_drewN ?_ _ | refine blk_drew ?_ | refine blk_alloc ?_ _)); refine blk_far ?_ NB260_274.out _; (with_reducible repeat (first | refine blk_drewN ?_ _ | refine blk_drew ?_ | refine blk_alloc ?_ _)); refine blk_far ?_ NB260_274.out _; (with_reducible repeat (first | refine blk_drewN ?_ _ | refine blk_drew ?_ | refine blk_alloc ?_ _)); refine blk_far ?_ NB260_274.out _; (with_reducible repeat (first | refine blk_drewN ?_ _ | refine blk_drew ?_ | refine blk_alloc ?_ _)); refine blk_far ?_ NB260_274.out _; (with_reducible repeat (first | refine blk_drewN ?_ _ | refine blk_drew ?_ | refine blk_alloc ?_ _)); exact BK260.out) hb); have n5_ := Aside0.mk (blk_below (g := gb274) (o := .cells #[.int .i64 t261, .bool t262, .bool t263, .int .i64 t264, .string t265, .int .i64 t266, .slice Ao17 t267.length co17, .slice Ao18 t270.length co18] 24 (0, 0)) (by (with_reducible repeat (first | refine blk_drewN ?_ _ | refine blk_drew ?_ | refine blk_alloc ?_ _)); refine blk_put (cs := #[.int .i64 t261, .bool t262, .bool t263, .int .i64 t264, .string t265, .int .i64 t266, .slice Ao17 t267.length co17, .slice none 0 0]) ?_ 7 _ rfl; (with_reducible repeat (first | refine blk_drewN ?_ _ | refine blk_drew ?_ | refine blk_alloc ?_ _)); refine blk_put (cs := #[.int .i64 t261, .bool t262, .bool t263, .int .i64 t264, .string t265, .int .i64 t266, .slice none 0 0, .slice none 0 0]) ?_ 6 _ rfl; (with_reducible repeat (first | refine blk_drewN ?_ _ | refine blk_drew ?_ | refine blk_alloc ?_ _)); refine blk_put (cs := #[.int .i64 t261, .bool t262, .bool t263, .int .i64 t264, .string t265, .int .i64 0, .slice none 0 0, .slice none 0 0]) ?_ 5 _ rfl; (with_reducible repeat (first | refine blk_drewN ?_ _ | refine blk_drew ?_ | refine blk_alloc ?_ _)); refine blk_put (cs := #[.int .i64 t261, .bool t262, .bool t263, .int .i64 t264, .string (⟨#[]⟩ : ByteArray), .int .i64 0, .slice none 0 0, .slice none 0 0]) ?_ 4 _ rfl; (with_reducible repeat (first | refine blk_drewN ?_ _ | refine blk_drew ?_ | refine blk_alloc ?_ _)); refine blk_put (cs := #[.int .i64 t261, .bool t262, .bool t263, .int .i64 0, .string (⟨#[]⟩ : ByteArray), .int .i64 0, .slice none 0 0, .slice none 0 0]) ?_ 3 _ rfl; (with_reducible repeat (first | refine blk_drewN ?_ _ | refine blk_drew ?_ | refine blk_alloc ?_ _)); refine blk_put (cs := #[.int .i64 t261, .bool t262, .bool false, .int .i64 0, .string (⟨#[]⟩ : ByteArray), .int .i64 0, .slice none 0 0, .slice none 0 0]) ?_ 2 _ rfl; (with_reducible repeat (first | refine blk_drewN ?_ _ | refine blk_drew ?_ | refine blk_alloc ?_ _)); refine blk_put (cs := #[.int .i64 t261, .bool false, .bool false, .int .i64 0, .string (⟨#[]⟩ : ByteArray), .int .i64 0, .slice none 0 0, .slice none 0 0]) ?_ 1 _ rfl; (with_reducible repeat (first | refine blk_drewN ?_ _ | refine blk_drew ?_ | refine blk_alloc ?_ _)); refine blk_put (cs := #[.int .i64 0, .bool false, .bool false, .int .i64 0, .string (⟨#[]⟩ : ByteArray), .int .i64 0, .slice none 0 0, .slice none 0 0]) ?_ 0 _ rfl; (with_reducible repeat (first | refine blk_drewN ?_ _ | refine blk_drew ?_ | refine blk_alloc ?_ _)); exact BK274.out) hb); have n6_ := Aside0.mk (below_step bq1_ hb); clear HO255; clear HO258; clear HO269; clear HO272; clear BK260; clear BK274; clear HB; have HO255 := n0_; have HO258 := n1_; have HO269 := n2_; have HO272 := n3_; have BK260 := n4_; have BK274 := n5_; have HB := n6_; clear n0_ n1_ n2_ n3_ n4_ n5_ n6_; (try clear hb); (try clear hb2); (try clear hk); (try clear hi)))
        go_meet
        case rel => exact ⟨_, (true), (by first | rfl | (simp; done) | (simp [*]; done)), H', ⟨by first | omega | exact Nat.le_refl _⟩, ⟨by (with_reducible repeat (first | apply Kd.R_alloc | apply Kd.R_drewN | apply Kd.R_drew)); exact Kd.R_mono HO255.out (fun _ hk => ⟨hk.1.1, ⟨hk.1.2, hk.2⟩⟩)⟩, ⟨by (with_reducible repeat (first | apply Kd.R_alloc | apply Kd.R_drewN | apply Kd.R_drew)); exact Kd.R_mono HO258.out (fun _ hk => ⟨hk.1.1, ⟨hk.1.2, hk.2⟩⟩)⟩, ⟨by (with_reducible repeat (first | apply Kd.R_alloc | apply Kd.R_drewN | apply Kd.R_drew)); exact Kd.R_mono HO269.out (fun _ hk => ⟨hk.1.2, ⟨hk.2, hk.1.1⟩⟩)⟩, ⟨by (with_reducible repeat (first | apply Kd.R_alloc | apply Kd.R_drewN | apply Kd.R_drew)); exact Kd.R_mono HO272.out (fun _ hk => ⟨hk.1.2, ⟨hk.2, hk.1.1⟩⟩)⟩, ⟨by (with_reducible repeat (first | refine blk_drewN ?_ _ | refine blk_drew ?_ | refine blk_alloc ?_ _)); exact BK260.out⟩, ⟨by (with_reducible repeat (first | refine blk_drewN ?_ _ | refine blk_drew ?_ | refine blk_alloc ?_ _)); exact BK274.out⟩, ⟨by repeat (first | (with_reducible first | exact HB.out | apply below_alloc | apply pw_below_drewN | apply below_drew1 | refine below_set ?_ GE260.out | refine below_set ?_ GE274.out) | exact HB.out)⟩⟩
    case rest =>
      clear HC7
      try clear c1
      try clear c2
      try clear p2
      try clear c3
      try clear c4
      try clear c4b0
      try clear c4b1
      try clear c12
      try clear c13
      try clear c14
      try clear c15
      try clear c20
      try clear c21
      try clear c25
      try clear hcz10_0
      try clear hcz10_1
      try clear hcz10_2
      try clear hcz10_3
      try clear hcz10_4
      try clear hcz10_5
      try clear hcz10_6
      try clear hcz10_7
      try clear hcz16_0
      try clear hcz16_1
      try clear hcz16_2
      try clear hcz16_3
      try clear hcz16_4
      try clear hcz16_5
      try clear hcz16_6
      try clear hcz16_7
      try clear hcz22_0
      try clear hcz22_1
      try clear hcz22_2
      try clear hcz22_3
      try clear hcz22_4
      try clear hcz22_5
      try clear hcz22_6
      try clear hcz22_7
      try clear hcz23_0
      try clear hcz23_1
      try clear hcz23_2
      try clear hcz23_3
      try clear hcz23_4
      try clear hcz23_5
      try clear hcz23_6
      try clear hcz23_7
      try clear hcz26_0
      try clear hcz26_1
      try clear hcz26_2
      try clear hcz26_3
      try clear hcz26_4
      try clear hcz26_5
      try clear hcz26_6
      try clear hcz26_7
      try clear hcz27_0
      try clear hcz27_1
      try clear hcz27_2
      try clear hcz27_3
      try clear hcz27_4
      try clear hcz27_5
      try clear hcz27_6
      try clear hcz27_7
      try clear hfz10_0
      try clear hfz10_1
      try clear hfz10_2
      try clear hfz10_3
      try clear hfz10_4
      try clear hfz10_5
      try clear hfz10_6
      try clear hfz10_7
      try clear hfz16_0
      try clear hfz16_1
      try clear hfz16_2
      try clear hfz16_3
      try clear hfz16_4
      try clear hfz16_5
      try clear hfz16_6
      try clear hfz16_7
      try clear hfz22_0
      try clear hfz22_1
      try clear hfz22_2
      try clear hfz22_3
      try clear hfz22_4
      try clear hfz22_5
      try clear hfz22_6
      try clear hfz22_7
      try clear hfz23_0
      try clear hfz23_1
      try clear hfz23_2
      try clear hfz23_3
      try clear hfz23_4
      try clear hfz23_5
      try clear hfz23_6
      try clear hfz23_7
      try clear hfz26_0
      try clear hfz26_1
      try clear hfz26_2
      try clear hfz26_3
      try clear hfz26_4
      try clear hfz26_5
      try clear hfz26_6
      try clear hfz26_7
      try clear hfz27_0
      try clear hfz27_1
      try clear hfz27_2
      try clear hfz27_3
      try clear hfz27_4
      try clear hfz27_5
      try clear hfz27_6
      try clear hfz27_7
      obtain ⟨kq, x40_6, rfl, HA, HJ6, HO_261006, HO_261007, HO_275006, HO_275007, BK260, BK274, HB⟩ := hcut
      cases kq with
      | zero => exact absurd HA.out (by simp [laws_FnExactQuestionFor.j0])
      | succ kj6 =>
        have H := HA.out
        clear HA
        simp only [laws_FnExactQuestionFor.j0] at H
        by_cases c29 : x40_6 = true
        · subst c29
          have H1 : (some false) = some r := by rw [if_pos rfl] at H; exact H
          clear H
          have H := H1
          clear H1
          obtain rfl := Option.some.inj H
          go_wp2
          go_ret
          exact ⟨by first | rfl | (simp [errW_none, errW_some] <;> rfl) | (simp [*, errW_none, errW_some] <;> rfl), by repeat (first | (with_reducible first | exact HB.out | apply below_alloc | apply pw_below_drewN | apply below_drew1 | refine below_set ?_ GE260.out | refine below_set ?_ GE274.out) | exact HB.out)⟩
        · replace c29 := Bool.eq_false_iff.mpr c29
          subst c29
          have H1 : ((laws_markMessage.f kj6 t261 t262 t263 t264 t265 t266 t267 t270 1).bind fun bt276 => ((laws_heldMessage.f kj6 t261 t262 t263 t264 t265 t266 bt276.2.1 bt276.2.2 1).bind fun t279 => (if t279 < 0 then (some false) else (if t279 = bt276.1 then ((impl_QuestionFor.f kj6 a0 a1 a2).bind fun bt280 => ((laws_eqMessage.f kj6 bt280.1 bt280.2.1 bt280.2.2.1 bt280.2.2.2.1 bt280.2.2.2.2.1 bt280.2.2.2.2.2.1 bt280.2.2.2.2.2.2.1 bt280.2.2.2.2.2.2.2.1 t247 t248 t249 t250 t251 t252 t253 t256).bind fun t294 => (if t294 = true then (laws_FnExactQuestionFor.j1 kj6 bt276.1 (bt280.2.2.2.2.2.2.2.2 != t259) t261 t262 t263 t264 t265 t266 bt276.2.1 bt276.2.2) else (laws_FnExactQuestionFor.j1 kj6 bt276.1 true t261 t262 t263 t264 t265 t266 bt276.2.1 bt276.2.2)))) else (some false))))) = some r := by rw [if_neg (show ¬ (false = true) by decide)] at H; exact H
          clear H
          have H := H1
          clear H1
          replace H := Option.bind_eq_some_iff.mp H
          obtain ⟨⟨t276, t277, t278⟩, A300, H⟩ := H
          replace H : ((laws_heldMessage.f kj6 t261 t262 t263 t264 t265 t266 t277 t278 1).bind fun t279 => (if t279 < 0 then (some false) else (if t279 = t276 then ((impl_QuestionFor.f kj6 a0 a1 a2).bind fun bt280 => ((laws_eqMessage.f kj6 bt280.1 bt280.2.1 bt280.2.2.1 bt280.2.2.2.1 bt280.2.2.2.2.1 bt280.2.2.2.2.2.1 bt280.2.2.2.2.2.2.1 bt280.2.2.2.2.2.2.2.1 t247 t248 t249 t250 t251 t252 t253 t256).bind fun t294 => (if t294 = true then (laws_FnExactQuestionFor.j1 kj6 t276 (bt280.2.2.2.2.2.2.2.2 != t259) t261 t262 t263 t264 t265 t266 t277 t278) else (laws_FnExactQuestionFor.j1 kj6 t276 true t261 t262 t263 t264 t265 t266 t277 t278)))) else (some false)))) = some r := H
          have A30 := Aside0.mk A300
          clear A300
          replace H := Option.bind_eq_some_iff.mp H
          obtain ⟨t279, A310, H⟩ := H
          replace H : (if t279 < 0 then (some false) else (if t279 = t276 then ((impl_QuestionFor.f kj6 a0 a1 a2).bind fun bt280 => ((laws_eqMessage.f kj6 bt280.1 bt280.2.1 bt280.2.2.1 bt280.2.2.2.1 bt280.2.2.2.2.1 bt280.2.2.2.2.2.1 bt280.2.2.2.2.2.2.1 bt280.2.2.2.2.2.2.2.1 t247 t248 t249 t250 t251 t252 t253 t256).bind fun t294 => (if t294 = true then (laws_FnExactQuestionFor.j1 kj6 t276 (bt280.2.2.2.2.2.2.2.2 != t259) t261 t262 t263 t264 t265 t266 t277 t278) else (laws_FnExactQuestionFor.j1 kj6 t276 true t261 t262 t263 t264 t265 t266 t277 t278)))) else (some false))) = some r := H
          have A31 := Aside0.mk A310
          clear A310
          by_cases c32 : t279 < 0
          · rw [if_pos c32] at H
            have c32b0 : decide (t279 < 0) = true := decide_eq_true c32
            clear c32
            obtain rfl := Option.some.inj H
            have hnb33 := NB274_260.out
            have hnc33 := NB260_274.out
            have hcz34_0 : wc.cell? ⟨gb274, 0, none⟩ = some (.int .i64 t261) := (blk_cell BK274.out 0).trans rfl
            have hcz34_1 : wc.cell? ⟨gb274, 1, none⟩ = some (.bool t262) := (blk_cell BK274.out 1).trans rfl
            have hcz34_2 : wc.cell? ⟨gb274, 2, none⟩ = some (.bool t263) := (blk_cell BK274.out 2).trans rfl
            have hcz34_3 : wc.cell? ⟨gb274, 3, none⟩ = some (.int .i64 t264) := (blk_cell BK274.out 3).trans rfl
            have hcz34_4 : wc.cell? ⟨gb274, 4, none⟩ = some (.string t265) := (blk_cell BK274.out 4).trans rfl
            have hcz34_5 : wc.cell? ⟨gb274, 5, none⟩ = some (.int .i64 t266) := (blk_cell BK274.out 5).trans rfl
            have hcz34_6 : wc.cell? ⟨gb274, 6, none⟩ = some (.slice Ao17 t267.length co17) := (blk_cell BK274.out 6).trans rfl
            have hcz34_7 : wc.cell? ⟨gb274, 7, none⟩ = some (.slice Ao18 t270.length co18) := (blk_cell BK274.out 7).trans rfl
            have hfz34_0 := blk_frozen BK274.out 0
            have hfz34_1 := blk_frozen BK274.out 1
            have hfz34_2 := blk_frozen BK274.out 2
            have hfz34_3 := blk_frozen BK274.out 3
            have hfz34_4 := blk_frozen BK274.out 4
            have hfz34_5 := blk_frozen BK274.out 5
            have hfz34_6 := blk_frozen BK274.out 6
            have hfz34_7 := blk_frozen BK274.out 7
            go_wp2_with (first | ((with_reducible refine gate_callee (f := 15) rfl ?_); refine goesL_ (some 43) rfl rfl Tryz.func15 (by kernel_rfl) rfl #[.agg #[.int .i64 t261, .bool t262, .bool t263, .int .i64 t264, .string t265, .int .i64 t266, .slice Ao17 t267.length co17, .slice Ao18 t270.length co18], .int .i64 1] rfl (by (try simp only [List.map_toArray, List.map_cons, List.map_nil]); first | done | rfl | (simp only [List.length_drop, List.length_take]; rfl)) ?_; (with_reducible refine (laws_markMessage.calls kj6 t261 t262 t263 t264 t265 t266 (fun k_ => some k_ = (.slice Ao17 t267.length co17 : Value).ownBlock) (.slice Ao17 t267.length co17) t267 (fun k_ => some k_ = (.slice Ao18 t270.length co18 : Value).ownBlock) (.slice Ao18 t270.length co18) t270 1 t276 t277 t278 w _ ?side1 ?side2 ?side3 ?side4 ?side5 A30.out).mono ?_); (case side1 => repeat (first | (with_reducible first | exact HB.out | apply below_alloc | apply pw_below_drewN | apply below_drew1 | refine below_set ?_ GE260.out | refine below_set ?_ GE274.out) | exact HB.out)); (case side2 => exact Kd.R_tight rfl HO_275006.out); (case side3 => exact fun k_ e_ => (HO_275006.out.1 k_ e_.symm).2.2); (case side4 => exact Kd.R_tight rfl HO_275007.out); (case side5 => exact fun k_ e_ => (HO_275007.out.1 k_ e_.symm).2.2); rintro e w35 ⟨rfl, hy0, hy1, hb, hkp⟩; refine ⟨_, rfl, ?_⟩; have n0_ := Aside0.mk (Kd.R_mono (ok' := fun k_ => some k_ ≠ (.slice Ao12 t256.length co12 : Value).ownBlock ∧ some k_ ≠ (.slice Ao17 t267.length co17 : Value).ownBlock ∧ some k_ ≠ (.slice Ao18 t270.length co18 : Value).ownBlock) (Kd.R_keptB (HO_261006.out) hkp (fun k_ hk_ hs_ => Or.elim hs_ (fun e_ => (hk_.2.1) e_) (fun e_ => (hk_.2.2) e_))) (fun k_ hk_ => ⟨hk_.1.1, hk_.1.2.1, hk_.1.2.2⟩)); have n1_ := Aside0.mk (Kd.R_mono (ok' := fun k_ => some k_ ≠ (.slice Ao11 t253.length co11 : Value).ownBlock ∧ some k_ ≠ (.slice Ao17 t267.length co17 : Value).ownBlock ∧ some k_ ≠ (.slice Ao18 t270.length co18 : Value).ownBlock) (Kd.R_keptB (HO_261007.out) hkp (fun k_ hk_ hs_ => Or.elim hs_ (fun e_ => (hk_.2.1) e_) (fun e_ => (hk_.2.2) e_))) (fun k_ hk_ => ⟨hk_.1.1, hk_.1.2.1, hk_.1.2.2⟩)); have n2_ := Aside0.mk (Kd.R_reok rfl hy0 (fun k_ e_ => HO_275006.out.1 k_ e_)); have n3_ := Aside0.mk (Kd.R_reok rfl hy1 (fun k_ e_ => HO_275007.out.1 k_ e_)); have n4_ := Aside0.mk (blk_kept (by (with_reducible repeat (first | refine blk_drewN ?_ _ | refine blk_drew ?_ | refine blk_alloc ?_ _)); exact BK260.out) hkp (fun hs_ => Or.elim hs_ (fun e_ => (fun e_ => (Kd.R_ne HO_275006.out BK260.out (by decide)) e_) e_) (fun e_ => (fun e_ => (Kd.R_ne HO_275007.out BK260.out (by decide)) e_) e_))); have n5_ := Aside0.mk (blk_kept (by (with_reducible repeat (first | refine blk_drewN ?_ _ | refine blk_drew ?_ | refine blk_alloc ?_ _)); exact BK274.out) hkp (fun hs_ => Or.elim hs_ (fun e_ => (fun e_ => (Kd.R_ne HO_275006.out BK274.out (by decide)) e_) e_) (fun e_ => (fun e_ => (Kd.R_ne HO_275007.out BK274.out (by decide)) e_) e_))); have n6_ := Aside0.mk (hb); clear HO_261006; clear HO_261007; clear HO_275006; clear HO_275007; clear BK260; clear BK274; clear HB; have HO_261006 := n0_; have HO_261007 := n1_; have HO_275006 := n2_; have HO_275007 := n3_; have BK260 := n4_; have BK274 := n5_; have HB := n6_; clear n0_ n1_ n2_ n3_ n4_ n5_ n6_; (try clear hb); (try clear hkp); (try clear hy0); (try clear hy1); obtain ⟨hcz36_0, hcz36_1, hcz36_2, hcz36_3, hcz36_4, hcz36_5, hcz36_6, hcz36_7, hfz36_0, hfz36_1, hfz36_2, hfz36_3, hfz36_4, hfz36_5, hfz36_6, hfz36_7⟩ := bk8_ BK274.out) | ((with_reducible refine gate_callee (f := 16) rfl ?_); refine goesL_ (some 46) rfl rfl Tryz.func16 (by kernel_rfl) rfl #[.agg #[.int .i64 t261, .bool t262, .bool t263, .int .i64 t264, .string t265, .int .i64 t266, .slice Ao17 t277.length co17, .slice Ao18 t278.length co18], .int .i64 1] rfl (by (try simp only [List.map_toArray, List.map_cons, List.map_nil]); first | done | (rw [show t277.length = t267.length from (Kd.R_reads' HO_275006.out).1.symm, show t278.length = t270.length from (Kd.R_reads' HO_275007.out).1.symm] <;> rfl) | rfl | (simp only [List.length_drop, List.length_take]; rfl)) ?_; (with_reducible refine (laws_heldMessage.calls kj6 t261 t262 t263 t264 t265 t266 _ _ t277 _ _ t278 1 t279 _ ?side1 ?side2 ?side3 ?side4 A31.out).mono ?_); (case side1 => repeat (first | exact (Kd.R_reads' HO_275006.out).2.2 | (with_reducible refine Kd.C_alloc ?_ _) | (with_reducible refine Kd.C_drewN ?_ _) | (with_reducible refine Kd.C_drew ?_))); (case side2 => rw [show t277.length = t267.length from (Kd.R_reads' HO_275006.out).1.symm]; exact (Kd.R_reads' HO_275006.out).2.1); (case side3 => repeat (first | exact (Kd.R_reads' HO_275007.out).2.2 | (with_reducible refine Kd.C_alloc ?_ _) | (with_reducible refine Kd.C_drewN ?_ _) | (with_reducible refine Kd.C_drew ?_))); (case side4 => rw [show t278.length = t270.length from (Kd.R_reads' HO_275007.out).1.symm]; exact (Kd.R_reads' HO_275007.out).2.1); rintro e w37 ⟨rfl, hb⟩; refine ⟨_, rfl, ?_⟩; have n0_ := Aside0.mk (Kd.R_below (by (with_reducible repeat (first | apply Kd.R_alloc | apply Kd.R_drewN | apply Kd.R_drew)); exact HO_261006.out) hb); have n1_ := Aside0.mk (Kd.R_below (by (with_reducible repeat (first | apply Kd.R_alloc | apply Kd.R_drewN | apply Kd.R_drew)); exact HO_261007.out) hb); have n2_ := Aside0.mk (Kd.R_below (by (with_reducible repeat (first | apply Kd.R_alloc | apply Kd.R_drewN | apply Kd.R_drew)); exact HO_275006.out) hb); have n3_ := Aside0.mk (Kd.R_below (by (with_reducible repeat (first | apply Kd.R_alloc | apply Kd.R_drewN | apply Kd.R_drew)); exact HO_275007.out) hb); have n4_ := Aside0.mk (bkB_ BK260 hb); have n5_ := Aside0.mk (bkB_ BK274 hb); have n6_ := Aside0.mk (below_step bq1_ hb); clear HO_261006; clear HO_261007; clear HO_275006; clear HO_275007; clear BK260; clear BK274; clear HB; have HO_261006 := n0_; have HO_261007 := n1_; have HO_275006 := n2_; have HO_275007 := n3_; have BK260 := n4_; have BK274 := n5_; have HB := n6_; clear n0_ n1_ n2_ n3_ n4_ n5_ n6_; (try clear hb); (try clear hb2); (try clear hk); (try clear hi)))
            go_ret
            exact ⟨by first | rfl | (simp [errW_none, errW_some] <;> rfl) | (simp [*, errW_none, errW_some] <;> rfl), by repeat (first | (with_reducible first | exact HB.out | apply below_alloc | apply pw_below_drewN | apply below_drew1 | refine below_set ?_ GE260.out | refine below_set ?_ GE274.out) | exact HB.out)⟩
          · rw [if_neg c32] at H
            have c32b0 : decide (t279 < 0) = false := decide_eq_false c32
            clear c32
            by_cases c38 : t279 = t276
            · rw [if_pos c38] at H
              have c38b0 : (t279 == t276) = true := beq_iff_eq.mpr c38
              have c38b1 : (t279 != t276) = false := bne_eq_false_iff_eq.mpr c38
              clear c38
              replace H := Option.bind_eq_some_iff.mp H
              obtain ⟨⟨t280, t281, t282, t283, t284, t285, t286, t289, t292⟩, A390, H⟩ := H
              replace H : ((laws_eqMessage.f kj6 t280 t281 t282 t283 t284 t285 t286 t289 t247 t248 t249 t250 t251 t252 t253 t256).bind fun t294 => (if t294 = true then (laws_FnExactQuestionFor.j1 kj6 t276 (t292 != t259) t261 t262 t263 t264 t265 t266 t277 t278) else (laws_FnExactQuestionFor.j1 kj6 t276 true t261 t262 t263 t264 t265 t266 t277 t278))) = some r := H
              have A39 := Aside0.mk A390
              clear A390
              have HC40 := Aside0.mk H
              clear H
              have hnb41 := NB274_260.out
              have hnc41 := NB260_274.out
              have hcz42_0 : wc.cell? ⟨gb274, 0, none⟩ = some (.int .i64 t261) := (blk_cell BK274.out 0).trans rfl
              have hcz42_1 : wc.cell? ⟨gb274, 1, none⟩ = some (.bool t262) := (blk_cell BK274.out 1).trans rfl
              have hcz42_2 : wc.cell? ⟨gb274, 2, none⟩ = some (.bool t263) := (blk_cell BK274.out 2).trans rfl
              have hcz42_3 : wc.cell? ⟨gb274, 3, none⟩ = some (.int .i64 t264) := (blk_cell BK274.out 3).trans rfl
              have hcz42_4 : wc.cell? ⟨gb274, 4, none⟩ = some (.string t265) := (blk_cell BK274.out 4).trans rfl
              have hcz42_5 : wc.cell? ⟨gb274, 5, none⟩ = some (.int .i64 t266) := (blk_cell BK274.out 5).trans rfl
              have hcz42_6 : wc.cell? ⟨gb274, 6, none⟩ = some (.slice Ao17 t267.length co17) := (blk_cell BK274.out 6).trans rfl
              have hcz42_7 : wc.cell? ⟨gb274, 7, none⟩ = some (.slice Ao18 t270.length co18) := (blk_cell BK274.out 7).trans rfl
              have hfz42_0 := blk_frozen BK274.out 0
              have hfz42_1 := blk_frozen BK274.out 1
              have hfz42_2 := blk_frozen BK274.out 2
              have hfz42_3 := blk_frozen BK274.out 3
              have hfz42_4 := blk_frozen BK274.out 4
              have hfz42_5 := blk_frozen BK274.out 5
              have hfz42_6 := blk_frozen BK274.out 6
              have hfz42_7 := blk_frozen BK274.out 7
              go_upto_region 16 with (first | ((with_reducible refine gate_callee (f := 15) rfl ?_); refine goesL_ (some 43) rfl rfl Tryz.func15 (by kernel_rfl) rfl #[.agg #[.int .i64 t261, .bool t262, .bool t263, .int .i64 t264, .string t265, .int .i64 t266, .slice Ao17 t267.length co17, .slice Ao18 t270.length co18], .int .i64 1] rfl (by (try simp only [List.map_toArray, List.map_cons, List.map_nil]); first | done | rfl | (simp only [List.length_drop, List.length_take]; rfl)) ?_; (with_reducible refine (laws_markMessage.calls kj6 t261 t262 t263 t264 t265 t266 (fun k_ => some k_ = (.slice Ao17 t267.length co17 : Value).ownBlock) (.slice Ao17 t267.length co17) t267 (fun k_ => some k_ = (.slice Ao18 t270.length co18 : Value).ownBlock) (.slice Ao18 t270.length co18) t270 1 t276 t277 t278 w _ ?side1 ?side2 ?side3 ?side4 ?side5 A30.out).mono ?_); (case side1 => repeat (first | (with_reducible first | exact HB.out | apply below_alloc | apply pw_below_drewN | apply below_drew1 | refine below_set ?_ GE260.out | refine below_set ?_ GE274.out) | exact HB.out)); (case side2 => exact Kd.R_tight rfl HO_275006.out); (case side3 => exact fun k_ e_ => (HO_275006.out.1 k_ e_.symm).2.2); (case side4 => exact Kd.R_tight rfl HO_275007.out); (case side5 => exact fun k_ e_ => (HO_275007.out.1 k_ e_.symm).2.2); rintro e w43 ⟨rfl, hy0, hy1, hb, hkp⟩; refine ⟨_, rfl, ?_⟩; have n0_ := Aside0.mk (Kd.R_mono (ok' := fun k_ => some k_ ≠ (.slice Ao12 t256.length co12 : Value).ownBlock ∧ some k_ ≠ (.slice Ao17 t267.length co17 : Value).ownBlock ∧ some k_ ≠ (.slice Ao18 t270.length co18 : Value).ownBlock) (Kd.R_keptB (HO_261006.out) hkp (fun k_ hk_ hs_ => Or.elim hs_ (fun e_ => (hk_.2.1) e_) (fun e_ => (hk_.2.2) e_))) (fun k_ hk_ => ⟨hk_.1.1, hk_.1.2.1, hk_.1.2.2⟩)); have n1_ := Aside0.mk (Kd.R_mono (ok' := fun k_ => some k_ ≠ (.slice Ao11 t253.length co11 : Value).ownBlock ∧ some k_ ≠ (.slice Ao17 t267.length co17 : Value).ownBlock ∧ some k_ ≠ (.slice Ao18 t270.length co18 : Value).ownBlock) (Kd.R_keptB (HO_261007.out) hkp (fun k_ hk_ hs_ => Or.elim hs_ (fun e_ => (hk_.2.1) e_) (fun e_ => (hk_.2.2) e_))) (fun k_ hk_ => ⟨hk_.1.1, hk_.1.2.1, hk_.1.2.2⟩)); have n2_ := Aside0.mk (Kd.R_reok rfl hy0 (fun k_ e_ => HO_275006.out.1 k_ e_)); have n3_ := Aside0.mk (Kd.R_reok rfl hy1 (fun k_ e_ => HO_275007.out.1 k_ e_)); have n4_ := Aside0.mk (blk_kept (by (with_reducible repeat (first | refine blk_drewN ?_ _ | refine blk_drew ?_ | refine blk_alloc ?_ _)); exact BK260.out) hkp (fun hs_ => Or.elim hs_ (fun e_ => (fun e_ => (Kd.R_ne HO_275006.out BK260.out (by decide)) e_) e_) (fun e_ => (fun e_ => (Kd.R_ne HO_275007.out BK260.out (by decide)) e_) e_))); have n5_ := Aside0.mk (blk_kept (by (with_reducible repeat (first | refine blk_drewN ?_ _ | refine blk_drew ?_ | refine blk_alloc ?_ _)); exact BK274.out) hkp (fun hs_ => Or.elim hs_ (fun e_ => (fun e_ => (Kd.R_ne HO_275006.out BK274.out (by decide)) e_) e_) (fun e_ => (fun e_ => (Kd.R_ne HO_275007.out BK274.out (by decide)) e_) e_))); have n6_ := Aside0.mk (hb); clear HO_261006; clear HO_261007; clear HO_275006; clear HO_275007; clear BK260; clear BK274; clear HB; have HO_261006 := n0_; have HO_261007 := n1_; have HO_275006 := n2_; have HO_275007 := n3_; have BK260 := n4_; have BK274 := n5_; have HB := n6_; clear n0_ n1_ n2_ n3_ n4_ n5_ n6_; (try clear hb); (try clear hkp); (try clear hy0); (try clear hy1); obtain ⟨hcz44_0, hcz44_1, hcz44_2, hcz44_3, hcz44_4, hcz44_5, hcz44_6, hcz44_7, hfz44_0, hfz44_1, hfz44_2, hfz44_3, hfz44_4, hfz44_5, hfz44_6, hfz44_7⟩ := bk8_ BK274.out) | ((with_reducible refine gate_callee (f := 16) rfl ?_); refine goesL_ (some 46) rfl rfl Tryz.func16 (by kernel_rfl) rfl #[.agg #[.int .i64 t261, .bool t262, .bool t263, .int .i64 t264, .string t265, .int .i64 t266, .slice Ao17 t277.length co17, .slice Ao18 t278.length co18], .int .i64 1] rfl (by (try simp only [List.map_toArray, List.map_cons, List.map_nil]); first | done | (rw [show t277.length = t267.length from (Kd.R_reads' HO_275006.out).1.symm, show t278.length = t270.length from (Kd.R_reads' HO_275007.out).1.symm] <;> rfl) | rfl | (simp only [List.length_drop, List.length_take]; rfl)) ?_; (with_reducible refine (laws_heldMessage.calls kj6 t261 t262 t263 t264 t265 t266 _ _ t277 _ _ t278 1 t279 _ ?side1 ?side2 ?side3 ?side4 A31.out).mono ?_); (case side1 => repeat (first | exact (Kd.R_reads' HO_275006.out).2.2 | (with_reducible refine Kd.C_alloc ?_ _) | (with_reducible refine Kd.C_drewN ?_ _) | (with_reducible refine Kd.C_drew ?_))); (case side2 => rw [show t277.length = t267.length from (Kd.R_reads' HO_275006.out).1.symm]; exact (Kd.R_reads' HO_275006.out).2.1); (case side3 => repeat (first | exact (Kd.R_reads' HO_275007.out).2.2 | (with_reducible refine Kd.C_alloc ?_ _) | (with_reducible refine Kd.C_drewN ?_ _) | (with_reducible refine Kd.C_drew ?_))); (case side4 => rw [show t278.length = t270.length from (Kd.R_reads' HO_275007.out).1.symm]; exact (Kd.R_reads' HO_275007.out).2.1); rintro e w45 ⟨rfl, hb⟩; refine ⟨_, rfl, ?_⟩; have n0_ := Aside0.mk (Kd.R_below (by (with_reducible repeat (first | apply Kd.R_alloc | apply Kd.R_drewN | apply Kd.R_drew)); exact HO_261006.out) hb); have n1_ := Aside0.mk (Kd.R_below (by (with_reducible repeat (first | apply Kd.R_alloc | apply Kd.R_drewN | apply Kd.R_drew)); exact HO_261007.out) hb); have n2_ := Aside0.mk (Kd.R_below (by (with_reducible repeat (first | apply Kd.R_alloc | apply Kd.R_drewN | apply Kd.R_drew)); exact HO_275006.out) hb); have n3_ := Aside0.mk (Kd.R_below (by (with_reducible repeat (first | apply Kd.R_alloc | apply Kd.R_drewN | apply Kd.R_drew)); exact HO_275007.out) hb); have n4_ := Aside0.mk (bkB_ BK260 hb); have n5_ := Aside0.mk (bkB_ BK274 hb); have n6_ := Aside0.mk (below_step bq1_ hb); clear HO_261006; clear HO_261007; clear HO_275006; clear HO_275007; clear BK260; clear BK274; clear HB; have HO_261006 := n0_; have HO_261007 := n1_; have HO_275006 := n2_; have HO_275007 := n3_; have BK260 := n4_; have BK274 := n5_; have HB := n6_; clear n0_ n1_ n2_ n3_ n4_ n5_ n6_; (try clear hb); (try clear hb2); (try clear hk); (try clear hi)) | ((with_reducible refine gate_callee (f := 13) rfl ?_); refine goesL_ (some 56) rfl rfl Tryz.func13 (by kernel_rfl) rfl #[.int .i64 a0, .string a1, .int .i64 a2] rfl (by (try simp only [List.map_toArray, List.map_cons, List.map_nil]); first | done | rfl | (simp only [List.length_drop, List.length_take]; rfl)) ?_; (with_reducible refine (impl_QuestionFor.calls kj6 a0 a1 a2 t280 t281 t282 t283 t284 t285 t286 t289 t292 _ A39.out).mono ?_); rintro e w46 ⟨v287, v290, rfl, ho0, ho1, hb⟩; refine ⟨_, rfl, ?_⟩; have n0_ := Aside0.mk (Kd.R_mono (Kd.R_told (Kd.R_told (Kd.R_old (by (with_reducible repeat (first | apply Kd.R_alloc | apply Kd.R_drewN | apply Kd.R_drew)); exact HO_261006.out) hb) (Kd.R_base ho0)) (Kd.R_base ho1)) (fun _ h_ => h_.1)); have n1_ := Aside0.mk (Kd.R_mono (Kd.R_told (Kd.R_told (Kd.R_old (by (with_reducible repeat (first | apply Kd.R_alloc | apply Kd.R_drewN | apply Kd.R_drew)); exact HO_261007.out) hb) (Kd.R_base ho0)) (Kd.R_base ho1)) (fun _ h_ => h_.1)); have n2_ := Aside0.mk (Kd.R_mono (Kd.R_told (Kd.R_told (Kd.R_old (by (with_reducible repeat (first | apply Kd.R_alloc | apply Kd.R_drewN | apply Kd.R_drew)); exact HO_275006.out) hb) (Kd.R_base ho0)) (Kd.R_base ho1)) (fun _ h_ => h_.1)); have n3_ := Aside0.mk (Kd.R_mono (Kd.R_told (Kd.R_told (Kd.R_old (by (with_reducible repeat (first | apply Kd.R_alloc | apply Kd.R_drewN | apply Kd.R_drew)); exact HO_275007.out) hb) (Kd.R_base ho0)) (Kd.R_base ho1)) (fun _ h_ => h_.1)); have n4_ := Aside0.mk (Kd.R_lower (Kd.R_new' (Kd.R_new' (Kd.R_new' (Kd.R_new' ho0 (Kd.R_lt (by (with_reducible repeat (first | apply Kd.R_alloc | apply Kd.R_drewN | apply Kd.R_drew)); exact HO_261006.out))) (Kd.R_lt (by (with_reducible repeat (first | apply Kd.R_alloc | apply Kd.R_drewN | apply Kd.R_drew)); exact HO_261007.out))) (Kd.R_lt (by (with_reducible repeat (first | apply Kd.R_alloc | apply Kd.R_drewN | apply Kd.R_drew)); exact HO_275006.out))) (Kd.R_lt (by (with_reducible repeat (first | apply Kd.R_alloc | apply Kd.R_drewN | apply Kd.R_drew)); exact HO_275007.out))) (below_size bq1_)); have n5_ := Aside0.mk (Kd.R_lower (Kd.R_new' (Kd.R_new' (Kd.R_new' (Kd.R_new' ho1 (Kd.R_lt (by (with_reducible repeat (first | apply Kd.R_alloc | apply Kd.R_drewN | apply Kd.R_drew)); exact HO_261006.out))) (Kd.R_lt (by (with_reducible repeat (first | apply Kd.R_alloc | apply Kd.R_drewN | apply Kd.R_drew)); exact HO_261007.out))) (Kd.R_lt (by (with_reducible repeat (first | apply Kd.R_alloc | apply Kd.R_drewN | apply Kd.R_drew)); exact HO_275006.out))) (Kd.R_lt (by (with_reducible repeat (first | apply Kd.R_alloc | apply Kd.R_drewN | apply Kd.R_drew)); exact HO_275007.out))) (below_size bq1_)); have n6_ := Aside0.mk (bkB_ BK260 hb); have n7_ := Aside0.mk (bkB_ BK274 hb); have n8_ := Aside0.mk (below_step bq1_ hb); clear HO_261006; clear HO_261007; clear HO_275006; clear HO_275007; clear BK260; clear BK274; clear HB; have HO_261006 := n0_; have HO_261007 := n1_; have HO_275006 := n2_; have HO_275007 := n3_; have HO288 := n4_; have HO291 := n5_; have BK260 := n6_; have BK274 := n7_; have HB := n8_; clear n0_ n1_ n2_ n3_ n4_ n5_ n6_ n7_ n8_; (try clear hb); (try clear hb2); (try clear hk); (try clear hi); (try clear ho0); (try clear ho1)) | ((with_reducible refine gate_dst (N := 13) rfl ?_); refine box_event ?hg (N := 13) ?hd (cs := #[.int .i64 0, .bool false, .bool false, .int .i64 0, .string (⟨#[]⟩ : ByteArray), .int .i64 0, .slice none 0 0, .slice none 0 0]) (t := 24) ?hr ?_; (case hd => rfl); (case hg => rfl); (case hr => first | (go_simp; done) | (go_simp; rfl)); intro gb293 hg w47 hbox hb; have n0_ := Aside0.mk (Kd.R_below (by (with_reducible repeat (first | apply Kd.R_alloc | apply Kd.R_drewN | apply Kd.R_drew)); exact HO_261006.out) hb); have n1_ := Aside0.mk (Kd.R_below (by (with_reducible repeat (first | apply Kd.R_alloc | apply Kd.R_drewN | apply Kd.R_drew)); exact HO_261007.out) hb); have n2_ := Aside0.mk (Kd.R_below (by (with_reducible repeat (first | apply Kd.R_alloc | apply Kd.R_drewN | apply Kd.R_drew)); exact HO_275006.out) hb); have n3_ := Aside0.mk (Kd.R_below (by (with_reducible repeat (first | apply Kd.R_alloc | apply Kd.R_drewN | apply Kd.R_drew)); exact HO_275007.out) hb); have n4_ := Aside0.mk (Kd.R_below (by (with_reducible repeat (first | apply Kd.R_alloc | apply Kd.R_drewN | apply Kd.R_drew)); exact HO288.out) hb); have n5_ := Aside0.mk (Kd.R_below (by (with_reducible repeat (first | apply Kd.R_alloc | apply Kd.R_drewN | apply Kd.R_drew)); exact HO291.out) hb); have n6_ := Aside0.mk (bkB_ BK260 hb); have n7_ := Aside0.mk (bkB_ BK274 hb); have n8_ := Aside0.mk (below_step bq1_ hb); have n9_ := Aside0.mk (hbox); have n10_ := Aside0.mk ((by rw [hg]; exact (below_size bq1_) : w.heap.size ≤ gb293)); have n11_ := Aside0.mk ((by rw [hg]; exact (below_size bq1_) : w.heap.size ≤ gb293)); have n12_ := Aside0.mk ((by rw [hg]; exact Nat.ne_of_lt (blk_lt (g := gb260) (o := .cells #[.int .i64 t247, .bool t248, .bool t249, .int .i64 t250, .string t251, .int .i64 t252, .slice Ao11 t253.length co11, .slice Ao12 t256.length co12] 24 (0, 0)) (by (with_reducible repeat (first | refine blk_drewN ?_ _ | refine blk_drew ?_ | refine blk_alloc ?_ _)); exact BK260.out)) : gb260 ≠ gb293)); have n13_ := Aside0.mk ((by rw [hg]; exact Nat.ne_of_gt (blk_lt (g := gb260) (o := .cells #[.int .i64 t247, .bool t248, .bool t249, .int .i64 t250, .string t251, .int .i64 t252, .slice Ao11 t253.length co11, .slice Ao12 t256.length co12] 24 (0, 0)) (by (with_reducible repeat (first | refine blk_drewN ?_ _ | refine blk_drew ?_ | refine blk_alloc ?_ _)); exact BK260.out)) : gb293 ≠ gb260)); have n14_ := Aside0.mk ((by rw [hg]; exact Nat.ne_of_lt (blk_lt (g := gb274) (o := .cells #[.int .i64 t261, .bool t262, .bool t263, .int .i64 t264, .string t265, .int .i64 t266, .slice Ao17 t267.length co17, .slice Ao18 t270.length co18] 24 (0, 0)) (by (with_reducible repeat (first | refine blk_drewN ?_ _ | refine blk_drew ?_ | refine blk_alloc ?_ _)); exact BK274.out)) : gb274 ≠ gb293)); have n15_ := Aside0.mk ((by rw [hg]; exact Nat.ne_of_gt (blk_lt (g := gb274) (o := .cells #[.int .i64 t261, .bool t262, .bool t263, .int .i64 t264, .string t265, .int .i64 t266, .slice Ao17 t267.length co17, .slice Ao18 t270.length co18] 24 (0, 0)) (by (with_reducible repeat (first | refine blk_drewN ?_ _ | refine blk_drew ?_ | refine blk_alloc ?_ _)); exact BK274.out)) : gb293 ≠ gb274)); clear HO_261006; clear HO_261007; clear HO_275006; clear HO_275007; clear HO288; clear HO291; clear BK260; clear BK274; clear HB; have HO_261006 := n0_; have HO_261007 := n1_; have HO_275006 := n2_; have HO_275007 := n3_; have HO288 := n4_; have HO291 := n5_; have BK260 := n6_; have BK274 := n7_; have HB := n8_; have BK293 := n9_; have GW293 := n10_; have GE293 := n11_; have NB260_293 := n12_; have NB293_260 := n13_; have NB274_293 := n14_; have NB293_274 := n15_; clear n0_ n1_ n2_ n3_ n4_ n5_ n6_ n7_ n8_ n9_ n10_ n11_ n12_ n13_ n14_ n15_; clear hb hbox hg; have hnb48 := NB293_260.out; have hnc48 := NB260_293.out; have hnb49 := NB293_274.out; have hnc49 := NB274_293.out; obtain ⟨hcz50_0, hcz50_1, hcz50_2, hcz50_3, hcz50_4, hcz50_5, hcz50_6, hcz50_7, hfz50_0, hfz50_1, hfz50_2, hfz50_3, hfz50_4, hfz50_5, hfz50_6, hfz50_7⟩ := bk8_ BK293.out; obtain ⟨Ao51, co51, eo51⟩ := Kd.R_slice HO288.out; subst eo51; obtain ⟨Ao52, co52, eo52⟩ := Kd.R_slice HO291.out; subst eo52))
              (try simp only [Act.put, List.setIfInBounds_toArray, List.set_cons_zero, List.set_cons_succ])
              go_cut [67] (fun v67 wc => ∃ (kq : Nat) (x67_39 : Bool), v67 = .bool x67_39 ∧ Aside0 (laws_FnExactQuestionFor.j1 kq t276 x67_39 t261 t262 t263 t264 t265 t266 t277 t278 = some r) ∧ Aside0 (kq ≤ kj6) ∧ Aside0 (Kd.R k72 72 wc w.heap.size (fun k_ => some k_ ≠ ((.slice Ao12 t256.length co12) : Value).ownBlock ∧ some k_ ≠ ((.slice Ao17 t267.length co17) : Value).ownBlock ∧ some k_ ≠ ((.slice Ao18 t270.length co18) : Value).ownBlock ∧ some k_ ≠ ((.slice Ao51 t286.length co51) : Value).ownBlock ∧ some k_ ≠ ((.slice Ao52 t289.length co52) : Value).ownBlock) (.slice Ao11 t253.length co11) t253) ∧ Aside0 (Kd.R k72 72 wc w.heap.size (fun k_ => some k_ ≠ ((.slice Ao11 t253.length co11) : Value).ownBlock ∧ some k_ ≠ ((.slice Ao17 t267.length co17) : Value).ownBlock ∧ some k_ ≠ ((.slice Ao18 t270.length co18) : Value).ownBlock ∧ some k_ ≠ ((.slice Ao51 t286.length co51) : Value).ownBlock ∧ some k_ ≠ ((.slice Ao52 t289.length co52) : Value).ownBlock) (.slice Ao12 t256.length co12) t256) ∧ Aside0 (Kd.R k72 72 wc w.heap.size (fun k_ => some k_ ≠ ((.slice Ao11 t253.length co11) : Value).ownBlock ∧ some k_ ≠ ((.slice Ao12 t256.length co12) : Value).ownBlock ∧ some k_ ≠ ((.slice Ao18 t270.length co18) : Value).ownBlock ∧ some k_ ≠ ((.slice Ao51 t286.length co51) : Value).ownBlock ∧ some k_ ≠ ((.slice Ao52 t289.length co52) : Value).ownBlock) (.slice Ao17 t267.length co17) t277) ∧ Aside0 (Kd.R k72 72 wc w.heap.size (fun k_ => some k_ ≠ ((.slice Ao11 t253.length co11) : Value).ownBlock ∧ some k_ ≠ ((.slice Ao12 t256.length co12) : Value).ownBlock ∧ some k_ ≠ ((.slice Ao17 t267.length co17) : Value).ownBlock ∧ some k_ ≠ ((.slice Ao51 t286.length co51) : Value).ownBlock ∧ some k_ ≠ ((.slice Ao52 t289.length co52) : Value).ownBlock) (.slice Ao18 t270.length co18) t278) ∧ Aside0 (Kd.R k72 72 wc w.heap.size (fun k_ => some k_ ≠ ((.slice Ao11 t253.length co11) : Value).ownBlock ∧ some k_ ≠ ((.slice Ao12 t256.length co12) : Value).ownBlock ∧ some k_ ≠ ((.slice Ao17 t267.length co17) : Value).ownBlock ∧ some k_ ≠ ((.slice Ao18 t270.length co18) : Value).ownBlock ∧ some k_ ≠ ((.slice Ao52 t289.length co52) : Value).ownBlock) (.slice Ao51 t286.length co51) t286) ∧ Aside0 (Kd.R k72 72 wc w.heap.size (fun k_ => some k_ ≠ ((.slice Ao11 t253.length co11) : Value).ownBlock ∧ some k_ ≠ ((.slice Ao12 t256.length co12) : Value).ownBlock ∧ some k_ ≠ ((.slice Ao17 t267.length co17) : Value).ownBlock ∧ some k_ ≠ ((.slice Ao18 t270.length co18) : Value).ownBlock ∧ some k_ ≠ ((.slice Ao51 t286.length co51) : Value).ownBlock) (.slice Ao52 t289.length co52) t289) ∧ Aside0 (wc.heap[gb260]? = some (.cells #[.int .i64 t247, .bool t248, .bool t249, .int .i64 t250, .string t251, .int .i64 t252, (.slice Ao11 t253.length co11), (.slice Ao12 t256.length co12)] 24 (0, 0))) ∧ Aside0 (wc.heap[gb274]? = some (.cells #[.int .i64 t261, .bool t262, .bool t263, .int .i64 t264, .string t265, .int .i64 t266, (.slice Ao17 t267.length co17), (.slice Ao18 t270.length co18)] 24 (0, 0))) ∧ Aside0 (wc.heap[gb293]? = some (.cells #[.int .i64 t280, .bool t281, .bool t282, .int .i64 t283, .string t284, .int .i64 t285, (.slice Ao51 t286.length co51), (.slice Ao52 t289.length co52)] 24 (0, 0))) ∧ Aside0 (Below w.heap.size w wc))
              case first =>
                have H := HC40.out
                clear HC40
                replace H := Option.bind_eq_some_iff.mp H
                obtain ⟨t294, A530, H⟩ := H
                replace H : (if t294 = true then (laws_FnExactQuestionFor.j1 kj6 t276 (t292 != t259) t261 t262 t263 t264 t265 t266 t277 t278) else (laws_FnExactQuestionFor.j1 kj6 t276 true t261 t262 t263 t264 t265 t266 t277 t278)) = some r := H
                have A53 := Aside0.mk A530
                clear A530
                by_cases c54 : t294 = true
                · subst c54
                  have H1 : (laws_FnExactQuestionFor.j1 kj6 t276 (t292 != t259) t261 t262 t263 t264 t265 t266 t277 t278) = some r := by rw [if_pos rfl] at H; exact H
                  clear H
                  have H := H1
                  clear H1
                  have H' := Aside0.mk H
                  clear H
                  have hnb55 := NB293_260.out
                  have hnc55 := NB260_293.out
                  have hnb56 := NB293_274.out
                  have hnc56 := NB274_293.out
                  have hcz57_0 : w47.cell? ⟨gb293, 0, none⟩ = some (.int .i64 0) := (blk_cell BK293.out 0).trans rfl
                  have hcz57_1 : w47.cell? ⟨gb293, 1, none⟩ = some (.bool false) := (blk_cell BK293.out 1).trans rfl
                  have hcz57_2 : w47.cell? ⟨gb293, 2, none⟩ = some (.bool false) := (blk_cell BK293.out 2).trans rfl
                  have hcz57_3 : w47.cell? ⟨gb293, 3, none⟩ = some (.int .i64 0) := (blk_cell BK293.out 3).trans rfl
                  have hcz57_4 : w47.cell? ⟨gb293, 4, none⟩ = some (.string (⟨#[]⟩ : ByteArray)) := (blk_cell BK293.out 4).trans rfl
                  have hcz57_5 : w47.cell? ⟨gb293, 5, none⟩ = some (.int .i64 0) := (blk_cell BK293.out 5).trans rfl
                  have hcz57_6 : w47.cell? ⟨gb293, 6, none⟩ = some (.slice none 0 0) := (blk_cell BK293.out 6).trans rfl
                  have hcz57_7 : w47.cell? ⟨gb293, 7, none⟩ = some (.slice none 0 0) := (blk_cell BK293.out 7).trans rfl
                  have hfz57_0 := blk_frozen BK293.out 0
                  have hfz57_1 := blk_frozen BK293.out 1
                  have hfz57_2 := blk_frozen BK293.out 2
                  have hfz57_3 := blk_frozen BK293.out 3
                  have hfz57_4 := blk_frozen BK293.out 4
                  have hfz57_5 := blk_frozen BK293.out 5
                  have hfz57_6 := blk_frozen BK293.out 6
                  have hfz57_7 := blk_frozen BK293.out 7
                  have hnb58 := NB260_274.out
                  have hnc58 := NB274_260.out
                  have hcz59_0 : w47.cell? ⟨gb260, 0, none⟩ = some (.int .i64 t247) := (blk_cell BK260.out 0).trans rfl
                  have hcz59_1 : w47.cell? ⟨gb260, 1, none⟩ = some (.bool t248) := (blk_cell BK260.out 1).trans rfl
                  have hcz59_2 : w47.cell? ⟨gb260, 2, none⟩ = some (.bool t249) := (blk_cell BK260.out 2).trans rfl
                  have hcz59_3 : w47.cell? ⟨gb260, 3, none⟩ = some (.int .i64 t250) := (blk_cell BK260.out 3).trans rfl
                  have hcz59_4 : w47.cell? ⟨gb260, 4, none⟩ = some (.string t251) := (blk_cell BK260.out 4).trans rfl
                  have hcz59_5 : w47.cell? ⟨gb260, 5, none⟩ = some (.int .i64 t252) := (blk_cell BK260.out 5).trans rfl
                  have hcz59_6 : w47.cell? ⟨gb260, 6, none⟩ = some (.slice Ao11 t253.length co11) := (blk_cell BK260.out 6).trans rfl
                  have hcz59_7 : w47.cell? ⟨gb260, 7, none⟩ = some (.slice Ao12 t256.length co12) := (blk_cell BK260.out 7).trans rfl
                  have hfz59_0 := blk_frozen BK260.out 0
                  have hfz59_1 := blk_frozen BK260.out 1
                  have hfz59_2 := blk_frozen BK260.out 2
                  have hfz59_3 := blk_frozen BK260.out 3
                  have hfz59_4 := blk_frozen BK260.out 4
                  have hfz59_5 := blk_frozen BK260.out 5
                  have hfz59_6 := blk_frozen BK260.out 6
                  have hfz59_7 := blk_frozen BK260.out 7
                  go_wp2_with (first | ((with_reducible refine gate_callee (f := 14) rfl ?_); refine goesL_ (some 61) rfl rfl Tryz.func14 (by kernel_rfl) rfl #[.agg #[.int .i64 t280, .bool t281, .bool t282, .int .i64 t283, .string t284, .int .i64 t285, .slice Ao51 t286.length co51, .slice Ao52 t289.length co52], .agg #[.int .i64 t247, .bool t248, .bool t249, .int .i64 t250, .string t251, .int .i64 t252, .slice Ao11 t253.length co11, .slice Ao12 t256.length co12]] rfl (by (try simp only [List.map_toArray, List.map_cons, List.map_nil]); first | done | rfl | (simp only [List.length_drop, List.length_take]; rfl)) ?_; (with_reducible refine (laws_eqMessage.calls kj6 t280 t281 t282 t283 t284 t285 _ _ t286 _ _ t289 t247 t248 t249 t250 t251 t252 _ _ t253 _ _ t256 true _ ?side1 ?side2 ?side3 ?side4 ?side5 ?side6 ?side7 ?side8 A53.out).mono ?_); (case side1 => refine (Kd.R_reads' (e := 72) (base := w.heap.size) (ok := fun k_ => ((((some k_ ≠ (.slice Ao52 t289.length co52 : Value).ownBlock ∧ some k_ ≠ (.slice Ao11 t253.length co11 : Value).ownBlock) ∧ some k_ ≠ (.slice Ao12 t256.length co12 : Value).ownBlock) ∧ some k_ ≠ (.slice Ao17 t267.length co17 : Value).ownBlock) ∧ some k_ ≠ (.slice Ao18 t270.length co18 : Value).ownBlock)) (n := t286.length) (c := co51) ?_).2.2; exact (by (with_reducible repeat (first | apply Kd.R_alloc | apply Kd.R_drewN | apply Kd.R_drew)); exact (Kd.R_mono (Kd.R_far (p := ⟨gb293, 7, none⟩) (Kd.R_far (p := ⟨gb293, 6, none⟩) (Kd.R_far (p := ⟨gb293, 5, none⟩) (Kd.R_far (p := ⟨gb293, 4, none⟩) (Kd.R_far (p := ⟨gb293, 3, none⟩) (Kd.R_far (p := ⟨gb293, 2, none⟩) (Kd.R_far (p := ⟨gb293, 1, none⟩) (Kd.R_far (p := ⟨gb293, 0, none⟩) (Kd.R_types HO288.out BK293.out (by decide)) (fun _ hk => hk.2) (.int .i64 t280)) (fun _ hk => hk.2) (.bool t281)) (fun _ hk => hk.2) (.bool t282)) (fun _ hk => hk.2) (.int .i64 t283)) (fun _ hk => hk.2) (.string t284)) (fun _ hk => hk.2) (.int .i64 t285)) (fun _ hk => hk.2) (.slice Ao51 t286.length co51)) (fun _ hk => hk.2) (.slice Ao52 t289.length co52)) (fun _ h_ => h_.1)))); (case side2 => exact (Kd.R_reads' HO288.out).2.1); (case side3 => refine (Kd.R_reads' (e := 72) (base := w.heap.size) (ok := fun k_ => ((((some k_ ≠ (.slice Ao51 t286.length co51 : Value).ownBlock ∧ some k_ ≠ (.slice Ao11 t253.length co11 : Value).ownBlock) ∧ some k_ ≠ (.slice Ao12 t256.length co12 : Value).ownBlock) ∧ some k_ ≠ (.slice Ao17 t267.length co17 : Value).ownBlock) ∧ some k_ ≠ (.slice Ao18 t270.length co18 : Value).ownBlock)) (n := t289.length) (c := co52) ?_).2.2; exact (by (with_reducible repeat (first | apply Kd.R_alloc | apply Kd.R_drewN | apply Kd.R_drew)); exact (Kd.R_mono (Kd.R_far (p := ⟨gb293, 7, none⟩) (Kd.R_far (p := ⟨gb293, 6, none⟩) (Kd.R_far (p := ⟨gb293, 5, none⟩) (Kd.R_far (p := ⟨gb293, 4, none⟩) (Kd.R_far (p := ⟨gb293, 3, none⟩) (Kd.R_far (p := ⟨gb293, 2, none⟩) (Kd.R_far (p := ⟨gb293, 1, none⟩) (Kd.R_far (p := ⟨gb293, 0, none⟩) (Kd.R_types HO291.out BK293.out (by decide)) (fun _ hk => hk.2) (.int .i64 t280)) (fun _ hk => hk.2) (.bool t281)) (fun _ hk => hk.2) (.bool t282)) (fun _ hk => hk.2) (.int .i64 t283)) (fun _ hk => hk.2) (.string t284)) (fun _ hk => hk.2) (.int .i64 t285)) (fun _ hk => hk.2) (.slice Ao51 t286.length co51)) (fun _ hk => hk.2) (.slice Ao52 t289.length co52)) (fun _ h_ => h_.1)))); (case side4 => exact (Kd.R_reads' HO291.out).2.1); (case side5 => refine (Kd.R_reads' (e := 72) (base := w.heap.size) (ok := fun k_ => (((some k_ ≠ (.slice Ao12 t256.length co12 : Value).ownBlock ∧ (some k_ ≠ (.slice Ao17 t267.length co17 : Value).ownBlock ∧ some k_ ≠ (.slice Ao18 t270.length co18 : Value).ownBlock)) ∧ some k_ ≠ (.slice Ao51 t286.length co51 : Value).ownBlock) ∧ some k_ ≠ (.slice Ao52 t289.length co52 : Value).ownBlock)) (n := t253.length) (c := co11) ?_).2.2; exact (by (with_reducible repeat (first | apply Kd.R_alloc | apply Kd.R_drewN | apply Kd.R_drew)); exact (Kd.R_mono (Kd.R_far (p := ⟨gb293, 7, none⟩) (Kd.R_far (p := ⟨gb293, 6, none⟩) (Kd.R_far (p := ⟨gb293, 5, none⟩) (Kd.R_far (p := ⟨gb293, 4, none⟩) (Kd.R_far (p := ⟨gb293, 3, none⟩) (Kd.R_far (p := ⟨gb293, 2, none⟩) (Kd.R_far (p := ⟨gb293, 1, none⟩) (Kd.R_far (p := ⟨gb293, 0, none⟩) (Kd.R_types HO_261006.out BK293.out (by decide)) (fun _ hk => hk.2) (.int .i64 t280)) (fun _ hk => hk.2) (.bool t281)) (fun _ hk => hk.2) (.bool t282)) (fun _ hk => hk.2) (.int .i64 t283)) (fun _ hk => hk.2) (.string t284)) (fun _ hk => hk.2) (.int .i64 t285)) (fun _ hk => hk.2) (.slice Ao51 t286.length co51)) (fun _ hk => hk.2) (.slice Ao52 t289.length co52)) (fun _ h_ => h_.1)))); (case side6 => exact (Kd.R_reads' HO_261006.out).2.1); (case side7 => refine (Kd.R_reads' (e := 72) (base := w.heap.size) (ok := fun k_ => (((some k_ ≠ (.slice Ao11 t253.length co11 : Value).ownBlock ∧ (some k_ ≠ (.slice Ao17 t267.length co17 : Value).ownBlock ∧ some k_ ≠ (.slice Ao18 t270.length co18 : Value).ownBlock)) ∧ some k_ ≠ (.slice Ao51 t286.length co51 : Value).ownBlock) ∧ some k_ ≠ (.slice Ao52 t289.length co52 : Value).ownBlock)) (n := t256.length) (c := co12) ?_).2.2; exact (by (with_reducible repeat (first | apply Kd.R_alloc | apply Kd.R_drewN | apply Kd.R_drew)); exact (Kd.R_mono (Kd.R_far (p := ⟨gb293, 7, none⟩) (Kd.R_far (p := ⟨gb293, 6, none⟩) (Kd.R_far (p := ⟨gb293, 5, none⟩) (Kd.R_far (p := ⟨gb293, 4, none⟩) (Kd.R_far (p := ⟨gb293, 3, none⟩) (Kd.R_far (p := ⟨gb293, 2, none⟩) (Kd.R_far (p := ⟨gb293, 1, none⟩) (Kd.R_far (p := ⟨gb293, 0, none⟩) (Kd.R_types HO_261007.out BK293.out (by decide)) (fun _ hk => hk.2) (.int .i64 t280)) (fun _ hk => hk.2) (.bool t281)) (fun _ hk => hk.2) (.bool t282)) (fun _ hk => hk.2) (.int .i64 t283)) (fun _ hk => hk.2) (.string t284)) (fun _ hk => hk.2) (.int .i64 t285)) (fun _ hk => hk.2) (.slice Ao51 t286.length co51)) (fun _ hk => hk.2) (.slice Ao52 t289.length co52)) (fun _ h_ => h_.1)))); (case side8 => exact (Kd.R_reads' HO_261007.out).2.1); rintro e w60 ⟨rfl, hb⟩; refine ⟨_, rfl, ?_⟩; have n0_ := Aside0.mk (Kd.R_below (by (with_reducible repeat (first | apply Kd.R_alloc | apply Kd.R_drewN | apply Kd.R_drew)); exact (Kd.R_mono (Kd.R_far (p := ⟨gb293, 7, none⟩) (Kd.R_far (p := ⟨gb293, 6, none⟩) (Kd.R_far (p := ⟨gb293, 5, none⟩) (Kd.R_far (p := ⟨gb293, 4, none⟩) (Kd.R_far (p := ⟨gb293, 3, none⟩) (Kd.R_far (p := ⟨gb293, 2, none⟩) (Kd.R_far (p := ⟨gb293, 1, none⟩) (Kd.R_far (p := ⟨gb293, 0, none⟩) (Kd.R_types HO_261006.out BK293.out (by decide)) (fun _ hk => hk.2) (.int .i64 t280)) (fun _ hk => hk.2) (.bool t281)) (fun _ hk => hk.2) (.bool t282)) (fun _ hk => hk.2) (.int .i64 t283)) (fun _ hk => hk.2) (.string t284)) (fun _ hk => hk.2) (.int .i64 t285)) (fun _ hk => hk.2) (.slice Ao51 t286.length co51)) (fun _ hk => hk.2) (.slice Ao52 t289.length co52)) (fun _ h_ => h_.1))) hb); have n1_ := Aside0.mk (Kd.R_below (by (with_reducible repeat (first | apply Kd.R_alloc | apply Kd.R_drewN | apply Kd.R_drew)); exact (Kd.R_mono (Kd.R_far (p := ⟨gb293, 7, none⟩) (Kd.R_far (p := ⟨gb293, 6, none⟩) (Kd.R_far (p := ⟨gb293, 5, none⟩) (Kd.R_far (p := ⟨gb293, 4, none⟩) (Kd.R_far (p := ⟨gb293, 3, none⟩) (Kd.R_far (p := ⟨gb293, 2, none⟩) (Kd.R_far (p := ⟨gb293, 1, none⟩) (Kd.R_far (p := ⟨gb293, 0, none⟩) (Kd.R_types HO_261007.out BK293.out (by decide)) (fun _ hk => hk.2) (.int .i64 t280)) (fun _ hk => hk.2) (.bool t281)) (fun _ hk => hk.2) (.bool t282)) (fun _ hk => hk.2) (.int .i64 t283)) (fun _ hk => hk.2) (.string t284)) (fun _ hk => hk.2) (.int .i64 t285)) (fun _ hk => hk.2) (.slice Ao51 t286.length co51)) (fun _ hk => hk.2) (.slice Ao52 t289.length co52)) (fun _ h_ => h_.1))) hb); have n2_ := Aside0.mk (Kd.R_below (by (with_reducible repeat (first | apply Kd.R_alloc | apply Kd.R_drewN | apply Kd.R_drew)); exact (Kd.R_mono (Kd.R_far (p := ⟨gb293, 7, none⟩) (Kd.R_far (p := ⟨gb293, 6, none⟩) (Kd.R_far (p := ⟨gb293, 5, none⟩) (Kd.R_far (p := ⟨gb293, 4, none⟩) (Kd.R_far (p := ⟨gb293, 3, none⟩) (Kd.R_far (p := ⟨gb293, 2, none⟩) (Kd.R_far (p := ⟨gb293, 1, none⟩) (Kd.R_far (p := ⟨gb293, 0, none⟩) (Kd.R_types HO_275006.out BK293.out (by decide)) (fun _ hk => hk.2) (.int .i64 t280)) (fun _ hk => hk.2) (.bool t281)) (fun _ hk => hk.2) (.bool t282)) (fun _ hk => hk.2) (.int .i64 t283)) (fun _ hk => hk.2) (.string t284)) (fun _ hk => hk.2) (.int .i64 t285)) (fun _ hk => hk.2) (.slice Ao51 t286.length co51)) (fun _ hk => hk.2) (.slice Ao52 t289.length co52)) (fun _ h_ => h_.1))) hb); have n3_ := Aside0.mk (Kd.R_below (by (with_reducible repeat (first | apply Kd.R_alloc | apply Kd.R_drewN | apply Kd.R_drew)); exact (Kd.R_mono (Kd.R_far (p := ⟨gb293, 7, none⟩) (Kd.R_far (p := ⟨gb293, 6, none⟩) (Kd.R_far (p := ⟨gb293, 5, none⟩) (Kd.R_far (p := ⟨gb293, 4, none⟩) (Kd.R_far (p := ⟨gb293, 3, none⟩) (Kd.R_far (p := ⟨gb293, 2, none⟩) (Kd.R_far (p := ⟨gb293, 1, none⟩) (Kd.R_far (p := ⟨gb293, 0, none⟩) (Kd.R_types HO_275007.out BK293.out (by decide)) (fun _ hk => hk.2) (.int .i64 t280)) (fun _ hk => hk.2) (.bool t281)) (fun _ hk => hk.2) (.bool t282)) (fun _ hk => hk.2) (.int .i64 t283)) (fun _ hk => hk.2) (.string t284)) (fun _ hk => hk.2) (.int .i64 t285)) (fun _ hk => hk.2) (.slice Ao51 t286.length co51)) (fun _ hk => hk.2) (.slice Ao52 t289.length co52)) (fun _ h_ => h_.1))) hb); have n4_ := Aside0.mk (Kd.R_below (by (with_reducible repeat (first | apply Kd.R_alloc | apply Kd.R_drewN | apply Kd.R_drew)); exact (Kd.R_mono (Kd.R_far (p := ⟨gb293, 7, none⟩) (Kd.R_far (p := ⟨gb293, 6, none⟩) (Kd.R_far (p := ⟨gb293, 5, none⟩) (Kd.R_far (p := ⟨gb293, 4, none⟩) (Kd.R_far (p := ⟨gb293, 3, none⟩) (Kd.R_far (p := ⟨gb293, 2, none⟩) (Kd.R_far (p := ⟨gb293, 1, none⟩) (Kd.R_far (p := ⟨gb293, 0, none⟩) (Kd.R_types HO288.out BK293.out (by decide)) (fun _ hk => hk.2) (.int .i64 t280)) (fun _ hk => hk.2) (.bool t281)) (fun _ hk => hk.2) (.bool t282)) (fun _ hk => hk.2) (.int .i64 t283)) (fun _ hk => hk.2) (.string t284)) (fun _ hk => hk.2) (.int .i64 t285)) (fun _ hk => hk.2) (.slice Ao51 t286.length co51)) (fun _ hk => hk.2) (.slice Ao52 t289.length co52)) (fun _ h_ => h_.1))) hb); have n5_ := Aside0.mk (Kd.R_below (by (with_reducible repeat (first | apply Kd.R_alloc | apply Kd.R_drewN | apply Kd.R_drew)); exact (Kd.R_mono (Kd.R_far (p := ⟨gb293, 7, none⟩) (Kd.R_far (p := ⟨gb293, 6, none⟩) (Kd.R_far (p := ⟨gb293, 5, none⟩) (Kd.R_far (p := ⟨gb293, 4, none⟩) (Kd.R_far (p := ⟨gb293, 3, none⟩) (Kd.R_far (p := ⟨gb293, 2, none⟩) (Kd.R_far (p := ⟨gb293, 1, none⟩) (Kd.R_far (p := ⟨gb293, 0, none⟩) (Kd.R_types HO291.out BK293.out (by decide)) (fun _ hk => hk.2) (.int .i64 t280)) (fun _ hk => hk.2) (.bool t281)) (fun _ hk => hk.2) (.bool t282)) (fun _ hk => hk.2) (.int .i64 t283)) (fun _ hk => hk.2) (.string t284)) (fun _ hk => hk.2) (.int .i64 t285)) (fun _ hk => hk.2) (.slice Ao51 t286.length co51)) (fun _ hk => hk.2) (.slice Ao52 t289.length co52)) (fun _ h_ => h_.1))) hb); have n6_ := Aside0.mk (blk_below (g := gb260) (o := .cells #[.int .i64 t247, .bool t248, .bool t249, .int .i64 t250, .string t251, .int .i64 t252, .slice Ao11 t253.length co11, .slice Ao12 t256.length co12] 24 (0, 0)) (by (with_reducible repeat (first | refine blk_drewN ?_ _ | refine blk_drew ?_ | refine blk_alloc ?_ _)); refine blk_far ?_ NB260_293.out _; (with_reducible repeat (first | refine blk_drewN ?_ _ | refine blk_drew ?_ | refine blk_alloc ?_ _)); refine blk_far ?_ NB260_293.out _; (with_reducible repeat (first | refine blk_drewN ?_ _ | refine blk_drew ?_ | refine blk_alloc ?_ _)); refine blk_far ?_ NB260_293.out _; (with_reducible repeat (first | refine blk_drewN ?_ _ | refine blk_drew ?_ | refine blk_alloc ?_ _)); refine blk_far ?_ NB260_293.out _; (with_reducible repeat (first | refine blk_drewN ?_ _ | refine blk_drew ?_ | refine blk_alloc ?_ _)); refine blk_far ?_ NB260_293.out _; (with_reducible repeat (first | refine blk_drewN ?_ _ | refine blk_drew ?_ | refine blk_alloc ?_ _)); refine blk_far ?_ NB260_293.out _; (with_reducible repeat (first | refine blk_drewN ?_ _ | refine blk_drew ?_ | refine blk_alloc ?_ _)); refine blk_far ?_ NB260_293.out _; (with_reducible repeat (first | refine blk_drewN ?_ _ | refine blk_drew ?_ | refine blk_alloc ?_ _)); refine blk_far ?_ NB260_293.out _; (with_reducible repeat (first | refine blk_drewN ?_ _ | refine blk_drew ?_ | refine blk_alloc ?_ _)); exact BK260.out) hb); have n7_ := Aside0.mk (blk_below (g := gb274) (o := .cells #[.int .i64 t261, .bool t262, .bool t263, .int .i64 t264, .string t265, .int .i64 t266, .slice Ao17 t267.length co17, .slice Ao18 t270.length co18] 24 (0, 0)) (by (with_reducible repeat (first | refine blk_drewN ?_ _ | refine blk_drew ?_ | refine blk_alloc ?_ _)); refine blk_far ?_ NB274_293.out _; (with_reducible repeat (first | refine blk_drewN ?_ _ | refine blk_drew ?_ | refine blk_alloc ?_ _)); refine blk_far ?_ NB274_293.out _; (with_reducible repeat (first | refine blk_drewN ?_ _ | refine blk_drew ?_ | refine blk_alloc ?_ _)); refine blk_far ?_ NB274_293.out _; (with_reducible repeat (first | refine blk_drewN ?_ _ | refine blk_drew ?_ | refine blk_alloc ?_ _)); refine blk_far ?_ NB274_293.out _; (with_reducible repeat (first | refine blk_drewN ?_ _ | refine blk_drew ?_ | refine blk_alloc ?_ _)); refine blk_far ?_ NB274_293.out _; (with_reducible repeat (first | refine blk_drewN ?_ _ | refine blk_drew ?_ | refine blk_alloc ?_ _)); refine blk_far ?_ NB274_293.out _; (with_reducible repeat (first | refine blk_drewN ?_ _ | refine blk_drew ?_ | refine blk_alloc ?_ _)); refine blk_far ?_ NB274_293.out _; (with_reducible repeat (first | refine blk_drewN ?_ _ | refine blk_drew ?_ | refine blk_alloc ?_ _)); refine blk_far ?_ NB274_293.out _; (with_reducible repeat (first | refine blk_drewN ?_ _ | refine blk_drew ?_ | refine blk_alloc ?_ _)); exact BK274.out) hb); have n8_ := Aside0.mk (blk_below (g := gb293) (o := .cells #[.int .i64 t280, .bool t281, .bool t282, .int .i64 t283, .string t284, .int .i64 t285, .slice Ao51 t286.length co51, .slice Ao52 t289.length co52] 24 (0, 0)) (by (with_reducible repeat (first | refine blk_drewN ?_ _ | refine blk_drew ?_ | refine blk_alloc ?_ _)); refine blk_put (cs := #[.int .i64 t280, .bool t281, .bool t282, .int .i64 t283, .string t284, .int .i64 t285, .slice Ao51 t286.length co51, .slice none 0 0]) ?_ 7 _ rfl; (with_reducible repeat (first | refine blk_drewN ?_ _ | refine blk_drew ?_ | refine blk_alloc ?_ _)); refine blk_put (cs := #[.int .i64 t280, .bool t281, .bool t282, .int .i64 t283, .string t284, .int .i64 t285, .slice none 0 0, .slice none 0 0]) ?_ 6 _ rfl; (with_reducible repeat (first | refine blk_drewN ?_ _ | refine blk_drew ?_ | refine blk_alloc ?_ _)); refine blk_put (cs := #[.int .i64 t280, .bool t281, .bool t282, .int .i64 t283, .string t284, .int .i64 0, .slice none 0 0, .slice none 0 0]) ?_ 5 _ rfl; (with_reducible repeat (first | refine blk_drewN ?_ _ | refine blk_drew ?_ | refine blk_alloc ?_ _)); refine blk_put (cs := #[.int .i64 t280, .bool t281, .bool t282, .int .i64 t283, .string (⟨#[]⟩ : ByteArray), .int .i64 0, .slice none 0 0, .slice none 0 0]) ?_ 4 _ rfl; (with_reducible repeat (first | refine blk_drewN ?_ _ | refine blk_drew ?_ | refine blk_alloc ?_ _)); refine blk_put (cs := #[.int .i64 t280, .bool t281, .bool t282, .int .i64 0, .string (⟨#[]⟩ : ByteArray), .int .i64 0, .slice none 0 0, .slice none 0 0]) ?_ 3 _ rfl; (with_reducible repeat (first | refine blk_drewN ?_ _ | refine blk_drew ?_ | refine blk_alloc ?_ _)); refine blk_put (cs := #[.int .i64 t280, .bool t281, .bool false, .int .i64 0, .string (⟨#[]⟩ : ByteArray), .int .i64 0, .slice none 0 0, .slice none 0 0]) ?_ 2 _ rfl; (with_reducible repeat (first | refine blk_drewN ?_ _ | refine blk_drew ?_ | refine blk_alloc ?_ _)); refine blk_put (cs := #[.int .i64 t280, .bool false, .bool false, .int .i64 0, .string (⟨#[]⟩ : ByteArray), .int .i64 0, .slice none 0 0, .slice none 0 0]) ?_ 1 _ rfl; (with_reducible repeat (first | refine blk_drewN ?_ _ | refine blk_drew ?_ | refine blk_alloc ?_ _)); refine blk_put (cs := #[.int .i64 0, .bool false, .bool false, .int .i64 0, .string (⟨#[]⟩ : ByteArray), .int .i64 0, .slice none 0 0, .slice none 0 0]) ?_ 0 _ rfl; (with_reducible repeat (first | refine blk_drewN ?_ _ | refine blk_drew ?_ | refine blk_alloc ?_ _)); exact BK293.out) hb); have n9_ := Aside0.mk (below_step bq1_ hb); clear HO_261006; clear HO_261007; clear HO_275006; clear HO_275007; clear HO288; clear HO291; clear BK260; clear BK274; clear BK293; clear HB; have HO_261006 := n0_; have HO_261007 := n1_; have HO_275006 := n2_; have HO_275007 := n3_; have HO288 := n4_; have HO291 := n5_; have BK260 := n6_; have BK274 := n7_; have BK293 := n8_; have HB := n9_; clear n0_ n1_ n2_ n3_ n4_ n5_ n6_ n7_ n8_ n9_; (try clear hb); (try clear hb2); (try clear hk); (try clear hi)))
                  go_meet
                  case rel => exact ⟨_, ((t292 != t259)), (by first | rfl | (simp; done) | (simp [*]; done)), H', ⟨by have := HJ6.out; first | omega | exact Nat.le_refl _⟩, ⟨by (with_reducible repeat (first | apply Kd.R_alloc | apply Kd.R_drewN | apply Kd.R_drew)); exact Kd.R_mono HO_261006.out (fun _ hk => ⟨hk.1.1.1, ⟨hk.1.1.2.1, ⟨hk.1.1.2.2, ⟨hk.1.2, hk.2⟩⟩⟩⟩)⟩, ⟨by (with_reducible repeat (first | apply Kd.R_alloc | apply Kd.R_drewN | apply Kd.R_drew)); exact Kd.R_mono HO_261007.out (fun _ hk => ⟨hk.1.1.1, ⟨hk.1.1.2.1, ⟨hk.1.1.2.2, ⟨hk.1.2, hk.2⟩⟩⟩⟩)⟩, ⟨by (with_reducible repeat (first | apply Kd.R_alloc | apply Kd.R_drewN | apply Kd.R_drew)); exact Kd.R_mono HO_275006.out (fun _ hk => ⟨hk.1.1.1, ⟨hk.1.1.2.1, ⟨hk.1.1.2.2, ⟨hk.1.2, hk.2⟩⟩⟩⟩)⟩, ⟨by (with_reducible repeat (first | apply Kd.R_alloc | apply Kd.R_drewN | apply Kd.R_drew)); exact Kd.R_mono HO_275007.out (fun _ hk => ⟨hk.1.1.1, ⟨hk.1.1.2.1, ⟨hk.1.1.2.2, ⟨hk.1.2, hk.2⟩⟩⟩⟩)⟩, ⟨by (with_reducible repeat (first | apply Kd.R_alloc | apply Kd.R_drewN | apply Kd.R_drew)); exact Kd.R_mono HO288.out (fun _ hk => ⟨hk.1.1.1.2, ⟨hk.1.1.2, ⟨hk.1.2, ⟨hk.2, hk.1.1.1.1⟩⟩⟩⟩)⟩, ⟨by (with_reducible repeat (first | apply Kd.R_alloc | apply Kd.R_drewN | apply Kd.R_drew)); exact Kd.R_mono HO291.out (fun _ hk => ⟨hk.1.1.1.2, ⟨hk.1.1.2, ⟨hk.1.2, ⟨hk.2, hk.1.1.1.1⟩⟩⟩⟩)⟩, ⟨by (with_reducible repeat (first | refine blk_drewN ?_ _ | refine blk_drew ?_ | refine blk_alloc ?_ _)); exact BK260.out⟩, ⟨by (with_reducible repeat (first | refine blk_drewN ?_ _ | refine blk_drew ?_ | refine blk_alloc ?_ _)); exact BK274.out⟩, ⟨by (with_reducible repeat (first | refine blk_drewN ?_ _ | refine blk_drew ?_ | refine blk_alloc ?_ _)); exact BK293.out⟩, ⟨by repeat (first | (with_reducible first | exact HB.out | apply below_alloc | apply pw_below_drewN | apply below_drew1 | refine below_set ?_ GE260.out | refine below_set ?_ GE274.out | refine below_set ?_ GE293.out) | exact HB.out)⟩⟩
                · replace c54 := Bool.eq_false_iff.mpr c54
                  subst c54
                  have H1 : (laws_FnExactQuestionFor.j1 kj6 t276 true t261 t262 t263 t264 t265 t266 t277 t278) = some r := by rw [if_neg (show ¬ (false = true) by decide)] at H; exact H
                  clear H
                  have H := H1
                  clear H1
                  have H' := Aside0.mk H
                  clear H
                  have hnb61 := NB293_260.out
                  have hnc61 := NB260_293.out
                  have hnb62 := NB293_274.out
                  have hnc62 := NB274_293.out
                  have hcz63_0 : w47.cell? ⟨gb293, 0, none⟩ = some (.int .i64 0) := (blk_cell BK293.out 0).trans rfl
                  have hcz63_1 : w47.cell? ⟨gb293, 1, none⟩ = some (.bool false) := (blk_cell BK293.out 1).trans rfl
                  have hcz63_2 : w47.cell? ⟨gb293, 2, none⟩ = some (.bool false) := (blk_cell BK293.out 2).trans rfl
                  have hcz63_3 : w47.cell? ⟨gb293, 3, none⟩ = some (.int .i64 0) := (blk_cell BK293.out 3).trans rfl
                  have hcz63_4 : w47.cell? ⟨gb293, 4, none⟩ = some (.string (⟨#[]⟩ : ByteArray)) := (blk_cell BK293.out 4).trans rfl
                  have hcz63_5 : w47.cell? ⟨gb293, 5, none⟩ = some (.int .i64 0) := (blk_cell BK293.out 5).trans rfl
                  have hcz63_6 : w47.cell? ⟨gb293, 6, none⟩ = some (.slice none 0 0) := (blk_cell BK293.out 6).trans rfl
                  have hcz63_7 : w47.cell? ⟨gb293, 7, none⟩ = some (.slice none 0 0) := (blk_cell BK293.out 7).trans rfl
                  have hfz63_0 := blk_frozen BK293.out 0
                  have hfz63_1 := blk_frozen BK293.out 1
                  have hfz63_2 := blk_frozen BK293.out 2
                  have hfz63_3 := blk_frozen BK293.out 3
                  have hfz63_4 := blk_frozen BK293.out 4
                  have hfz63_5 := blk_frozen BK293.out 5
                  have hfz63_6 := blk_frozen BK293.out 6
                  have hfz63_7 := blk_frozen BK293.out 7
                  have hnb64 := NB260_274.out
                  have hnc64 := NB274_260.out
                  have hcz65_0 : w47.cell? ⟨gb260, 0, none⟩ = some (.int .i64 t247) := (blk_cell BK260.out 0).trans rfl
                  have hcz65_1 : w47.cell? ⟨gb260, 1, none⟩ = some (.bool t248) := (blk_cell BK260.out 1).trans rfl
                  have hcz65_2 : w47.cell? ⟨gb260, 2, none⟩ = some (.bool t249) := (blk_cell BK260.out 2).trans rfl
                  have hcz65_3 : w47.cell? ⟨gb260, 3, none⟩ = some (.int .i64 t250) := (blk_cell BK260.out 3).trans rfl
                  have hcz65_4 : w47.cell? ⟨gb260, 4, none⟩ = some (.string t251) := (blk_cell BK260.out 4).trans rfl
                  have hcz65_5 : w47.cell? ⟨gb260, 5, none⟩ = some (.int .i64 t252) := (blk_cell BK260.out 5).trans rfl
                  have hcz65_6 : w47.cell? ⟨gb260, 6, none⟩ = some (.slice Ao11 t253.length co11) := (blk_cell BK260.out 6).trans rfl
                  have hcz65_7 : w47.cell? ⟨gb260, 7, none⟩ = some (.slice Ao12 t256.length co12) := (blk_cell BK260.out 7).trans rfl
                  have hfz65_0 := blk_frozen BK260.out 0
                  have hfz65_1 := blk_frozen BK260.out 1
                  have hfz65_2 := blk_frozen BK260.out 2
                  have hfz65_3 := blk_frozen BK260.out 3
                  have hfz65_4 := blk_frozen BK260.out 4
                  have hfz65_5 := blk_frozen BK260.out 5
                  have hfz65_6 := blk_frozen BK260.out 6
                  have hfz65_7 := blk_frozen BK260.out 7
                  go_wp2_with (first | ((with_reducible refine gate_callee (f := 14) rfl ?_); refine goesL_ (some 61) rfl rfl Tryz.func14 (by kernel_rfl) rfl #[.agg #[.int .i64 t280, .bool t281, .bool t282, .int .i64 t283, .string t284, .int .i64 t285, .slice Ao51 t286.length co51, .slice Ao52 t289.length co52], .agg #[.int .i64 t247, .bool t248, .bool t249, .int .i64 t250, .string t251, .int .i64 t252, .slice Ao11 t253.length co11, .slice Ao12 t256.length co12]] rfl (by (try simp only [List.map_toArray, List.map_cons, List.map_nil]); first | done | rfl | (simp only [List.length_drop, List.length_take]; rfl)) ?_; (with_reducible refine (laws_eqMessage.calls kj6 t280 t281 t282 t283 t284 t285 _ _ t286 _ _ t289 t247 t248 t249 t250 t251 t252 _ _ t253 _ _ t256 false _ ?side1 ?side2 ?side3 ?side4 ?side5 ?side6 ?side7 ?side8 A53.out).mono ?_); (case side1 => refine (Kd.R_reads' (e := 72) (base := w.heap.size) (ok := fun k_ => ((((some k_ ≠ (.slice Ao52 t289.length co52 : Value).ownBlock ∧ some k_ ≠ (.slice Ao11 t253.length co11 : Value).ownBlock) ∧ some k_ ≠ (.slice Ao12 t256.length co12 : Value).ownBlock) ∧ some k_ ≠ (.slice Ao17 t267.length co17 : Value).ownBlock) ∧ some k_ ≠ (.slice Ao18 t270.length co18 : Value).ownBlock)) (n := t286.length) (c := co51) ?_).2.2; exact (by (with_reducible repeat (first | apply Kd.R_alloc | apply Kd.R_drewN | apply Kd.R_drew)); exact (Kd.R_mono (Kd.R_far (p := ⟨gb293, 7, none⟩) (Kd.R_far (p := ⟨gb293, 6, none⟩) (Kd.R_far (p := ⟨gb293, 5, none⟩) (Kd.R_far (p := ⟨gb293, 4, none⟩) (Kd.R_far (p := ⟨gb293, 3, none⟩) (Kd.R_far (p := ⟨gb293, 2, none⟩) (Kd.R_far (p := ⟨gb293, 1, none⟩) (Kd.R_far (p := ⟨gb293, 0, none⟩) (Kd.R_types HO288.out BK293.out (by decide)) (fun _ hk => hk.2) (.int .i64 t280)) (fun _ hk => hk.2) (.bool t281)) (fun _ hk => hk.2) (.bool t282)) (fun _ hk => hk.2) (.int .i64 t283)) (fun _ hk => hk.2) (.string t284)) (fun _ hk => hk.2) (.int .i64 t285)) (fun _ hk => hk.2) (.slice Ao51 t286.length co51)) (fun _ hk => hk.2) (.slice Ao52 t289.length co52)) (fun _ h_ => h_.1)))); (case side2 => exact (Kd.R_reads' HO288.out).2.1); (case side3 => refine (Kd.R_reads' (e := 72) (base := w.heap.size) (ok := fun k_ => ((((some k_ ≠ (.slice Ao51 t286.length co51 : Value).ownBlock ∧ some k_ ≠ (.slice Ao11 t253.length co11 : Value).ownBlock) ∧ some k_ ≠ (.slice Ao12 t256.length co12 : Value).ownBlock) ∧ some k_ ≠ (.slice Ao17 t267.length co17 : Value).ownBlock) ∧ some k_ ≠ (.slice Ao18 t270.length co18 : Value).ownBlock)) (n := t289.length) (c := co52) ?_).2.2; exact (by (with_reducible repeat (first | apply Kd.R_alloc | apply Kd.R_drewN | apply Kd.R_drew)); exact (Kd.R_mono (Kd.R_far (p := ⟨gb293, 7, none⟩) (Kd.R_far (p := ⟨gb293, 6, none⟩) (Kd.R_far (p := ⟨gb293, 5, none⟩) (Kd.R_far (p := ⟨gb293, 4, none⟩) (Kd.R_far (p := ⟨gb293, 3, none⟩) (Kd.R_far (p := ⟨gb293, 2, none⟩) (Kd.R_far (p := ⟨gb293, 1, none⟩) (Kd.R_far (p := ⟨gb293, 0, none⟩) (Kd.R_types HO291.out BK293.out (by decide)) (fun _ hk => hk.2) (.int .i64 t280)) (fun _ hk => hk.2) (.bool t281)) (fun _ hk => hk.2) (.bool t282)) (fun _ hk => hk.2) (.int .i64 t283)) (fun _ hk => hk.2) (.string t284)) (fun _ hk => hk.2) (.int .i64 t285)) (fun _ hk => hk.2) (.slice Ao51 t286.length co51)) (fun _ hk => hk.2) (.slice Ao52 t289.length co52)) (fun _ h_ => h_.1)))); (case side4 => exact (Kd.R_reads' HO291.out).2.1); (case side5 => refine (Kd.R_reads' (e := 72) (base := w.heap.size) (ok := fun k_ => (((some k_ ≠ (.slice Ao12 t256.length co12 : Value).ownBlock ∧ (some k_ ≠ (.slice Ao17 t267.length co17 : Value).ownBlock ∧ some k_ ≠ (.slice Ao18 t270.length co18 : Value).ownBlock)) ∧ some k_ ≠ (.slice Ao51 t286.length co51 : Value).ownBlock) ∧ some k_ ≠ (.slice Ao52 t289.length co52 : Value).ownBlock)) (n := t253.length) (c := co11) ?_).2.2; exact (by (with_reducible repeat (first | apply Kd.R_alloc | apply Kd.R_drewN | apply Kd.R_drew)); exact (Kd.R_mono (Kd.R_far (p := ⟨gb293, 7, none⟩) (Kd.R_far (p := ⟨gb293, 6, none⟩) (Kd.R_far (p := ⟨gb293, 5, none⟩) (Kd.R_far (p := ⟨gb293, 4, none⟩) (Kd.R_far (p := ⟨gb293, 3, none⟩) (Kd.R_far (p := ⟨gb293, 2, none⟩) (Kd.R_far (p := ⟨gb293, 1, none⟩) (Kd.R_far (p := ⟨gb293, 0, none⟩) (Kd.R_types HO_261006.out BK293.out (by decide)) (fun _ hk => hk.2) (.int .i64 t280)) (fun _ hk => hk.2) (.bool t281)) (fun _ hk => hk.2) (.bool t282)) (fun _ hk => hk.2) (.int .i64 t283)) (fun _ hk => hk.2) (.string t284)) (fun _ hk => hk.2) (.int .i64 t285)) (fun _ hk => hk.2) (.slice Ao51 t286.length co51)) (fun _ hk => hk.2) (.slice Ao52 t289.length co52)) (fun _ h_ => h_.1)))); (case side6 => exact (Kd.R_reads' HO_261006.out).2.1); (case side7 => refine (Kd.R_reads' (e := 72) (base := w.heap.size) (ok := fun k_ => (((some k_ ≠ (.slice Ao11 t253.length co11 : Value).ownBlock ∧ (some k_ ≠ (.slice Ao17 t267.length co17 : Value).ownBlock ∧ some k_ ≠ (.slice Ao18 t270.length co18 : Value).ownBlock)) ∧ some k_ ≠ (.slice Ao51 t286.length co51 : Value).ownBlock) ∧ some k_ ≠ (.slice Ao52 t289.length co52 : Value).ownBlock)) (n := t256.length) (c := co12) ?_).2.2; exact (by (with_reducible repeat (first | apply Kd.R_alloc | apply Kd.R_drewN | apply Kd.R_drew)); exact (Kd.R_mono (Kd.R_far (p := ⟨gb293, 7, none⟩) (Kd.R_far (p := ⟨gb293, 6, none⟩) (Kd.R_far (p := ⟨gb293, 5, none⟩) (Kd.R_far (p := ⟨gb293, 4, none⟩) (Kd.R_far (p := ⟨gb293, 3, none⟩) (Kd.R_far (p := ⟨gb293, 2, none⟩) (Kd.R_far (p := ⟨gb293, 1, none⟩) (Kd.R_far (p := ⟨gb293, 0, none⟩) (Kd.R_types HO_261007.out BK293.out (by decide)) (fun _ hk => hk.2) (.int .i64 t280)) (fun _ hk => hk.2) (.bool t281)) (fun _ hk => hk.2) (.bool t282)) (fun _ hk => hk.2) (.int .i64 t283)) (fun _ hk => hk.2) (.string t284)) (fun _ hk => hk.2) (.int .i64 t285)) (fun _ hk => hk.2) (.slice Ao51 t286.length co51)) (fun _ hk => hk.2) (.slice Ao52 t289.length co52)) (fun _ h_ => h_.1)))); (case side8 => exact (Kd.R_reads' HO_261007.out).2.1); rintro e w66 ⟨rfl, hb⟩; refine ⟨_, rfl, ?_⟩; have n0_ := Aside0.mk (Kd.R_below (by (with_reducible repeat (first | apply Kd.R_alloc | apply Kd.R_drewN | apply Kd.R_drew)); exact (Kd.R_mono (Kd.R_far (p := ⟨gb293, 7, none⟩) (Kd.R_far (p := ⟨gb293, 6, none⟩) (Kd.R_far (p := ⟨gb293, 5, none⟩) (Kd.R_far (p := ⟨gb293, 4, none⟩) (Kd.R_far (p := ⟨gb293, 3, none⟩) (Kd.R_far (p := ⟨gb293, 2, none⟩) (Kd.R_far (p := ⟨gb293, 1, none⟩) (Kd.R_far (p := ⟨gb293, 0, none⟩) (Kd.R_types HO_261006.out BK293.out (by decide)) (fun _ hk => hk.2) (.int .i64 t280)) (fun _ hk => hk.2) (.bool t281)) (fun _ hk => hk.2) (.bool t282)) (fun _ hk => hk.2) (.int .i64 t283)) (fun _ hk => hk.2) (.string t284)) (fun _ hk => hk.2) (.int .i64 t285)) (fun _ hk => hk.2) (.slice Ao51 t286.length co51)) (fun _ hk => hk.2) (.slice Ao52 t289.length co52)) (fun _ h_ => h_.1))) hb); have n1_ := Aside0.mk (Kd.R_below (by (with_reducible repeat (first | apply Kd.R_alloc | apply Kd.R_drewN | apply Kd.R_drew)); exact (Kd.R_mono (Kd.R_far (p := ⟨gb293, 7, none⟩) (Kd.R_far (p := ⟨gb293, 6, none⟩) (Kd.R_far (p := ⟨gb293, 5, none⟩) (Kd.R_far (p := ⟨gb293, 4, none⟩) (Kd.R_far (p := ⟨gb293, 3, none⟩) (Kd.R_far (p := ⟨gb293, 2, none⟩) (Kd.R_far (p := ⟨gb293, 1, none⟩) (Kd.R_far (p := ⟨gb293, 0, none⟩) (Kd.R_types HO_261007.out BK293.out (by decide)) (fun _ hk => hk.2) (.int .i64 t280)) (fun _ hk => hk.2) (.bool t281)) (fun _ hk => hk.2) (.bool t282)) (fun _ hk => hk.2) (.int .i64 t283)) (fun _ hk => hk.2) (.string t284)) (fun _ hk => hk.2) (.int .i64 t285)) (fun _ hk => hk.2) (.slice Ao51 t286.length co51)) (fun _ hk => hk.2) (.slice Ao52 t289.length co52)) (fun _ h_ => h_.1))) hb); have n2_ := Aside0.mk (Kd.R_below (by (with_reducible repeat (first | apply Kd.R_alloc | apply Kd.R_drewN | apply Kd.R_drew)); exact (Kd.R_mono (Kd.R_far (p := ⟨gb293, 7, none⟩) (Kd.R_far (p := ⟨gb293, 6, none⟩) (Kd.R_far (p := ⟨gb293, 5, none⟩) (Kd.R_far (p := ⟨gb293, 4, none⟩) (Kd.R_far (p := ⟨gb293, 3, none⟩) (Kd.R_far (p := ⟨gb293, 2, none⟩) (Kd.R_far (p := ⟨gb293, 1, none⟩) (Kd.R_far (p := ⟨gb293, 0, none⟩) (Kd.R_types HO_275006.out BK293.out (by decide)) (fun _ hk => hk.2) (.int .i64 t280)) (fun _ hk => hk.2) (.bool t281)) (fun _ hk => hk.2) (.bool t282)) (fun _ hk => hk.2) (.int .i64 t283)) (fun _ hk => hk.2) (.string t284)) (fun _ hk => hk.2) (.int .i64 t285)) (fun _ hk => hk.2) (.slice Ao51 t286.length co51)) (fun _ hk => hk.2) (.slice Ao52 t289.length co52)) (fun _ h_ => h_.1))) hb); have n3_ := Aside0.mk (Kd.R_below (by (with_reducible repeat (first | apply Kd.R_alloc | apply Kd.R_drewN | apply Kd.R_drew)); exact (Kd.R_mono (Kd.R_far (p := ⟨gb293, 7, none⟩) (Kd.R_far (p := ⟨gb293, 6, none⟩) (Kd.R_far (p := ⟨gb293, 5, none⟩) (Kd.R_far (p := ⟨gb293, 4, none⟩) (Kd.R_far (p := ⟨gb293, 3, none⟩) (Kd.R_far (p := ⟨gb293, 2, none⟩) (Kd.R_far (p := ⟨gb293, 1, none⟩) (Kd.R_far (p := ⟨gb293, 0, none⟩) (Kd.R_types HO_275007.out BK293.out (by decide)) (fun _ hk => hk.2) (.int .i64 t280)) (fun _ hk => hk.2) (.bool t281)) (fun _ hk => hk.2) (.bool t282)) (fun _ hk => hk.2) (.int .i64 t283)) (fun _ hk => hk.2) (.string t284)) (fun _ hk => hk.2) (.int .i64 t285)) (fun _ hk => hk.2) (.slice Ao51 t286.length co51)) (fun _ hk => hk.2) (.slice Ao52 t289.length co52)) (fun _ h_ => h_.1))) hb); have n4_ := Aside0.mk (Kd.R_below (by (with_reducible repeat (first | apply Kd.R_alloc | apply Kd.R_drewN | apply Kd.R_drew)); exact (Kd.R_mono (Kd.R_far (p := ⟨gb293, 7, none⟩) (Kd.R_far (p := ⟨gb293, 6, none⟩) (Kd.R_far (p := ⟨gb293, 5, none⟩) (Kd.R_far (p := ⟨gb293, 4, none⟩) (Kd.R_far (p := ⟨gb293, 3, none⟩) (Kd.R_far (p := ⟨gb293, 2, none⟩) (Kd.R_far (p := ⟨gb293, 1, none⟩) (Kd.R_far (p := ⟨gb293, 0, none⟩) (Kd.R_types HO288.out BK293.out (by decide)) (fun _ hk => hk.2) (.int .i64 t280)) (fun _ hk => hk.2) (.bool t281)) (fun _ hk => hk.2) (.bool t282)) (fun _ hk => hk.2) (.int .i64 t283)) (fun _ hk => hk.2) (.string t284)) (fun _ hk => hk.2) (.int .i64 t285)) (fun _ hk => hk.2) (.slice Ao51 t286.length co51)) (fun _ hk => hk.2) (.slice Ao52 t289.length co52)) (fun _ h_ => h_.1))) hb); have n5_ := Aside0.mk (Kd.R_below (by (with_reducible repeat (first | apply Kd.R_alloc | apply Kd.R_drewN | apply Kd.R_drew)); exact (Kd.R_mono (Kd.R_far (p := ⟨gb293, 7, none⟩) (Kd.R_far (p := ⟨gb293, 6, none⟩) (Kd.R_far (p := ⟨gb293, 5, none⟩) (Kd.R_far (p := ⟨gb293, 4, none⟩) (Kd.R_far (p := ⟨gb293, 3, none⟩) (Kd.R_far (p := ⟨gb293, 2, none⟩) (Kd.R_far (p := ⟨gb293, 1, none⟩) (Kd.R_far (p := ⟨gb293, 0, none⟩) (Kd.R_types HO291.out BK293.out (by decide)) (fun _ hk => hk.2) (.int .i64 t280)) (fun _ hk => hk.2) (.bool t281)) (fun _ hk => hk.2) (.bool t282)) (fun _ hk => hk.2) (.int .i64 t283)) (fun _ hk => hk.2) (.string t284)) (fun _ hk => hk.2) (.int .i64 t285)) (fun _ hk => hk.2) (.slice Ao51 t286.length co51)) (fun _ hk => hk.2) (.slice Ao52 t289.length co52)) (fun _ h_ => h_.1))) hb); have n6_ := Aside0.mk (blk_below (g := gb260) (o := .cells #[.int .i64 t247, .bool t248, .bool t249, .int .i64 t250, .string t251, .int .i64 t252, .slice Ao11 t253.length co11, .slice Ao12 t256.length co12] 24 (0, 0)) (by (with_reducible repeat (first | refine blk_drewN ?_ _ | refine blk_drew ?_ | refine blk_alloc ?_ _)); refine blk_far ?_ NB260_293.out _; (with_reducible repeat (first | refine blk_drewN ?_ _ | refine blk_drew ?_ | refine blk_alloc ?_ _)); refine blk_far ?_ NB260_293.out _; (with_reducible repeat (first | refine blk_drewN ?_ _ | refine blk_drew ?_ | refine blk_alloc ?_ _)); refine blk_far ?_ NB260_293.out _; (with_reducible repeat (first | refine blk_drewN ?_ _ | refine blk_drew ?_ | refine blk_alloc ?_ _)); refine blk_far ?_ NB260_293.out _; (with_reducible repeat (first | refine blk_drewN ?_ _ | refine blk_drew ?_ | refine blk_alloc ?_ _)); refine blk_far ?_ NB260_293.out _; (with_reducible repeat (first | refine blk_drewN ?_ _ | refine blk_drew ?_ | refine blk_alloc ?_ _)); refine blk_far ?_ NB260_293.out _; (with_reducible repeat (first | refine blk_drewN ?_ _ | refine blk_drew ?_ | refine blk_alloc ?_ _)); refine blk_far ?_ NB260_293.out _; (with_reducible repeat (first | refine blk_drewN ?_ _ | refine blk_drew ?_ | refine blk_alloc ?_ _)); refine blk_far ?_ NB260_293.out _; (with_reducible repeat (first | refine blk_drewN ?_ _ | refine blk_drew ?_ | refine blk_alloc ?_ _)); exact BK260.out) hb); have n7_ := Aside0.mk (blk_below (g := gb274) (o := .cells #[.int .i64 t261, .bool t262, .bool t263, .int .i64 t264, .string t265, .int .i64 t266, .slice Ao17 t267.length co17, .slice Ao18 t270.length co18] 24 (0, 0)) (by (with_reducible repeat (first | refine blk_drewN ?_ _ | refine blk_drew ?_ | refine blk_alloc ?_ _)); refine blk_far ?_ NB274_293.out _; (with_reducible repeat (first | refine blk_drewN ?_ _ | refine blk_drew ?_ | refine blk_alloc ?_ _)); refine blk_far ?_ NB274_293.out _; (with_reducible repeat (first | refine blk_drewN ?_ _ | refine blk_drew ?_ | refine blk_alloc ?_ _)); refine blk_far ?_ NB274_293.out _; (with_reducible repeat (first | refine blk_drewN ?_ _ | refine blk_drew ?_ | refine blk_alloc ?_ _)); refine blk_far ?_ NB274_293.out _; (with_reducible repeat (first | refine blk_drewN ?_ _ | refine blk_drew ?_ | refine blk_alloc ?_ _)); refine blk_far ?_ NB274_293.out _; (with_reducible repeat (first | refine blk_drewN ?_ _ | refine blk_drew ?_ | refine blk_alloc ?_ _)); refine blk_far ?_ NB274_293.out _; (with_reducible repeat (first | refine blk_drewN ?_ _ | refine blk_drew ?_ | refine blk_alloc ?_ _)); refine blk_far ?_ NB274_293.out _; (with_reducible repeat (first | refine blk_drewN ?_ _ | refine blk_drew ?_ | refine blk_alloc ?_ _)); refine blk_far ?_ NB274_293.out _; (with_reducible repeat (first | refine blk_drewN ?_ _ | refine blk_drew ?_ | refine blk_alloc ?_ _)); exact BK274.out) hb); have n8_ := Aside0.mk (blk_below (g := gb293) (o := .cells #[.int .i64 t280, .bool t281, .bool t282, .int .i64 t283, .string t284, .int .i64 t285, .slice Ao51 t286.length co51, .slice Ao52 t289.length co52] 24 (0, 0)) (by (with_reducible repeat (first | refine blk_drewN ?_ _ | refine blk_drew ?_ | refine blk_alloc ?_ _)); refine blk_put (cs := #[.int .i64 t280, .bool t281, .bool t282, .int .i64 t283, .string t284, .int .i64 t285, .slice Ao51 t286.length co51, .slice none 0 0]) ?_ 7 _ rfl; (with_reducible repeat (first | refine blk_drewN ?_ _ | refine blk_drew ?_ | refine blk_alloc ?_ _)); refine blk_put (cs := #[.int .i64 t280, .bool t281, .bool t282, .int .i64 t283, .string t284, .int .i64 t285, .slice none 0 0, .slice none 0 0]) ?_ 6 _ rfl; (with_reducible repeat (first | refine blk_drewN ?_ _ | refine blk_drew ?_ | refine blk_alloc ?_ _)); refine blk_put (cs := #[.int .i64 t280, .bool t281, .bool t282, .int .i64 t283, .string t284, .int .i64 0, .slice none 0 0, .slice none 0 0]) ?_ 5 _ rfl; (with_reducible repeat (first | refine blk_drewN ?_ _ | refine blk_drew ?_ | refine blk_alloc ?_ _)); refine blk_put (cs := #[.int .i64 t280, .bool t281, .bool t282, .int .i64 t283, .string (⟨#[]⟩ : ByteArray), .int .i64 0, .slice none 0 0, .slice none 0 0]) ?_ 4 _ rfl; (with_reducible repeat (first | refine blk_drewN ?_ _ | refine blk_drew ?_ | refine blk_alloc ?_ _)); refine blk_put (cs := #[.int .i64 t280, .bool t281, .bool t282, .int .i64 0, .string (⟨#[]⟩ : ByteArray), .int .i64 0, .slice none 0 0, .slice none 0 0]) ?_ 3 _ rfl; (with_reducible repeat (first | refine blk_drewN ?_ _ | refine blk_drew ?_ | refine blk_alloc ?_ _)); refine blk_put (cs := #[.int .i64 t280, .bool t281, .bool false, .int .i64 0, .string (⟨#[]⟩ : ByteArray), .int .i64 0, .slice none 0 0, .slice none 0 0]) ?_ 2 _ rfl; (with_reducible repeat (first | refine blk_drewN ?_ _ | refine blk_drew ?_ | refine blk_alloc ?_ _)); refine blk_put (cs := #[.int .i64 t280, .bool false, .bool false, .int .i64 0, .string (⟨#[]⟩ : ByteArray), .int .i64 0, .slice none 0 0, .slice none 0 0]) ?_ 1 _ rfl; (with_reducible repeat (first | refine blk_drewN ?_ _ | refine blk_drew ?_ | refine blk_alloc ?_ _)); refine blk_put (cs := #[.int .i64 0, .bool false, .bool false, .int .i64 0, .string (⟨#[]⟩ : ByteArray), .int .i64 0, .slice none 0 0, .slice none 0 0]) ?_ 0 _ rfl; (with_reducible repeat (first | refine blk_drewN ?_ _ | refine blk_drew ?_ | refine blk_alloc ?_ _)); exact BK293.out) hb); have n9_ := Aside0.mk (below_step bq1_ hb); clear HO_261006; clear HO_261007; clear HO_275006; clear HO_275007; clear HO288; clear HO291; clear BK260; clear BK274; clear BK293; clear HB; have HO_261006 := n0_; have HO_261007 := n1_; have HO_275006 := n2_; have HO_275007 := n3_; have HO288 := n4_; have HO291 := n5_; have BK260 := n6_; have BK274 := n7_; have BK293 := n8_; have HB := n9_; clear n0_ n1_ n2_ n3_ n4_ n5_ n6_ n7_ n8_ n9_; (try clear hb); (try clear hb2); (try clear hk); (try clear hi)))
                  go_meet
                  case rel => exact ⟨_, (true), (by first | rfl | (simp; done) | (simp [*]; done)), H', ⟨by have := HJ6.out; first | omega | exact Nat.le_refl _⟩, ⟨by (with_reducible repeat (first | apply Kd.R_alloc | apply Kd.R_drewN | apply Kd.R_drew)); exact Kd.R_mono HO_261006.out (fun _ hk => ⟨hk.1.1.1, ⟨hk.1.1.2.1, ⟨hk.1.1.2.2, ⟨hk.1.2, hk.2⟩⟩⟩⟩)⟩, ⟨by (with_reducible repeat (first | apply Kd.R_alloc | apply Kd.R_drewN | apply Kd.R_drew)); exact Kd.R_mono HO_261007.out (fun _ hk => ⟨hk.1.1.1, ⟨hk.1.1.2.1, ⟨hk.1.1.2.2, ⟨hk.1.2, hk.2⟩⟩⟩⟩)⟩, ⟨by (with_reducible repeat (first | apply Kd.R_alloc | apply Kd.R_drewN | apply Kd.R_drew)); exact Kd.R_mono HO_275006.out (fun _ hk => ⟨hk.1.1.1, ⟨hk.1.1.2.1, ⟨hk.1.1.2.2, ⟨hk.1.2, hk.2⟩⟩⟩⟩)⟩, ⟨by (with_reducible repeat (first | apply Kd.R_alloc | apply Kd.R_drewN | apply Kd.R_drew)); exact Kd.R_mono HO_275007.out (fun _ hk => ⟨hk.1.1.1, ⟨hk.1.1.2.1, ⟨hk.1.1.2.2, ⟨hk.1.2, hk.2⟩⟩⟩⟩)⟩, ⟨by (with_reducible repeat (first | apply Kd.R_alloc | apply Kd.R_drewN | apply Kd.R_drew)); exact Kd.R_mono HO288.out (fun _ hk => ⟨hk.1.1.1.2, ⟨hk.1.1.2, ⟨hk.1.2, ⟨hk.2, hk.1.1.1.1⟩⟩⟩⟩)⟩, ⟨by (with_reducible repeat (first | apply Kd.R_alloc | apply Kd.R_drewN | apply Kd.R_drew)); exact Kd.R_mono HO291.out (fun _ hk => ⟨hk.1.1.1.2, ⟨hk.1.1.2, ⟨hk.1.2, ⟨hk.2, hk.1.1.1.1⟩⟩⟩⟩)⟩, ⟨by (with_reducible repeat (first | refine blk_drewN ?_ _ | refine blk_drew ?_ | refine blk_alloc ?_ _)); exact BK260.out⟩, ⟨by (with_reducible repeat (first | refine blk_drewN ?_ _ | refine blk_drew ?_ | refine blk_alloc ?_ _)); exact BK274.out⟩, ⟨by (with_reducible repeat (first | refine blk_drewN ?_ _ | refine blk_drew ?_ | refine blk_alloc ?_ _)); exact BK293.out⟩, ⟨by repeat (first | (with_reducible first | exact HB.out | apply below_alloc | apply pw_below_drewN | apply below_drew1 | refine below_set ?_ GE260.out | refine below_set ?_ GE274.out | refine below_set ?_ GE293.out) | exact HB.out)⟩⟩
              case rest =>
                clear HC40
                try clear c1
                try clear c2
                try clear p2
                try clear c3
                try clear c4
                try clear c4b0
                try clear c4b1
                try clear c5
                try clear c6
                try clear c12
                try clear c13
                try clear c14
                try clear c15
                try clear c16
                try clear c20
                try clear c21
                try clear c25
                try clear c29
                try clear c32
                try clear c32b0
                try clear c33
                try clear c38
                try clear c38b0
                try clear c38b1
                try clear c41
                try clear c48
                try clear c49
                try clear c54
                try clear c55
                try clear c56
                try clear c58
                try clear c61
                try clear c62
                try clear c64
                try clear hcz10_0
                try clear hcz10_1
                try clear hcz10_2
                try clear hcz10_3
                try clear hcz10_4
                try clear hcz10_5
                try clear hcz10_6
                try clear hcz10_7
                try clear hcz16_0
                try clear hcz16_1
                try clear hcz16_2
                try clear hcz16_3
                try clear hcz16_4
                try clear hcz16_5
                try clear hcz16_6
                try clear hcz16_7
                try clear hcz22_0
                try clear hcz22_1
                try clear hcz22_2
                try clear hcz22_3
                try clear hcz22_4
                try clear hcz22_5
                try clear hcz22_6
                try clear hcz22_7
                try clear hcz23_0
                try clear hcz23_1
                try clear hcz23_2
                try clear hcz23_3
                try clear hcz23_4
                try clear hcz23_5
                try clear hcz23_6
                try clear hcz23_7
                try clear hcz26_0
                try clear hcz26_1
                try clear hcz26_2
                try clear hcz26_3
                try clear hcz26_4
                try clear hcz26_5
                try clear hcz26_6
                try clear hcz26_7
                try clear hcz27_0
                try clear hcz27_1
                try clear hcz27_2
                try clear hcz27_3
                try clear hcz27_4
                try clear hcz27_5
                try clear hcz27_6
                try clear hcz27_7
                try clear hcz34_0
                try clear hcz34_1
                try clear hcz34_2
                try clear hcz34_3
                try clear hcz34_4
                try clear hcz34_5
                try clear hcz34_6
                try clear hcz34_7
                try clear hcz36_0
                try clear hcz36_1
                try clear hcz36_2
                try clear hcz36_3
                try clear hcz36_4
                try clear hcz36_5
                try clear hcz36_6
                try clear hcz36_7
                try clear hcz42_0
                try clear hcz42_1
                try clear hcz42_2
                try clear hcz42_3
                try clear hcz42_4
                try clear hcz42_5
                try clear hcz42_6
                try clear hcz42_7
                try clear hcz44_0
                try clear hcz44_1
                try clear hcz44_2
                try clear hcz44_3
                try clear hcz44_4
                try clear hcz44_5
                try clear hcz44_6
                try clear hcz44_7
                try clear hcz50_0
                try clear hcz50_1
                try clear hcz50_2
                try clear hcz50_3
                try clear hcz50_4
                try clear hcz50_5
                try clear hcz50_6
                try clear hcz50_7
                try clear hcz57_0
                try clear hcz57_1
                try clear hcz57_2
                try clear hcz57_3
                try clear hcz57_4
                try clear hcz57_5
                try clear hcz57_6
                try clear hcz57_7
                try clear hcz59_0
                try clear hcz59_1
                try clear hcz59_2
                try clear hcz59_3
                try clear hcz59_4
                try clear hcz59_5
                try clear hcz59_6
                try clear hcz59_7
                try clear hcz63_0
                try clear hcz63_1
                try clear hcz63_2
                try clear hcz63_3
                try clear hcz63_4
                try clear hcz63_5
                try clear hcz63_6
                try clear hcz63_7
                try clear hcz65_0
                try clear hcz65_1
                try clear hcz65_2
                try clear hcz65_3
                try clear hcz65_4
                try clear hcz65_5
                try clear hcz65_6
                try clear hcz65_7
                try clear hfz10_0
                try clear hfz10_1
                try clear hfz10_2
                try clear hfz10_3
                try clear hfz10_4
                try clear hfz10_5
                try clear hfz10_6
                try clear hfz10_7
                try clear hfz16_0
                try clear hfz16_1
                try clear hfz16_2
                try clear hfz16_3
                try clear hfz16_4
                try clear hfz16_5
                try clear hfz16_6
                try clear hfz16_7
                try clear hfz22_0
                try clear hfz22_1
                try clear hfz22_2
                try clear hfz22_3
                try clear hfz22_4
                try clear hfz22_5
                try clear hfz22_6
                try clear hfz22_7
                try clear hfz23_0
                try clear hfz23_1
                try clear hfz23_2
                try clear hfz23_3
                try clear hfz23_4
                try clear hfz23_5
                try clear hfz23_6
                try clear hfz23_7
                try clear hfz26_0
                try clear hfz26_1
                try clear hfz26_2
                try clear hfz26_3
                try clear hfz26_4
                try clear hfz26_5
                try clear hfz26_6
                try clear hfz26_7
                try clear hfz27_0
                try clear hfz27_1
                try clear hfz27_2
                try clear hfz27_3
                try clear hfz27_4
                try clear hfz27_5
                try clear hfz27_6
                try clear hfz27_7
                try clear hfz34_0
                try clear hfz34_1
                try clear hfz34_2
                try clear hfz34_3
                try clear hfz34_4
                try clear hfz34_5
                try clear hfz34_6
                try clear hfz34_7
                try clear hfz36_0
                try clear hfz36_1
                try clear hfz36_2
                try clear hfz36_3
                try clear hfz36_4
                try clear hfz36_5
                try clear hfz36_6
                try clear hfz36_7
                try clear hfz42_0
                try clear hfz42_1
                try clear hfz42_2
                try clear hfz42_3
                try clear hfz42_4
                try clear hfz42_5
                try clear hfz42_6
                try clear hfz42_7
                try clear hfz44_0
                try clear hfz44_1
                try clear hfz44_2
                try clear hfz44_3
                try clear hfz44_4
                try clear hfz44_5
                try clear hfz44_6
                try clear hfz44_7
                try clear hfz50_0
                try clear hfz50_1
                try clear hfz50_2
                try clear hfz50_3
                try clear hfz50_4
                try clear hfz50_5
                try clear hfz50_6
                try clear hfz50_7
                try clear hfz57_0
                try clear hfz57_1
                try clear hfz57_2
                try clear hfz57_3
                try clear hfz57_4
                try clear hfz57_5
                try clear hfz57_6
                try clear hfz57_7
                try clear hfz59_0
                try clear hfz59_1
                try clear hfz59_2
                try clear hfz59_3
                try clear hfz59_4
                try clear hfz59_5
                try clear hfz59_6
                try clear hfz59_7
                try clear hfz63_0
                try clear hfz63_1
                try clear hfz63_2
                try clear hfz63_3
                try clear hfz63_4
                try clear hfz63_5
                try clear hfz63_6
                try clear hfz63_7
                try clear hfz65_0
                try clear hfz65_1
                try clear hfz65_2
                try clear hfz65_3
                try clear hfz65_4
                try clear hfz65_5
                try clear hfz65_6
                try clear hfz65_7
                try clear p2
                obtain ⟨kq, x67_39, rfl, HA, HJ39, HO_261006, HO_261007, HO_275006, HO_275007, HO_294006, HO_294007, BK260, BK274, BK293, HB⟩ := hcut
                have hl275006_39 := (Kd.R_reads' HO_275006.out).1
                rw [hl275006_39] at HO_275006
                (try simp only [hl275006_39])
                (try simp only [hl275006_39] at BK260)
                (try simp only [hl275006_39] at BK274)
                (try simp only [hl275006_39] at BK293)
                (try simp only [hl275006_39] at HO_261006)
                (try simp only [hl275006_39] at HO_261007)
                (try simp only [hl275006_39] at HO_275007)
                (try simp only [hl275006_39] at HO_294006)
                (try simp only [hl275006_39] at HO_294007)
                have hl275007_39 := (Kd.R_reads' HO_275007.out).1
                rw [hl275007_39] at HO_275007
                (try simp only [hl275007_39])
                (try simp only [hl275007_39] at BK260)
                (try simp only [hl275007_39] at BK274)
                (try simp only [hl275007_39] at BK293)
                (try simp only [hl275007_39] at HO_261006)
                (try simp only [hl275007_39] at HO_261007)
                (try simp only [hl275007_39] at HO_275006)
                (try simp only [hl275007_39] at HO_294006)
                (try simp only [hl275007_39] at HO_294007)
                cases kq with
                | zero => exact absurd HA.out (by simp [laws_FnExactQuestionFor.j1])
                | succ kj39 =>
                  have H := HA.out
                  clear HA
                  simp only [laws_FnExactQuestionFor.j1] at H
                  by_cases c67 : x67_39 = true
                  · subst c67
                    have H1 : (some false) = some r := by rw [if_pos rfl] at H; exact H
                    clear H
                    have H := H1
                    clear H1
                    obtain rfl := Option.some.inj H
                    go_wp2
                    go_ret
                    exact ⟨by first | rfl | (simp [errW_none, errW_some] <;> rfl) | (simp [*, errW_none, errW_some] <;> rfl), by repeat (first | (with_reducible first | exact HB.out | apply below_alloc | apply pw_below_drewN | apply below_drew1 | refine below_set ?_ GE260.out | refine below_set ?_ GE274.out | refine below_set ?_ GE293.out) | exact HB.out)⟩
                  · replace c67 := Bool.eq_false_iff.mpr c67
                    subst c67
                    have H1 : ((laws_heldMessage.f kj39 t261 t262 t263 t264 t265 t266 t277 t278 1).bind fun t295 => (if t295 < 0 then (some false) else (if t295 = t276 then (some true) else (some false)))) = some r := by rw [if_neg (show ¬ (false = true) by decide)] at H; exact H
                    clear H
                    have H := H1
                    clear H1
                    replace H := Option.bind_eq_some_iff.mp H
                    obtain ⟨t295, A680, H⟩ := H
                    replace H : (if t295 < 0 then (some false) else (if t295 = t276 then (some true) else (some false))) = some r := H
                    have A68 := Aside0.mk A680
                    clear A680
                    by_cases c69 : t295 < 0
                    · rw [if_pos c69] at H
                      have c69b0 : decide (t295 < 0) = true := decide_eq_true c69
                      clear c69
                      obtain rfl := Option.some.inj H
                      have hnb70 := NB274_260.out
                      have hnc70 := NB260_274.out
                      have hnb71 := NB274_293.out
                      have hnc71 := NB293_274.out
                      have hcz72_0 : wc.cell? ⟨gb274, 0, none⟩ = some (.int .i64 t261) := (blk_cell BK274.out 0).trans rfl
                      have hcz72_1 : wc.cell? ⟨gb274, 1, none⟩ = some (.bool t262) := (blk_cell BK274.out 1).trans rfl
                      have hcz72_2 : wc.cell? ⟨gb274, 2, none⟩ = some (.bool t263) := (blk_cell BK274.out 2).trans rfl
                      have hcz72_3 : wc.cell? ⟨gb274, 3, none⟩ = some (.int .i64 t264) := (blk_cell BK274.out 3).trans rfl
                      have hcz72_4 : wc.cell? ⟨gb274, 4, none⟩ = some (.string t265) := (blk_cell BK274.out 4).trans rfl
                      have hcz72_5 : wc.cell? ⟨gb274, 5, none⟩ = some (.int .i64 t266) := (blk_cell BK274.out 5).trans rfl
                      have hcz72_6 : wc.cell? ⟨gb274, 6, none⟩ = some (.slice Ao17 t277.length co17) := (blk_cell BK274.out 6).trans rfl
                      have hcz72_7 : wc.cell? ⟨gb274, 7, none⟩ = some (.slice Ao18 t278.length co18) := (blk_cell BK274.out 7).trans rfl
                      have hfz72_0 := blk_frozen BK274.out 0
                      have hfz72_1 := blk_frozen BK274.out 1
                      have hfz72_2 := blk_frozen BK274.out 2
                      have hfz72_3 := blk_frozen BK274.out 3
                      have hfz72_4 := blk_frozen BK274.out 4
                      have hfz72_5 := blk_frozen BK274.out 5
                      have hfz72_6 := blk_frozen BK274.out 6
                      have hfz72_7 := blk_frozen BK274.out 7
                      go_wp2_with (first | ((with_reducible refine gate_callee (f := 16) rfl ?_); refine goesL_ (some 70) rfl rfl Tryz.func16 (by kernel_rfl) rfl #[.agg #[.int .i64 t261, .bool t262, .bool t263, .int .i64 t264, .string t265, .int .i64 t266, .slice Ao17 t277.length co17, .slice Ao18 t278.length co18], .int .i64 1] rfl (by (try simp only [List.map_toArray, List.map_cons, List.map_nil]); first | done | rfl | (simp only [List.length_drop, List.length_take]; rfl)) ?_; (with_reducible refine (laws_heldMessage.calls kj39 t261 t262 t263 t264 t265 t266 _ _ t277 _ _ t278 1 t295 _ ?side1 ?side2 ?side3 ?side4 A68.out).mono ?_); (case side1 => repeat (first | exact (Kd.R_reads' HO_275006.out).2.2 | (with_reducible refine Kd.C_alloc ?_ _) | (with_reducible refine Kd.C_drewN ?_ _) | (with_reducible refine Kd.C_drew ?_))); (case side2 => exact (Kd.R_reads' HO_275006.out).2.1); (case side3 => repeat (first | exact (Kd.R_reads' HO_275007.out).2.2 | (with_reducible refine Kd.C_alloc ?_ _) | (with_reducible refine Kd.C_drewN ?_ _) | (with_reducible refine Kd.C_drew ?_))); (case side4 => exact (Kd.R_reads' HO_275007.out).2.1); rintro e w73 ⟨rfl, hb⟩; refine ⟨_, rfl, ?_⟩; have n0_ := Aside0.mk (Kd.R_below (by (with_reducible repeat (first | apply Kd.R_alloc | apply Kd.R_drewN | apply Kd.R_drew)); exact HO_261006.out) hb); have n1_ := Aside0.mk (Kd.R_below (by (with_reducible repeat (first | apply Kd.R_alloc | apply Kd.R_drewN | apply Kd.R_drew)); exact HO_261007.out) hb); have n2_ := Aside0.mk (Kd.R_below (by (with_reducible repeat (first | apply Kd.R_alloc | apply Kd.R_drewN | apply Kd.R_drew)); exact HO_275006.out) hb); have n3_ := Aside0.mk (Kd.R_below (by (with_reducible repeat (first | apply Kd.R_alloc | apply Kd.R_drewN | apply Kd.R_drew)); exact HO_275007.out) hb); have n4_ := Aside0.mk (Kd.R_below (by (with_reducible repeat (first | apply Kd.R_alloc | apply Kd.R_drewN | apply Kd.R_drew)); exact HO_294006.out) hb); have n5_ := Aside0.mk (Kd.R_below (by (with_reducible repeat (first | apply Kd.R_alloc | apply Kd.R_drewN | apply Kd.R_drew)); exact HO_294007.out) hb); have n6_ := Aside0.mk (bkB_ BK260 hb); have n7_ := Aside0.mk (bkB_ BK274 hb); have n8_ := Aside0.mk (bkB_ BK293 hb); have n9_ := Aside0.mk (below_step bq1_ hb); clear HO_261006; clear HO_261007; clear HO_275006; clear HO_275007; clear HO_294006; clear HO_294007; clear BK260; clear BK274; clear BK293; clear HB; have HO_261006 := n0_; have HO_261007 := n1_; have HO_275006 := n2_; have HO_275007 := n3_; have HO_294006 := n4_; have HO_294007 := n5_; have BK260 := n6_; have BK274 := n7_; have BK293 := n8_; have HB := n9_; clear n0_ n1_ n2_ n3_ n4_ n5_ n6_ n7_ n8_ n9_; (try clear hb); (try clear hb2); (try clear hk); (try clear hi)))
                      go_ret
                      exact ⟨by first | rfl | (simp [errW_none, errW_some] <;> rfl) | (simp [*, errW_none, errW_some] <;> rfl), by repeat (first | (with_reducible first | exact HB.out | apply below_alloc | apply pw_below_drewN | apply below_drew1 | refine below_set ?_ GE260.out | refine below_set ?_ GE274.out | refine below_set ?_ GE293.out) | exact HB.out)⟩
                    · rw [if_neg c69] at H
                      have c69b0 : decide (t295 < 0) = false := decide_eq_false c69
                      clear c69
                      by_cases c74 : t295 = t276
                      · rw [if_pos c74] at H
                        have c74b0 : (t295 == t276) = true := beq_iff_eq.mpr c74
                        have c74b1 : (t295 != t276) = false := bne_eq_false_iff_eq.mpr c74
                        clear c74
                        obtain rfl := Option.some.inj H
                        have hnb75 := NB274_260.out
                        have hnc75 := NB260_274.out
                        have hnb76 := NB274_293.out
                        have hnc76 := NB293_274.out
                        have hcz77_0 : wc.cell? ⟨gb274, 0, none⟩ = some (.int .i64 t261) := (blk_cell BK274.out 0).trans rfl
                        have hcz77_1 : wc.cell? ⟨gb274, 1, none⟩ = some (.bool t262) := (blk_cell BK274.out 1).trans rfl
                        have hcz77_2 : wc.cell? ⟨gb274, 2, none⟩ = some (.bool t263) := (blk_cell BK274.out 2).trans rfl
                        have hcz77_3 : wc.cell? ⟨gb274, 3, none⟩ = some (.int .i64 t264) := (blk_cell BK274.out 3).trans rfl
                        have hcz77_4 : wc.cell? ⟨gb274, 4, none⟩ = some (.string t265) := (blk_cell BK274.out 4).trans rfl
                        have hcz77_5 : wc.cell? ⟨gb274, 5, none⟩ = some (.int .i64 t266) := (blk_cell BK274.out 5).trans rfl
                        have hcz77_6 : wc.cell? ⟨gb274, 6, none⟩ = some (.slice Ao17 t277.length co17) := (blk_cell BK274.out 6).trans rfl
                        have hcz77_7 : wc.cell? ⟨gb274, 7, none⟩ = some (.slice Ao18 t278.length co18) := (blk_cell BK274.out 7).trans rfl
                        have hfz77_0 := blk_frozen BK274.out 0
                        have hfz77_1 := blk_frozen BK274.out 1
                        have hfz77_2 := blk_frozen BK274.out 2
                        have hfz77_3 := blk_frozen BK274.out 3
                        have hfz77_4 := blk_frozen BK274.out 4
                        have hfz77_5 := blk_frozen BK274.out 5
                        have hfz77_6 := blk_frozen BK274.out 6
                        have hfz77_7 := blk_frozen BK274.out 7
                        go_wp2_with (first | ((with_reducible refine gate_callee (f := 16) rfl ?_); refine goesL_ (some 70) rfl rfl Tryz.func16 (by kernel_rfl) rfl #[.agg #[.int .i64 t261, .bool t262, .bool t263, .int .i64 t264, .string t265, .int .i64 t266, .slice Ao17 t277.length co17, .slice Ao18 t278.length co18], .int .i64 1] rfl (by (try simp only [List.map_toArray, List.map_cons, List.map_nil]); first | done | rfl | (simp only [List.length_drop, List.length_take]; rfl)) ?_; (with_reducible refine (laws_heldMessage.calls kj39 t261 t262 t263 t264 t265 t266 _ _ t277 _ _ t278 1 t295 _ ?side1 ?side2 ?side3 ?side4 A68.out).mono ?_); (case side1 => repeat (first | exact (Kd.R_reads' HO_275006.out).2.2 | (with_reducible refine Kd.C_alloc ?_ _) | (with_reducible refine Kd.C_drewN ?_ _) | (with_reducible refine Kd.C_drew ?_))); (case side2 => exact (Kd.R_reads' HO_275006.out).2.1); (case side3 => repeat (first | exact (Kd.R_reads' HO_275007.out).2.2 | (with_reducible refine Kd.C_alloc ?_ _) | (with_reducible refine Kd.C_drewN ?_ _) | (with_reducible refine Kd.C_drew ?_))); (case side4 => exact (Kd.R_reads' HO_275007.out).2.1); rintro e w78 ⟨rfl, hb⟩; refine ⟨_, rfl, ?_⟩; have n0_ := Aside0.mk (Kd.R_below (by (with_reducible repeat (first | apply Kd.R_alloc | apply Kd.R_drewN | apply Kd.R_drew)); exact HO_261006.out) hb); have n1_ := Aside0.mk (Kd.R_below (by (with_reducible repeat (first | apply Kd.R_alloc | apply Kd.R_drewN | apply Kd.R_drew)); exact HO_261007.out) hb); have n2_ := Aside0.mk (Kd.R_below (by (with_reducible repeat (first | apply Kd.R_alloc | apply Kd.R_drewN | apply Kd.R_drew)); exact HO_275006.out) hb); have n3_ := Aside0.mk (Kd.R_below (by (with_reducible repeat (first | apply Kd.R_alloc | apply Kd.R_drewN | apply Kd.R_drew)); exact HO_275007.out) hb); have n4_ := Aside0.mk (Kd.R_below (by (with_reducible repeat (first | apply Kd.R_alloc | apply Kd.R_drewN | apply Kd.R_drew)); exact HO_294006.out) hb); have n5_ := Aside0.mk (Kd.R_below (by (with_reducible repeat (first | apply Kd.R_alloc | apply Kd.R_drewN | apply Kd.R_drew)); exact HO_294007.out) hb); have n6_ := Aside0.mk (bkB_ BK260 hb); have n7_ := Aside0.mk (bkB_ BK274 hb); have n8_ := Aside0.mk (bkB_ BK293 hb); have n9_ := Aside0.mk (below_step bq1_ hb); clear HO_261006; clear HO_261007; clear HO_275006; clear HO_275007; clear HO_294006; clear HO_294007; clear BK260; clear BK274; clear BK293; clear HB; have HO_261006 := n0_; have HO_261007 := n1_; have HO_275006 := n2_; have HO_275007 := n3_; have HO_294006 := n4_; have HO_294007 := n5_; have BK260 := n6_; have BK274 := n7_; have BK293 := n8_; have HB := n9_; clear n0_ n1_ n2_ n3_ n4_ n5_ n6_ n7_ n8_ n9_; (try clear hb); (try clear hb2); (try clear hk); (try clear hi)))
                        go_ret
                        exact ⟨by first | rfl | (simp [errW_none, errW_some] <;> rfl) | (simp [*, errW_none, errW_some] <;> rfl), by repeat (first | (with_reducible first | exact HB.out | apply below_alloc | apply pw_below_drewN | apply below_drew1 | refine below_set ?_ GE260.out | refine below_set ?_ GE274.out | refine below_set ?_ GE293.out) | exact HB.out)⟩
                      · rw [if_neg c74] at H
                        have c74b0 : (t295 == t276) = false := beq_eq_false_iff_ne.mpr c74
                        have c74b1 : (t295 != t276) = true := bne_iff_ne.mpr c74
                        obtain rfl := Option.some.inj H
                        have hnb79 := NB274_260.out
                        have hnc79 := NB260_274.out
                        have hnb80 := NB274_293.out
                        have hnc80 := NB293_274.out
                        have hcz81_0 : wc.cell? ⟨gb274, 0, none⟩ = some (.int .i64 t261) := (blk_cell BK274.out 0).trans rfl
                        have hcz81_1 : wc.cell? ⟨gb274, 1, none⟩ = some (.bool t262) := (blk_cell BK274.out 1).trans rfl
                        have hcz81_2 : wc.cell? ⟨gb274, 2, none⟩ = some (.bool t263) := (blk_cell BK274.out 2).trans rfl
                        have hcz81_3 : wc.cell? ⟨gb274, 3, none⟩ = some (.int .i64 t264) := (blk_cell BK274.out 3).trans rfl
                        have hcz81_4 : wc.cell? ⟨gb274, 4, none⟩ = some (.string t265) := (blk_cell BK274.out 4).trans rfl
                        have hcz81_5 : wc.cell? ⟨gb274, 5, none⟩ = some (.int .i64 t266) := (blk_cell BK274.out 5).trans rfl
                        have hcz81_6 : wc.cell? ⟨gb274, 6, none⟩ = some (.slice Ao17 t277.length co17) := (blk_cell BK274.out 6).trans rfl
                        have hcz81_7 : wc.cell? ⟨gb274, 7, none⟩ = some (.slice Ao18 t278.length co18) := (blk_cell BK274.out 7).trans rfl
                        have hfz81_0 := blk_frozen BK274.out 0
                        have hfz81_1 := blk_frozen BK274.out 1
                        have hfz81_2 := blk_frozen BK274.out 2
                        have hfz81_3 := blk_frozen BK274.out 3
                        have hfz81_4 := blk_frozen BK274.out 4
                        have hfz81_5 := blk_frozen BK274.out 5
                        have hfz81_6 := blk_frozen BK274.out 6
                        have hfz81_7 := blk_frozen BK274.out 7
                        go_wp2_with (first | ((with_reducible refine gate_callee (f := 16) rfl ?_); refine goesL_ (some 70) rfl rfl Tryz.func16 (by kernel_rfl) rfl #[.agg #[.int .i64 t261, .bool t262, .bool t263, .int .i64 t264, .string t265, .int .i64 t266, .slice Ao17 t277.length co17, .slice Ao18 t278.length co18], .int .i64 1] rfl (by (try simp only [List.map_toArray, List.map_cons, List.map_nil]); first | done | rfl | (simp only [List.length_drop, List.length_take]; rfl)) ?_; (with_reducible refine (laws_heldMessage.calls kj39 t261 t262 t263 t264 t265 t266 _ _ t277 _ _ t278 1 t295 _ ?side1 ?side2 ?side3 ?side4 A68.out).mono ?_); (case side1 => repeat (first | exact (Kd.R_reads' HO_275006.out).2.2 | (with_reducible refine Kd.C_alloc ?_ _) | (with_reducible refine Kd.C_drewN ?_ _) | (with_reducible refine Kd.C_drew ?_))); (case side2 => exact (Kd.R_reads' HO_275006.out).2.1); (case side3 => repeat (first | exact (Kd.R_reads' HO_275007.out).2.2 | (with_reducible refine Kd.C_alloc ?_ _) | (with_reducible refine Kd.C_drewN ?_ _) | (with_reducible refine Kd.C_drew ?_))); (case side4 => exact (Kd.R_reads' HO_275007.out).2.1); rintro e w82 ⟨rfl, hb⟩; refine ⟨_, rfl, ?_⟩; have n0_ := Aside0.mk (Kd.R_below (by (with_reducible repeat (first | apply Kd.R_alloc | apply Kd.R_drewN | apply Kd.R_drew)); exact HO_261006.out) hb); have n1_ := Aside0.mk (Kd.R_below (by (with_reducible repeat (first | apply Kd.R_alloc | apply Kd.R_drewN | apply Kd.R_drew)); exact HO_261007.out) hb); have n2_ := Aside0.mk (Kd.R_below (by (with_reducible repeat (first | apply Kd.R_alloc | apply Kd.R_drewN | apply Kd.R_drew)); exact HO_275006.out) hb); have n3_ := Aside0.mk (Kd.R_below (by (with_reducible repeat (first | apply Kd.R_alloc | apply Kd.R_drewN | apply Kd.R_drew)); exact HO_275007.out) hb); have n4_ := Aside0.mk (Kd.R_below (by (with_reducible repeat (first | apply Kd.R_alloc | apply Kd.R_drewN | apply Kd.R_drew)); exact HO_294006.out) hb); have n5_ := Aside0.mk (Kd.R_below (by (with_reducible repeat (first | apply Kd.R_alloc | apply Kd.R_drewN | apply Kd.R_drew)); exact HO_294007.out) hb); have n6_ := Aside0.mk (bkB_ BK260 hb); have n7_ := Aside0.mk (bkB_ BK274 hb); have n8_ := Aside0.mk (bkB_ BK293 hb); have n9_ := Aside0.mk (below_step bq1_ hb); clear HO_261006; clear HO_261007; clear HO_275006; clear HO_275007; clear HO_294006; clear HO_294007; clear BK260; clear BK274; clear BK293; clear HB; have HO_261006 := n0_; have HO_261007 := n1_; have HO_275006 := n2_; have HO_275007 := n3_; have HO_294006 := n4_; have HO_294007 := n5_; have BK260 := n6_; have BK274 := n7_; have BK293 := n8_; have HB := n9_; clear n0_ n1_ n2_ n3_ n4_ n5_ n6_ n7_ n8_ n9_; (try clear hb); (try clear hb2); (try clear hk); (try clear hi)))
                        go_ret
                        exact ⟨by first | rfl | (simp [errW_none, errW_some] <;> rfl) | (simp [*, errW_none, errW_some] <;> rfl), by repeat (first | (with_reducible first | exact HB.out | apply below_alloc | apply pw_below_drewN | apply below_drew1 | refine below_set ?_ GE260.out | refine below_set ?_ GE274.out | refine below_set ?_ GE293.out) | exact HB.out)⟩
            · rw [if_neg c38] at H
              have c38b0 : (t279 == t276) = false := beq_eq_false_iff_ne.mpr c38
              have c38b1 : (t279 != t276) = true := bne_iff_ne.mpr c38
              obtain rfl := Option.some.inj H
              have hnb83 := NB274_260.out
              have hnc83 := NB260_274.out
              have hcz84_0 : wc.cell? ⟨gb274, 0, none⟩ = some (.int .i64 t261) := (blk_cell BK274.out 0).trans rfl
              have hcz84_1 : wc.cell? ⟨gb274, 1, none⟩ = some (.bool t262) := (blk_cell BK274.out 1).trans rfl
              have hcz84_2 : wc.cell? ⟨gb274, 2, none⟩ = some (.bool t263) := (blk_cell BK274.out 2).trans rfl
              have hcz84_3 : wc.cell? ⟨gb274, 3, none⟩ = some (.int .i64 t264) := (blk_cell BK274.out 3).trans rfl
              have hcz84_4 : wc.cell? ⟨gb274, 4, none⟩ = some (.string t265) := (blk_cell BK274.out 4).trans rfl
              have hcz84_5 : wc.cell? ⟨gb274, 5, none⟩ = some (.int .i64 t266) := (blk_cell BK274.out 5).trans rfl
              have hcz84_6 : wc.cell? ⟨gb274, 6, none⟩ = some (.slice Ao17 t267.length co17) := (blk_cell BK274.out 6).trans rfl
              have hcz84_7 : wc.cell? ⟨gb274, 7, none⟩ = some (.slice Ao18 t270.length co18) := (blk_cell BK274.out 7).trans rfl
              have hfz84_0 := blk_frozen BK274.out 0
              have hfz84_1 := blk_frozen BK274.out 1
              have hfz84_2 := blk_frozen BK274.out 2
              have hfz84_3 := blk_frozen BK274.out 3
              have hfz84_4 := blk_frozen BK274.out 4
              have hfz84_5 := blk_frozen BK274.out 5
              have hfz84_6 := blk_frozen BK274.out 6
              have hfz84_7 := blk_frozen BK274.out 7
              go_wp2_with (first | ((with_reducible refine gate_callee (f := 15) rfl ?_); refine goesL_ (some 43) rfl rfl Tryz.func15 (by kernel_rfl) rfl #[.agg #[.int .i64 t261, .bool t262, .bool t263, .int .i64 t264, .string t265, .int .i64 t266, .slice Ao17 t267.length co17, .slice Ao18 t270.length co18], .int .i64 1] rfl (by (try simp only [List.map_toArray, List.map_cons, List.map_nil]); first | done | rfl | (simp only [List.length_drop, List.length_take]; rfl)) ?_; (with_reducible refine (laws_markMessage.calls kj6 t261 t262 t263 t264 t265 t266 (fun k_ => some k_ = (.slice Ao17 t267.length co17 : Value).ownBlock) (.slice Ao17 t267.length co17) t267 (fun k_ => some k_ = (.slice Ao18 t270.length co18 : Value).ownBlock) (.slice Ao18 t270.length co18) t270 1 t276 t277 t278 w _ ?side1 ?side2 ?side3 ?side4 ?side5 A30.out).mono ?_); (case side1 => repeat (first | (with_reducible first | exact HB.out | apply below_alloc | apply pw_below_drewN | apply below_drew1 | refine below_set ?_ GE260.out | refine below_set ?_ GE274.out) | exact HB.out)); (case side2 => exact Kd.R_tight rfl HO_275006.out); (case side3 => exact fun k_ e_ => (HO_275006.out.1 k_ e_.symm).2.2); (case side4 => exact Kd.R_tight rfl HO_275007.out); (case side5 => exact fun k_ e_ => (HO_275007.out.1 k_ e_.symm).2.2); rintro e w85 ⟨rfl, hy0, hy1, hb, hkp⟩; refine ⟨_, rfl, ?_⟩; have n0_ := Aside0.mk (Kd.R_mono (ok' := fun k_ => some k_ ≠ (.slice Ao12 t256.length co12 : Value).ownBlock ∧ some k_ ≠ (.slice Ao17 t267.length co17 : Value).ownBlock ∧ some k_ ≠ (.slice Ao18 t270.length co18 : Value).ownBlock) (Kd.R_keptB (HO_261006.out) hkp (fun k_ hk_ hs_ => Or.elim hs_ (fun e_ => (hk_.2.1) e_) (fun e_ => (hk_.2.2) e_))) (fun k_ hk_ => ⟨hk_.1.1, hk_.1.2.1, hk_.1.2.2⟩)); have n1_ := Aside0.mk (Kd.R_mono (ok' := fun k_ => some k_ ≠ (.slice Ao11 t253.length co11 : Value).ownBlock ∧ some k_ ≠ (.slice Ao17 t267.length co17 : Value).ownBlock ∧ some k_ ≠ (.slice Ao18 t270.length co18 : Value).ownBlock) (Kd.R_keptB (HO_261007.out) hkp (fun k_ hk_ hs_ => Or.elim hs_ (fun e_ => (hk_.2.1) e_) (fun e_ => (hk_.2.2) e_))) (fun k_ hk_ => ⟨hk_.1.1, hk_.1.2.1, hk_.1.2.2⟩)); have n2_ := Aside0.mk (Kd.R_reok rfl hy0 (fun k_ e_ => HO_275006.out.1 k_ e_)); have n3_ := Aside0.mk (Kd.R_reok rfl hy1 (fun k_ e_ => HO_275007.out.1 k_ e_)); have n4_ := Aside0.mk (blk_kept (by (with_reducible repeat (first | refine blk_drewN ?_ _ | refine blk_drew ?_ | refine blk_alloc ?_ _)); exact BK260.out) hkp (fun hs_ => Or.elim hs_ (fun e_ => (fun e_ => (Kd.R_ne HO_275006.out BK260.out (by decide)) e_) e_) (fun e_ => (fun e_ => (Kd.R_ne HO_275007.out BK260.out (by decide)) e_) e_))); have n5_ := Aside0.mk (blk_kept (by (with_reducible repeat (first | refine blk_drewN ?_ _ | refine blk_drew ?_ | refine blk_alloc ?_ _)); exact BK274.out) hkp (fun hs_ => Or.elim hs_ (fun e_ => (fun e_ => (Kd.R_ne HO_275006.out BK274.out (by decide)) e_) e_) (fun e_ => (fun e_ => (Kd.R_ne HO_275007.out BK274.out (by decide)) e_) e_))); have n6_ := Aside0.mk (hb); clear HO_261006; clear HO_261007; clear HO_275006; clear HO_275007; clear BK260; clear BK274; clear HB; have HO_261006 := n0_; have HO_261007 := n1_; have HO_275006 := n2_; have HO_275007 := n3_; have BK260 := n4_; have BK274 := n5_; have HB := n6_; clear n0_ n1_ n2_ n3_ n4_ n5_ n6_; (try clear hb); (try clear hkp); (try clear hy0); (try clear hy1); obtain ⟨hcz86_0, hcz86_1, hcz86_2, hcz86_3, hcz86_4, hcz86_5, hcz86_6, hcz86_7, hfz86_0, hfz86_1, hfz86_2, hfz86_3, hfz86_4, hfz86_5, hfz86_6, hfz86_7⟩ := bk8_ BK274.out) | ((with_reducible refine gate_callee (f := 16) rfl ?_); refine goesL_ (some 46) rfl rfl Tryz.func16 (by kernel_rfl) rfl #[.agg #[.int .i64 t261, .bool t262, .bool t263, .int .i64 t264, .string t265, .int .i64 t266, .slice Ao17 t277.length co17, .slice Ao18 t278.length co18], .int .i64 1] rfl (by (try simp only [List.map_toArray, List.map_cons, List.map_nil]); first | done | (rw [show t277.length = t267.length from (Kd.R_reads' HO_275006.out).1.symm, show t278.length = t270.length from (Kd.R_reads' HO_275007.out).1.symm] <;> rfl) | rfl | (simp only [List.length_drop, List.length_take]; rfl)) ?_; (with_reducible refine (laws_heldMessage.calls kj6 t261 t262 t263 t264 t265 t266 _ _ t277 _ _ t278 1 t279 _ ?side1 ?side2 ?side3 ?side4 A31.out).mono ?_); (case side1 => repeat (first | exact (Kd.R_reads' HO_275006.out).2.2 | (with_reducible refine Kd.C_alloc ?_ _) | (with_reducible refine Kd.C_drewN ?_ _) | (with_reducible refine Kd.C_drew ?_))); (case side2 => rw [show t277.length = t267.length from (Kd.R_reads' HO_275006.out).1.symm]; exact (Kd.R_reads' HO_275006.out).2.1); (case side3 => repeat (first | exact (Kd.R_reads' HO_275007.out).2.2 | (with_reducible refine Kd.C_alloc ?_ _) | (with_reducible refine Kd.C_drewN ?_ _) | (with_reducible refine Kd.C_drew ?_))); (case side4 => rw [show t278.length = t270.length from (Kd.R_reads' HO_275007.out).1.symm]; exact (Kd.R_reads' HO_275007.out).2.1); rintro e w87 ⟨rfl, hb⟩; refine ⟨_, rfl, ?_⟩; have n0_ := Aside0.mk (Kd.R_below (by (with_reducible repeat (first | apply Kd.R_alloc | apply Kd.R_drewN | apply Kd.R_drew)); exact HO_261006.out) hb); have n1_ := Aside0.mk (Kd.R_below (by (with_reducible repeat (first | apply Kd.R_alloc | apply Kd.R_drewN | apply Kd.R_drew)); exact HO_261007.out) hb); have n2_ := Aside0.mk (Kd.R_below (by (with_reducible repeat (first | apply Kd.R_alloc | apply Kd.R_drewN | apply Kd.R_drew)); exact HO_275006.out) hb); have n3_ := Aside0.mk (Kd.R_below (by (with_reducible repeat (first | apply Kd.R_alloc | apply Kd.R_drewN | apply Kd.R_drew)); exact HO_275007.out) hb); have n4_ := Aside0.mk (bkB_ BK260 hb); have n5_ := Aside0.mk (bkB_ BK274 hb); have n6_ := Aside0.mk (below_step bq1_ hb); clear HO_261006; clear HO_261007; clear HO_275006; clear HO_275007; clear BK260; clear BK274; clear HB; have HO_261006 := n0_; have HO_261007 := n1_; have HO_275006 := n2_; have HO_275007 := n3_; have BK260 := n4_; have BK274 := n5_; have HB := n6_; clear n0_ n1_ n2_ n3_ n4_ n5_ n6_; (try clear hb); (try clear hb2); (try clear hk); (try clear hi)))
              go_ret
              exact ⟨by first | rfl | (simp [errW_none, errW_some] <;> rfl) | (simp [*, errW_none, errW_some] <;> rfl), by repeat (first | (with_reducible first | exact HB.out | apply below_alloc | apply pw_below_drewN | apply below_drew1 | refine below_set ?_ GE260.out | refine below_set ?_ GE274.out) | exact HB.out)⟩

/-- THE ONE PURE STATEMENT of laws_FnExactQuestionFor: yours. -/
def laws_FnExactQuestionFor.Pure : Prop := ∀ (a0 : Int) (a1 : ByteArray) (a2 : Int), (Lit.int .i64 a0).wf = true → a1.size ≤ 140737488351232 → (Lit.int .i64 a2).wf = true → ∃ k, laws_FnExactQuestionFor.f k a0 a1 a2 = some true
theorem laws_FnExactQuestionFor.walk (P : laws_FnExactQuestionFor.Pure) (a0 : Int) (a1 : ByteArray) (a2 : Int) (w : World) (w0 : (Lit.int .i64 a0).wf = true) (w1 : a1.size ≤ 140737488351232) (w2 : (Lit.int .i64 a2).wf = true) (hv_ : Vars w) :
    Calls Tryz.prog 3 #[.int .i64 a0, .string a1, .int .i64 a2] w fun e w' => e = .returned (.bool true) ∧ Below w.heap.size w w' := by
  obtain ⟨k, h⟩ := P a0 a1 a2 w0 w1 w2
  refine (laws_FnExactQuestionFor.calls k a0 a1 a2 true w h).mono ?_
  rintro e w' ⟨rfl, hd⟩
  exact ⟨rfl, hd⟩

end Go.Proofs.YtkpkfallgjdkmaaGreatDoor.P
