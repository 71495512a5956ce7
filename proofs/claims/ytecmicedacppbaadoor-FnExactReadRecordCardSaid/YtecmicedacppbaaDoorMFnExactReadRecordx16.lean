/- FnExactReadRecord: part 17 of 25 of my texts for this claim, joined; the theorem stands in the last. Conditions: none beyond the statement's. -/
import Derived.Test.YtecmicedacppbaaDoorMFnExactReadRecordx3
import Derived.Test.YtecmicedacppbaaDoorMFnExactReadRecordx15
import Derived.Test.YtecmicedacppbaaDoorMFnExactReadRecordx11
import Derived.Test.YtecmicedacppbaaDoorMFnExactReadRecordx12
-- F37
-- By my own call of the kit's print (wip/tools/pp.py).
namespace Go.Proofs.YtecmicedacppbaaDoor.P
open Go.RowKit Go.Proofs.YtecmicedacppbaaDoorW.PrintWords Go.Proofs.YtecmicedacppbaaDoorW.PrintLast Go.Proofs.YtecmicedacppbaaDoorW.PrintMore
attribute [local go_sem] max2_int min2_int max_two min_two max_three min_three max_four min_four
set_option linter.unusedVariables false
set_option linter.unusedSimpArgs false

/-! ### impl_recordText: function 37 -/
def impl_recordText.f (a0_0 : ByteArray) (a0_1 : Int) (a0_2 : Int) (a0_3 : ByteArray) : Option (ByteArray) := (impl_told.f a0_0).bind fun t298 => (if t298.size + 1 ≤ 9223372036854775807 then ((strconv_Itoa.f a0_2).bind fun t299 => (if (t298 ++ (⟨#[32]⟩ : ByteArray)).size + t299.size ≤ 9223372036854775807 then (if ((t298 ++ (⟨#[32]⟩ : ByteArray)) ++ t299).size + 1 ≤ 9223372036854775807 then ((strconv_Itoa.f a0_1).bind fun t300 => (if (((t298 ++ (⟨#[32]⟩ : ByteArray)) ++ t299) ++ (⟨#[32]⟩ : ByteArray)).size + t300.size ≤ 9223372036854775807 then (if ((((t298 ++ (⟨#[32]⟩ : ByteArray)) ++ t299) ++ (⟨#[32]⟩ : ByteArray)) ++ t300).size + 1 ≤ 9223372036854775807 then (if (((((t298 ++ (⟨#[32]⟩ : ByteArray)) ++ t299) ++ (⟨#[32]⟩ : ByteArray)) ++ t300) ++ (⟨#[32]⟩ : ByteArray)).size + a0_3.size ≤ 9223372036854775807 then (some ((((((t298 ++ (⟨#[32]⟩ : ByteArray)) ++ t299) ++ (⟨#[32]⟩ : ByteArray)) ++ t300) ++ (⟨#[32]⟩ : ByteArray)) ++ a0_3)) else (none)) else (none)) else (none))) else (none)) else (none))) else (none))
def impl_recordText.T1 : Bool × List (List Nat × List Nat) := (true, [([], []), ([0], [0]), ([1], [1]), ([2], [2]), ([], []), ([4], [4]), ([5, 2], [5]), ([3, 6], [3, 6]), ([7], [7]), ([], []), ([9], [9]), ([10, 6], [10]), ([8, 11], [8, 11]), ([12], [12]), ([], []), ([14], [14]), ([13, 15], [13, 15]), ([16, 11, 0, 1, 2, 3, 4, 5, 6, 7, 8, 9, 10, 11, 12, 13, 14, 15, 16], [16])])
def impl_recordText.B1 : List Nat := [0, 1, 3, 7, 0, 16, 55, 127, 255, 0, 512, 1655, 4095, 8191, 0, 16384, 65535, 131071]
theorem impl_recordText.tab1 : rtab .any (opsOf Tryd.f37 1) = impl_recordText.T1 := by kernel_rfl
theorem impl_recordText.bits1 : waitsOk impl_recordText.T1.2 impl_recordText.B1 = true := by kernel_rfl
set_option maxHeartbeats 8000000 in
set_option maxRecDepth 100000 in
theorem impl_recordText.calls (a0_0 : ByteArray) (a0_1 : Int) (a0_2 : Int) (a0_3 : ByteArray) (r : ByteArray) (w : World) (h : impl_recordText.f a0_0 a0_1 a0_2 a0_3 = some r) (hv_ : Vars w := by first | assumption | (refine Vars.below (Aside0.out (by assumption)) ?_; repeat (first | (with_reducible first | exact Below.refl _ _ | exact Aside0.out (by assumption) | apply below_alloc | apply pw_below_drewN | apply below_drew1) | exact Aside0.out (by assumption)))) :
    Calls Tryd.prog 37 #[.agg #[.string a0_0, .int .i64 a0_1, .int .i64 a0_2, .string a0_3]] w fun e w' => e = .returned (.string r) ∧ Below w.heap.size w w' := by
  have HV_ := Aside0.mk hv_
  clear hv_
  have hu29 := Tryd.underlying29
  have HB := Aside0.mk (Below.refl w.heap.size w)
  have H : ((impl_told.f a0_0).bind fun t298 => (if t298.size + 1 ≤ 9223372036854775807 then ((strconv_Itoa.f a0_2).bind fun t299 => (if (t298 ++ (⟨#[32]⟩ : ByteArray)).size + t299.size ≤ 9223372036854775807 then (if ((t298 ++ (⟨#[32]⟩ : ByteArray)) ++ t299).size + 1 ≤ 9223372036854775807 then ((strconv_Itoa.f a0_1).bind fun t300 => (if (((t298 ++ (⟨#[32]⟩ : ByteArray)) ++ t299) ++ (⟨#[32]⟩ : ByteArray)).size + t300.size ≤ 9223372036854775807 then (if ((((t298 ++ (⟨#[32]⟩ : ByteArray)) ++ t299) ++ (⟨#[32]⟩ : ByteArray)) ++ t300).size + 1 ≤ 9223372036854775807 then (if (((((t298 ++ (⟨#[32]⟩ : ByteArray)) ++ t299) ++ (⟨#[32]⟩ : ByteArray)) ++ t300) ++ (⟨#[32]⟩ : ByteArray)).size + a0_3.size ≤ 9223372036854775807 then (some ((((((t298 ++ (⟨#[32]⟩ : ByteArray)) ++ t299) ++ (⟨#[32]⟩ : ByteArray)) ++ t300) ++ (⟨#[32]⟩ : ByteArray)) ++ a0_3)) else (none)) else (none)) else (none))) else (none)) else (none))) else (none))) = some r := h
  clear h
  replace H := Option.bind_eq_some_iff.mp H
  obtain ⟨t298, A20, H⟩ := H
  replace H : (if t298.size + 1 ≤ 9223372036854775807 then ((strconv_Itoa.f a0_2).bind fun t299 => (if (t298 ++ (⟨#[32]⟩ : ByteArray)).size + t299.size ≤ 9223372036854775807 then (if ((t298 ++ (⟨#[32]⟩ : ByteArray)) ++ t299).size + 1 ≤ 9223372036854775807 then ((strconv_Itoa.f a0_1).bind fun t300 => (if (((t298 ++ (⟨#[32]⟩ : ByteArray)) ++ t299) ++ (⟨#[32]⟩ : ByteArray)).size + t300.size ≤ 9223372036854775807 then (if ((((t298 ++ (⟨#[32]⟩ : ByteArray)) ++ t299) ++ (⟨#[32]⟩ : ByteArray)) ++ t300).size + 1 ≤ 9223372036854775807 then (if (((((t298 ++ (⟨#[32]⟩ : ByteArray)) ++ t299) ++ (⟨#[32]⟩ : ByteArray)) ++ t300) ++ (⟨#[32]⟩ : ByteArray)).size + a0_3.size ≤ 9223372036854775807 then (some ((((((t298 ++ (⟨#[32]⟩ : ByteArray)) ++ t299) ++ (⟨#[32]⟩ : ByteArray)) ++ t300) ++ (⟨#[32]⟩ : ByteArray)) ++ a0_3)) else (none)) else (none)) else (none))) else (none)) else (none))) else (none)) = some r := H
  have A2 := Aside0.mk A20
  clear A20
  by_cases c3 : t298.size + 1 ≤ 9223372036854775807
  · rw [if_pos c3] at H
    have c3b0 := eq_true c3
    have c3b1 : decide (t298.size + 1 ≤ 9223372036854775807) = true := decide_eq_true c3
    try have c3b2 : (9223372036854775807 < t298.size + 1) = False := eq_false (Nat.not_lt.2 c3)
    replace H := Option.bind_eq_some_iff.mp H
    obtain ⟨t299, A40, H⟩ := H
    replace H : (if (t298 ++ (⟨#[32]⟩ : ByteArray)).size + t299.size ≤ 9223372036854775807 then (if ((t298 ++ (⟨#[32]⟩ : ByteArray)) ++ t299).size + 1 ≤ 9223372036854775807 then ((strconv_Itoa.f a0_1).bind fun t300 => (if (((t298 ++ (⟨#[32]⟩ : ByteArray)) ++ t299) ++ (⟨#[32]⟩ : ByteArray)).size + t300.size ≤ 9223372036854775807 then (if ((((t298 ++ (⟨#[32]⟩ : ByteArray)) ++ t299) ++ (⟨#[32]⟩ : ByteArray)) ++ t300).size + 1 ≤ 9223372036854775807 then (if (((((t298 ++ (⟨#[32]⟩ : ByteArray)) ++ t299) ++ (⟨#[32]⟩ : ByteArray)) ++ t300) ++ (⟨#[32]⟩ : ByteArray)).size + a0_3.size ≤ 9223372036854775807 then (some ((((((t298 ++ (⟨#[32]⟩ : ByteArray)) ++ t299) ++ (⟨#[32]⟩ : ByteArray)) ++ t300) ++ (⟨#[32]⟩ : ByteArray)) ++ a0_3)) else (none)) else (none)) else (none))) else (none)) else (none)) = some r := H
    have A4 := Aside0.mk A40
    clear A40
    by_cases c5 : (t298 ++ (⟨#[32]⟩ : ByteArray)).size + t299.size ≤ 9223372036854775807
    · rw [if_pos c5] at H
      have c5b0 := eq_true c5
      have c5b1 : decide ((t298 ++ (⟨#[32]⟩ : ByteArray)).size + t299.size ≤ 9223372036854775807) = true := decide_eq_true c5
      try have c5b2 : (9223372036854775807 < (t298 ++ (⟨#[32]⟩ : ByteArray)).size + t299.size) = False := eq_false (Nat.not_lt.2 c5)
      (try (have c5b7 := c5b2; simp only [ByteArray.size_append, show (⟨#[32]⟩ : ByteArray).size = 1 from rfl, Nat.reduceAdd] at c5b7))
      by_cases c6 : ((t298 ++ (⟨#[32]⟩ : ByteArray)) ++ t299).size + 1 ≤ 9223372036854775807
      · rw [if_pos c6] at H
        have c6b0 := eq_true c6
        have c6b1 : decide (((t298 ++ (⟨#[32]⟩ : ByteArray)) ++ t299).size + 1 ≤ 9223372036854775807) = true := decide_eq_true c6
        try have c6b2 : (9223372036854775807 < ((t298 ++ (⟨#[32]⟩ : ByteArray)) ++ t299).size + 1) = False := eq_false (Nat.not_lt.2 c6)
        (try (have c6b7 := c6b2; simp only [ByteArray.size_append, show (⟨#[32]⟩ : ByteArray).size = 1 from rfl, Nat.reduceAdd] at c6b7))
        replace H := Option.bind_eq_some_iff.mp H
        obtain ⟨t300, A70, H⟩ := H
        replace H : (if (((t298 ++ (⟨#[32]⟩ : ByteArray)) ++ t299) ++ (⟨#[32]⟩ : ByteArray)).size + t300.size ≤ 9223372036854775807 then (if ((((t298 ++ (⟨#[32]⟩ : ByteArray)) ++ t299) ++ (⟨#[32]⟩ : ByteArray)) ++ t300).size + 1 ≤ 9223372036854775807 then (if (((((t298 ++ (⟨#[32]⟩ : ByteArray)) ++ t299) ++ (⟨#[32]⟩ : ByteArray)) ++ t300) ++ (⟨#[32]⟩ : ByteArray)).size + a0_3.size ≤ 9223372036854775807 then (some ((((((t298 ++ (⟨#[32]⟩ : ByteArray)) ++ t299) ++ (⟨#[32]⟩ : ByteArray)) ++ t300) ++ (⟨#[32]⟩ : ByteArray)) ++ a0_3)) else (none)) else (none)) else (none)) = some r := H
        have A7 := Aside0.mk A70
        clear A70
        by_cases c8 : (((t298 ++ (⟨#[32]⟩ : ByteArray)) ++ t299) ++ (⟨#[32]⟩ : ByteArray)).size + t300.size ≤ 9223372036854775807
        · rw [if_pos c8] at H
          have c8b0 := eq_true c8
          have c8b1 : decide ((((t298 ++ (⟨#[32]⟩ : ByteArray)) ++ t299) ++ (⟨#[32]⟩ : ByteArray)).size + t300.size ≤ 9223372036854775807) = true := decide_eq_true c8
          try have c8b2 : (9223372036854775807 < (((t298 ++ (⟨#[32]⟩ : ByteArray)) ++ t299) ++ (⟨#[32]⟩ : ByteArray)).size + t300.size) = False := eq_false (Nat.not_lt.2 c8)
          (try (have c8b7 := c8b2; simp only [ByteArray.size_append, show (⟨#[32]⟩ : ByteArray).size = 1 from rfl, Nat.reduceAdd] at c8b7))
          by_cases c9 : ((((t298 ++ (⟨#[32]⟩ : ByteArray)) ++ t299) ++ (⟨#[32]⟩ : ByteArray)) ++ t300).size + 1 ≤ 9223372036854775807
          · rw [if_pos c9] at H
            have c9b0 := eq_true c9
            have c9b1 : decide (((((t298 ++ (⟨#[32]⟩ : ByteArray)) ++ t299) ++ (⟨#[32]⟩ : ByteArray)) ++ t300).size + 1 ≤ 9223372036854775807) = true := decide_eq_true c9
            try have c9b2 : (9223372036854775807 < ((((t298 ++ (⟨#[32]⟩ : ByteArray)) ++ t299) ++ (⟨#[32]⟩ : ByteArray)) ++ t300).size + 1) = False := eq_false (Nat.not_lt.2 c9)
            (try (have c9b7 := c9b2; simp only [ByteArray.size_append, show (⟨#[32]⟩ : ByteArray).size = 1 from rfl, Nat.reduceAdd] at c9b7))
            by_cases c10 : (((((t298 ++ (⟨#[32]⟩ : ByteArray)) ++ t299) ++ (⟨#[32]⟩ : ByteArray)) ++ t300) ++ (⟨#[32]⟩ : ByteArray)).size + a0_3.size ≤ 9223372036854775807
            · rw [if_pos c10] at H
              have c10b0 := eq_true c10
              have c10b1 : decide ((((((t298 ++ (⟨#[32]⟩ : ByteArray)) ++ t299) ++ (⟨#[32]⟩ : ByteArray)) ++ t300) ++ (⟨#[32]⟩ : ByteArray)).size + a0_3.size ≤ 9223372036854775807) = true := decide_eq_true c10
              try have c10b2 : (9223372036854775807 < (((((t298 ++ (⟨#[32]⟩ : ByteArray)) ++ t299) ++ (⟨#[32]⟩ : ByteArray)) ++ t300) ++ (⟨#[32]⟩ : ByteArray)).size + a0_3.size) = False := eq_false (Nat.not_lt.2 c10)
              (try (have c10b7 := c10b2; simp only [ByteArray.size_append, show (⟨#[32]⟩ : ByteArray).size = 1 from rfl, Nat.reduceAdd] at c10b7))
              obtain rfl := Option.some.inj H
              go_enter Tryd.func37, Tryd.ntmps37
              try go_wp2_with (first | ((with_reducible refine gate_dst (N := 1) rfl ?_); refine box_event ?hg (N := 1) ?hd (cs := #[.string a0_0, .int .i64 a0_1, .int .i64 a0_2, .string a0_3]) (t := 29) ?hr ?_; (case hd => rfl); (case hg => rfl); (case hr => first | (go_simp; done) | (go_simp; rfl)); intro gb297 hg w11 hbox hb; have n0_ := Aside0.mk (below_step (by repeat (first | (with_reducible first | exact HB.out | apply below_alloc | apply pw_below_drewN | apply below_drew1) | exact HB.out)) hb); have n1_ := Aside0.mk (hbox); have n2_ := Aside0.mk ((by rw [hg]; exact (below_size (by repeat (first | (with_reducible first | exact HB.out | apply below_alloc | apply pw_below_drewN | apply below_drew1) | exact HB.out))) : w.heap.size ≤ gb297)); have n3_ := Aside0.mk ((by rw [hg]; exact (below_size (by repeat (first | (with_reducible first | exact HB.out | apply below_alloc | apply pw_below_drewN | apply below_drew1) | exact HB.out))) : w.heap.size ≤ gb297)); clear HB; have HB := n0_; have BK297 := n1_; have GW297 := n2_; have GE297 := n3_; clear n0_ n1_ n2_ n3_; clear hb hbox hg))
              have n0_ := Aside0.mk (blk_drew BK297.out)
              have n1_ := Aside0.mk (below_drew1 HB.out)
              clear BK297
              clear HB
              have BK297 := n0_
              have HB := n1_
              clear n0_ n1_
              refine start_ (n := 18) (S := fun w' => w'.cell? ⟨gb297, 0, none⟩ = some (.string a0_0) ∧ w'.cell? ⟨gb297, 1, none⟩ = some (.int .i64 a0_1) ∧ w'.cell? ⟨gb297, 2, none⟩ = some (.int .i64 a0_2) ∧ w'.cell? ⟨gb297, 3, none⟩ = some (.string a0_3)) (ds := []) #[false, false, false, false, false, false, false, false, false, false, false, false, false, false, false, false, false, false] (by kernel_rfl) rfl rfl ⟨(blk_cell BK297.out 0).trans rfl, (blk_cell BK297.out 1).trans rfl, (blk_cell BK297.out 2).trans rfl, (blk_cell BK297.out 3).trans rfl⟩ (fun hHeld => ?_); refine with_tabW impl_recordText.tab1 impl_recordText.bits1 (fun HT_ HW_ => ?_)
              generalize w11.drew = w12 at BK297 HB hHeld ⊢
              refine pure_ (i := 0) (N := some 3) (v := ?_) (a' := ?_) #[true, false, false, false, false, false, false, false, false, false, false, false, false, false, false, false, false, false] rfl rfl (any_of HT_.out (by kernel_rfl)) (fun _ _ _ h => h) (Or.inl ⟨by rfl, ?_⟩) ?_ ?_
              rotate_left
              · intro w'
                go_simp
                with_reducible rfl
              rotate_left
              · simp only [Act.put, List.setIfInBounds_toArray, List.set_cons_zero, List.set_cons_succ, i64_w, i32_w]
                rfl
              refine pure_ (i := 4) (N := some 7) (v := ?_) (a' := ?_) #[true, false, false, false, true, false, false, false, false, false, false, false, false, false, false, false, false, false] rfl rfl (any_of HT_.out (by kernel_rfl)) (fun _ _ _ h => h) (Or.inl ⟨by rfl, ?_⟩) ?_ ?_
              rotate_left
              · intro w'
                go_simp
                with_reducible rfl
              rotate_left
              · simp only [Act.put, List.setIfInBounds_toArray, List.set_cons_zero, List.set_cons_succ, i64_w, i32_w]
                rfl
              refine pure_ (i := 9) (N := some 12) (v := ?_) (a' := ?_) #[true, false, false, false, true, false, false, false, false, true, false, false, false, false, false, false, false, false] rfl rfl (any_of HT_.out (by kernel_rfl)) (fun _ _ _ h => h) (Or.inl ⟨by rfl, ?_⟩) ?_ ?_
              rotate_left
              · intro w'
                go_simp
                with_reducible rfl
              rotate_left
              · simp only [Act.put, List.setIfInBounds_toArray, List.set_cons_zero, List.set_cons_succ, i64_w, i32_w]
                rfl
              refine pure_ (i := 14) (N := some 17) (v := ?_) (a' := ?_) #[true, false, false, false, true, false, false, false, false, true, false, false, false, false, true, false, false, false] rfl rfl (any_of HT_.out (by kernel_rfl)) (fun _ _ _ h => h) (Or.inl ⟨by rfl, ?_⟩) ?_ ?_
              rotate_left
              · intro w'
                go_simp
                with_reducible rfl
              rotate_left
              · simp only [Act.put, List.setIfInBounds_toArray, List.set_cons_zero, List.set_cons_succ, i64_w, i32_w]
                rfl
              refine take_ (i := 1) (N := some 4) (v := ?_) (a' := ?_) #[true, true, false, false, true, false, false, false, false, true, false, false, false, false, true, false, false, false] rfl rfl (take_ofW HT_.out HW_.out (by kernel_rfl)) (fun _ _ _ h => h) (Or.inl ⟨by rfl, ?_⟩) hHeld ?_ ?_
              rotate_left
              · rintro w' ⟨s0, s1, s2, s3⟩
                go_simp
                with_reducible rfl
              rotate_left
              · simp only [Act.put, List.setIfInBounds_toArray, List.set_cons_zero, List.set_cons_succ, i64_w, i32_w]
                rfl
              refine take_ (i := 5) (N := some 8) (v := ?_) (a' := ?_) #[true, true, false, false, true, true, false, false, false, true, false, false, false, false, true, false, false, false] rfl rfl (take_ofW HT_.out HW_.out (by kernel_rfl)) (fun _ _ _ h => h) (Or.inl ⟨by rfl, ?_⟩) hHeld ?_ ?_
              rotate_left
              · rintro w' ⟨s0, s1, s2, s3⟩
                go_simp
                with_reducible rfl
              rotate_left
              · simp only [Act.put, List.setIfInBounds_toArray, List.set_cons_zero, List.set_cons_succ, i64_w, i32_w]
                rfl
              refine take_ (i := 10) (N := some 13) (v := ?_) (a' := ?_) #[true, true, false, false, true, true, false, false, false, true, true, false, false, false, true, false, false, false] rfl rfl (take_ofW HT_.out HW_.out (by kernel_rfl)) (fun _ _ _ h => h) (Or.inl ⟨by rfl, ?_⟩) hHeld ?_ ?_
              rotate_left
              · rintro w' ⟨s0, s1, s2, s3⟩
                go_simp
                with_reducible rfl
              rotate_left
              · simp only [Act.put, List.setIfInBounds_toArray, List.set_cons_zero, List.set_cons_succ, i64_w, i32_w]
                rfl
              refine take_ (i := 15) (N := some 18) (v := ?_) (a' := ?_) #[true, true, false, false, true, true, false, false, false, true, true, false, false, false, true, true, false, false] rfl rfl (take_ofW HT_.out HW_.out (by kernel_rfl)) (fun _ _ _ h => h) (Or.inl ⟨by rfl, ?_⟩) hHeld ?_ ?_
              rotate_left
              · rintro w' ⟨s0, s1, s2, s3⟩
                go_simp
                with_reducible rfl
              rotate_left
              · simp only [Act.put, List.setIfInBounds_toArray, List.set_cons_zero, List.set_cons_succ, i64_w, i32_w]
                rfl
              refine one_ (i := 2) (N := some 5) #[true, true, true, false, true, true, false, false, false, true, true, false, false, false, true, true, false, false] rfl rfl (one_of HT_.out (by kernel_rfl)) (by decide) (fun K hK => ?_)
              refine goes_ Tryd.func56 (by kernel_rfl) rfl #[.string a0_0] (by rfl) rfl rfl (by (try simp only [List.map_toArray, List.map_cons, List.map_nil]); first | done | rfl | (simp only [List.length_drop, List.length_take]; rfl)) ?_
              with_reducible refine (impl_told.calls a0_0 t298 _ A2.out).mono ?_
              rintro e w' ⟨rfl, ⟨nd, rfl⟩⟩
              refine ⟨_, rfl, ?_⟩
              refine hK.out _ _ ⟨(blk_cell BK297.out 0).trans rfl, (blk_cell BK297.out 1).trans rfl, (blk_cell BK297.out 2).trans rfl, (blk_cell BK297.out 3).trans rfl⟩ (fun hHeld => ?_)
              clear hK K
              refine norm_ (a' := ?_) ?_ ?_
              rotate_left
              · show Act.put _ (some 5) _ = _
                simp only [Act.put, List.setIfInBounds_toArray, List.set_cons_zero, List.set_cons_succ, i64_w, i32_w]
                rfl
              refine pure_ (i := 3) (N := some 6) (v := ?_) (a' := ?_) #[true, true, true, true, true, true, false, false, false, true, true, false, false, false, true, true, false, false] rfl rfl (any_of HT_.out (by kernel_rfl)) (fun _ _ _ h => h) (Or.inl ⟨by rfl, ?_⟩) ?_ ?_
              rotate_left
              · intro w'
                go_simp
                with_reducible rfl
              rotate_left
              · simp only [Act.put, List.setIfInBounds_toArray, List.set_cons_zero, List.set_cons_succ, i64_w, i32_w]
                rfl
              refine one_ (i := 6) (N := some 9) #[true, true, true, true, true, true, true, false, false, true, true, false, false, false, true, true, false, false] rfl rfl (one_of HT_.out (by kernel_rfl)) (by decide) (fun K hK => ?_)
              refine goes_ Tryd.func46 (by kernel_rfl) rfl #[.int .i64 a0_2] (by rfl) rfl rfl (by (try simp only [List.map_toArray, List.map_cons, List.map_nil]); first | done | rfl | (simp only [List.length_drop, List.length_take]; rfl)) ?_
              with_reducible refine (strconv_Itoa.calls a0_2 t299 _ A4.out).mono ?_
              rintro e w13 ⟨rfl, hb⟩
              refine ⟨_, rfl, ?_⟩
              have n0_ := Aside0.mk (blk_below (g := gb297) (o := .cells #[.string a0_0, .int .i64 a0_1, .int .i64 a0_2, .string a0_3] 29 (0, 0)) (by (with_reducible repeat (first | refine blk_drewN ?_ _ | refine blk_drew ?_ | refine blk_alloc ?_ _)); exact BK297.out) hb)
              have n1_ := Aside0.mk (below_step (by repeat (first | (with_reducible first | exact HB.out | apply below_alloc | apply pw_below_drewN | apply below_drew1 | refine below_set ?_ GE297.out) | exact HB.out)) hb)
              clear BK297
              clear HB
              have BK297 := n0_
              have HB := n1_
              clear n0_ n1_
              (try clear hb)
              (try clear hb2)
              (try clear hk)
              (try clear hi)
              refine hK.out _ _ ⟨(blk_cell BK297.out 0).trans rfl, (blk_cell BK297.out 1).trans rfl, (blk_cell BK297.out 2).trans rfl, (blk_cell BK297.out 3).trans rfl⟩ (fun hHeld => ?_)
              clear hK K
              refine norm_ (a' := ?_) ?_ ?_
              rotate_left
              · show Act.put _ (some 9) _ = _
                simp only [Act.put, List.setIfInBounds_toArray, List.set_cons_zero, List.set_cons_succ, i64_w, i32_w]
                rfl
              refine pure_ (i := 7) (N := some 10) (v := ?_) (a' := ?_) #[true, true, true, true, true, true, true, true, false, true, true, false, false, false, true, true, false, false] rfl rfl (any_of HT_.out (by kernel_rfl)) (fun _ _ _ h => h) (Or.inl ⟨by rfl, ?_⟩) ?_ ?_
              rotate_left
              · intro w'
                go_simp
                with_reducible rfl
              rotate_left
              · simp only [Act.put, List.setIfInBounds_toArray, List.set_cons_zero, List.set_cons_succ, i64_w, i32_w]
                rfl
              refine pure_ (i := 8) (N := some 11) (v := ?_) (a' := ?_) #[true, true, true, true, true, true, true, true, true, true, true, false, false, false, true, true, false, false] rfl rfl (any_of HT_.out (by kernel_rfl)) (fun _ _ _ h => h) (Or.inl ⟨by rfl, ?_⟩) ?_ ?_
              rotate_left
              · intro w'
                go_simp
                with_reducible rfl
              rotate_left
              · simp only [Act.put, List.setIfInBounds_toArray, List.set_cons_zero, List.set_cons_succ, i64_w, i32_w]
                rfl
              refine one_ (i := 11) (N := some 14) #[true, true, true, true, true, true, true, true, true, true, true, true, false, false, true, true, false, false] rfl rfl (one_of HT_.out (by kernel_rfl)) (by decide) (fun K hK => ?_)
              refine goes_ Tryd.func46 (by kernel_rfl) rfl #[.int .i64 a0_1] (by rfl) rfl rfl (by (try simp only [List.map_toArray, List.map_cons, List.map_nil]); first | done | rfl | (simp only [List.length_drop, List.length_take]; rfl)) ?_
              with_reducible refine (strconv_Itoa.calls a0_1 t300 _ A7.out).mono ?_
              rintro e w14 ⟨rfl, hb⟩
              refine ⟨_, rfl, ?_⟩
              have n0_ := Aside0.mk (blk_below (g := gb297) (o := .cells #[.string a0_0, .int .i64 a0_1, .int .i64 a0_2, .string a0_3] 29 (0, 0)) (by (with_reducible repeat (first | refine blk_drewN ?_ _ | refine blk_drew ?_ | refine blk_alloc ?_ _)); exact BK297.out) hb)
              have n1_ := Aside0.mk (below_step (by repeat (first | (with_reducible first | exact HB.out | apply below_alloc | apply pw_below_drewN | apply below_drew1 | refine below_set ?_ GE297.out) | exact HB.out)) hb)
              clear BK297
              clear HB
              have BK297 := n0_
              have HB := n1_
              clear n0_ n1_
              (try clear hb)
              (try clear hb2)
              (try clear hk)
              (try clear hi)
              refine hK.out _ _ ⟨(blk_cell BK297.out 0).trans rfl, (blk_cell BK297.out 1).trans rfl, (blk_cell BK297.out 2).trans rfl, (blk_cell BK297.out 3).trans rfl⟩ (fun hHeld => ?_)
              clear hK K
              refine norm_ (a' := ?_) ?_ ?_
              rotate_left
              · show Act.put _ (some 14) _ = _
                simp only [Act.put, List.setIfInBounds_toArray, List.set_cons_zero, List.set_cons_succ, i64_w, i32_w]
                rfl
              refine pure_ (i := 12) (N := some 15) (v := ?_) (a' := ?_) #[true, true, true, true, true, true, true, true, true, true, true, true, true, false, true, true, false, false] rfl rfl (any_of HT_.out (by kernel_rfl)) (fun _ _ _ h => h) (Or.inl ⟨by rfl, ?_⟩) ?_ ?_
              rotate_left
              · intro w'
                go_simp
                with_reducible rfl
              rotate_left
              · simp only [Act.put, List.setIfInBounds_toArray, List.set_cons_zero, List.set_cons_succ, i64_w, i32_w]
                rfl
              refine pure_ (i := 13) (N := some 16) (v := ?_) (a' := ?_) #[true, true, true, true, true, true, true, true, true, true, true, true, true, true, true, true, false, false] rfl rfl (any_of HT_.out (by kernel_rfl)) (fun _ _ _ h => h) (Or.inl ⟨by rfl, ?_⟩) ?_ ?_
              rotate_left
              · intro w'
                go_simp
                with_reducible rfl
              rotate_left
              · simp only [Act.put, List.setIfInBounds_toArray, List.set_cons_zero, List.set_cons_succ, i64_w, i32_w]
                rfl
              refine pure_ (i := 16) (N := some 19) (v := ?_) (a' := ?_) #[true, true, true, true, true, true, true, true, true, true, true, true, true, true, true, true, true, false] rfl rfl (any_of HT_.out (by kernel_rfl)) (fun _ _ _ h => h) (Or.inl ⟨by rfl, ?_⟩) ?_ ?_
              rotate_left
              · intro w'
                go_simp
                with_reducible rfl
              rotate_left
              · simp only [Act.put, List.setIfInBounds_toArray, List.set_cons_zero, List.set_cons_succ, i64_w, i32_w]
                rfl
              refine pure_ (i := 17) (N := some 2) (v := ?_) (a' := ?_) #[true, true, true, true, true, true, true, true, true, true, true, true, true, true, true, true, true, true] rfl rfl (any_of HT_.out (by kernel_rfl)) (fun _ _ _ h => h) (Or.inl ⟨by rfl, ?_⟩) ?_ ?_
              rotate_left
              · intro w'
                go_simp
                with_reducible rfl
              rotate_left
              · simp only [Act.put, List.setIfInBounds_toArray, List.set_cons_zero, List.set_cons_succ, i64_w, i32_w]
                rfl
              refine done_ (done_of HT_.out (by kernel_rfl)) ?_
              try go_wp2
              go_ret
              exact ⟨by first | rfl | (simp [errW_none, errW_some] <;> rfl) | (simp [*, errW_none, errW_some] <;> rfl), by repeat (first | (with_reducible first | exact HB.out | apply below_alloc | apply pw_below_drewN | apply below_drew1 | refine below_set ?_ GE297.out) | exact HB.out)⟩
            · rw [if_neg c10] at H
              exact absurd H (by simp)
          · rw [if_neg c9] at H
            exact absurd H (by simp)
        · rw [if_neg c8] at H
          exact absurd H (by simp)
      · rw [if_neg c6] at H
        exact absurd H (by simp)
    · rw [if_neg c5] at H
      exact absurd H (by simp)
  · rw [if_neg c3] at H
    exact absurd H (by simp)

end Go.Proofs.YtecmicedacppbaaDoor.P

-- HSplitN
/- strings.SplitN at a separator of one byte; strconv.Atoi's number, its error left aside. Conditions: the text is below 2^32 bytes; the library's variables hold what the row lists. -/
namespace Go.Proofs.YtecmicedacppbaaDoor.P
open Go.Shelf Go.RowKit Go.Proofs.YtecmicedacppbaaDoorW.PrintWords Go.Proofs.YtecmicedacppbaaDoorW.PrintLast Go.Proofs.YtecmicedacppbaaDoorW.PrintMore
set_option linter.unusedVariables false
set_option linter.unusedSimpArgs false
/-- A new block of strings, some cells beyond them. -/
theorem R_strs_cap (W : World) (base t : Nat) (l : List ByteArray) (N : Nat) (hb : base ≤ W.heap.size) (hl : l.length ≤ N) (hm : N ≤ 9223372036854775807) :
    Kd.R Kd.string t (W.alloc (.cells (Lib.cellsOf l N) t)) base (fun _ => True) (.slice (some ⟨W.heap.size, 0, none⟩) l.length N) l := by
  refine ⟨fun _ _ => trivial, l.map Value.string, ⟨by show _ = _ * 1; simp, .inr ⟨W.heap.size, N, Lib.cellsOf l N, rfl, hb, heap_alloc_new W _, hl, by simpa [maxLen] using hm, by show _ = N * 1; rw [Lib.cellsOf_size hl, Nat.mul_one], ?_⟩⟩, reps_strs (fun x cs => cs = [.string x]) (fun _ => rfl) l⟩
  unfold Lib.cellsOf
  show List.take (l.length * 1) (List.map Value.string l ++ List.replicate (N - l.length) (Value.string ByteArray.empty)) = _
  rw [Nat.mul_one, List.take_append_of_le_length (by rw [List.length_map]; exact Nat.le_refl _), List.take_of_length_le (by rw [List.length_map]; exact Nat.le_refl _)]
/-- strings.SplitN at one byte. -/
def strings_SplitN.f (s sep : ByteArray) (n : Int) : Option (List ByteArray) :=
  if sep.size = 1 then (if s.size < 4294967281 then (if 1 ≤ n ∧ n ≤ 1000 then some (Lib.splitB sep 0 (min n.toNat (s.size + 1) - 1) s) else none) else none) else none
theorem strings_SplitN.calls (a0 a1 : ByteArray) (a2 : Int) (r : List ByteArray) (w : World) (h : strings_SplitN.f a0 a1 a2 = some r) :
    Calls Tryd.prog 40 #[.string a0, .string a1, .int .i64 a2] w fun e w' => ∃ v0_ : Value, e = .returned (v0_) ∧ Kd.R Kd.string 9 w' w.heap.size (fun _ => True) v0_ r ∧ Below w.heap.size w w' := by
  unfold strings_SplitN.f at h
  by_cases h1 : a1.size = 1
  · rw [if_pos h1] at h
    by_cases h2 : a0.size < 4294967281
    · rw [if_pos h2] at h
      by_cases h3 : 1 ≤ a2 ∧ a2 ≤ 1000
      · rw [if_pos h3] at h
        obtain ⟨c, rfl⟩ := Lib.one_byte a1 h1
        have h := Option.some.inj h
        have h11 : 1 ≤ (⟨#[c]⟩ : ByteArray).size := Nat.le_refl 1
        have cc := Any.strings_genSplit_core (P := Tryd.prog) { Tryd.lays221 with } (by kernel_rfl) a0 ⟨#[c]⟩ 0 a2 (min a2.toNat (a0.size + 1)) w h2 h11 (Nat.zero_le _)
          (fun x cs hx => (Any.strings_Index_one Tryd.lays143 x c _).mono fun e w' ⟨he, hw⟩ => ⟨by rw [he, Lib.indexB, show (⟨#[c]⟩ : ByteArray).data.toList = [c] from rfl, Lib.index_one], hw⟩)
          ((Any.strings_Count_one Tryd.lays138 a0 c w).mono fun e w' ⟨he, hw⟩ => ⟨by rw [he, Lib.countB, show (⟨#[c]⟩ : ByteArray).data.toList = [c] from rfl, Lib.count_one]; rfl, hw⟩)
          (by omega) (by omega) (by rw [if_neg (by omega)]; omega)
        rw [h] at cc
        have hlen : r.length ≤ min a2.toNat (a0.size + 1) := by
          have := Lib.splitB_length_le ⟨#[c]⟩ 0 (min a2.toNat (a0.size + 1) - 1) a0
          rw [h] at this
          omega
        have hR := R_strs_cap w w.heap.size 9 r (min a2.toNat (a0.size + 1)) (Nat.le_refl _) hlen (by omega)
        have cc2 : Calls Tryd.prog 45 #[.string a0, .string ⟨#[c]⟩, .int .i64 0, .int .i64 a2] w fun e w' => e = .returned (.slice (some ⟨w.heap.size, 0, none⟩) r.length ((min a2.toNat (a0.size + 1) : Nat) : Int).toNat) ∧ w' = w.alloc (.cells (Lib.cellsOf r (min a2.toNat (a0.size + 1))) 9) := cc
        clear cc h
        go_enter Tryd.func40, Tryd.ntmps40
        go_wp2_with (go_at_call 45; refine cc2.mono ?_; rintro e w' ⟨rfl, hw⟩; rw [hw])
        go_ret
        exact ⟨_, rfl, hR, below_alloc (Below.refl _ _) _⟩
      · rw [if_neg h3] at h; cases h
    · rw [if_neg h2] at h; cases h
  · rw [if_neg h1] at h; cases h
/-- What Atoi's number is, whatever its error. -/
def atoiV (l : List UInt8) : Int := match Lib.atoiAll l with
  | .ok v => v
  | .range => Lib.atoiSat l
  | _ => 0
def strconv_Atoi.f (s : ByteArray) : Option (Int × Option Int) := if s.size ≤ 281474976710656 then some (atoiV s.data.toList, none) else none
theorem strconv_Atoi.calls (a0 : ByteArray) (r1 : Int) (r2 : Option Int) (w : World) (h : strconv_Atoi.f a0 = some (r1, r2))
    (hv : Vars w := by first | assumption | (refine Vars.below (Aside0.out (by assumption)) ?_; repeat (first | (with_reducible first | exact Below.refl _ _ | exact Aside0.out (by assumption) | apply below_alloc | apply pw_below_drewN | apply below_drew1) | exact Aside0.out (by assumption)))) :
    Calls Tryd.prog 41 #[.string a0] w fun e w' => (∃ ev, e = .returned (.tuple #[.int .i64 r1, ev])) ∧ Below w.heap.size w w' := by
  unfold strconv_Atoi.f at h
  by_cases hs : a0.size ≤ 281474976710656
  · rw [if_pos hs] at h
    obtain ⟨rfl, rfl⟩ := Prod.mk.inj (Option.some.inj h)
    obtain ⟨tp, p, hsyn⟩ := hv.syn
    obtain ⟨tp2, p2, hrng⟩ := hv.rng
    unfold atoiV
    cases ha : Lib.atoiAll a0.data.toList
    · next v => exact (Any.strconv_Atoi_ok Tryd.atoi a0 (by omega) v ha w).mono fun e w' ⟨he, hw⟩ => ⟨⟨_, he⟩, bytes_below hw⟩
    · exact (Any.strconv_Atoi_syntax_var Tryd.atoi a0 hs ha tp p w hsyn).mono fun e w' ⟨N, he, hN, hc, hb⟩ => ⟨⟨_, he⟩, hb⟩
    · exact (Any.strconv_Atoi_range_var Tryd.atoi a0 hs ha tp2 p2 w hrng).mono fun e w' ⟨N, he, hN, hc, hb⟩ => ⟨⟨_, he⟩, hb⟩
  · rw [if_neg hs] at h; cases h
end Go.Proofs.YtecmicedacppbaaDoor.P
