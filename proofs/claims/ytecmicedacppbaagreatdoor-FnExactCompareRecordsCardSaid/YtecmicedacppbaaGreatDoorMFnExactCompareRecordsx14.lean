/- FnExactCompareRecords: part 15 of 27 of my texts for this claim, joined; the theorem stands in the last. Conditions: none beyond the statement's. -/
import Derived.Test.YtecmicedacppbaaGreatDoorMFnExactCompareRecordsx3
import Derived.Test.YtecmicedacppbaaGreatDoorMFnExactCompareRecordsx13
-- F52
-- By my own call of the kit's print (wip/tools/pp.py).
namespace Go.Proofs.YtecmicedacppbaaGreatDoor.P
open Go.RowKit Go.Proofs.YtecmicedacppbaaGreatDoorW.PrintWords Go.Proofs.YtecmicedacppbaaGreatDoorW.PrintLast Go.Proofs.YtecmicedacppbaaGreatDoorW.PrintMore
attribute [local go_sem] max2_int min2_int max_two min_two max_three min_three max_four min_four
set_option linter.unusedVariables false
set_option linter.unusedSimpArgs false

/-! ### impl_labelsOf: function 52 -/
def impl_labelsOf.f (a0 : ByteArray) : Option (List ByteArray) := if a0.toList = ([] : List UInt8) then (some ([] : List ByteArray)) else ((strings_Split.f a0 (⟨#[46]⟩ : ByteArray)).bind fun t200 => (some t200))
set_option maxHeartbeats 8000000 in
set_option maxRecDepth 100000 in
theorem impl_labelsOf.calls (a0 : ByteArray) (r : List ByteArray) (w : World) (h : impl_labelsOf.f a0 = some r) :
    Calls Tryz.prog 52 #[.string a0] w fun e w' => ∃ v0_ : Value, e = .returned (v0_) ∧ Kd.R Kd.string 9 w' w.heap.size (fun _ => True) v0_ r ∧ Below w.heap.size w w' := by
  have HB := Aside0.mk (Below.refl w.heap.size w)
  have H : (if a0.toList = ([] : List UInt8) then (some ([] : List ByteArray)) else ((strings_Split.f a0 (⟨#[46]⟩ : ByteArray)).bind fun t200 => (some t200))) = some r := h
  clear h
  by_cases c2 : a0.toList = ([] : List UInt8)
  · rw [if_pos c2] at H
    have c2b0 : (a0.toList == ([] : List UInt8)) = true := beq_iff_eq.mpr c2
    have c2b1 : (a0.toList != ([] : List UInt8)) = false := bne_eq_false_iff_eq.mpr c2
    clear c2
    obtain rfl := Option.some.inj H
    go_enter Tryz.func52, Tryz.ntmps52
    go_wp2
    go_ret
    exact ⟨_, by first | rfl | (simp [errW_none, errW_some] <;> rfl) | (simp [*, errW_none, errW_some] <;> rfl), by first | exact Kd.R_nil _ _ _ _ _ | exact Kd.N_nil _ _ _ _ _ | exact Kd.V_nil _ _ _ _ _ | exact Kd.Q_nil _ _ _ _ _ | exact Kd.S_nil _ _ _ _ _, by repeat (first | (with_reducible first | exact HB.out | apply below_alloc | apply pw_below_drewN | apply below_drew1) | exact HB.out)⟩
  · rw [if_neg c2] at H
    have c2b0 : (a0.toList == ([] : List UInt8)) = false := beq_eq_false_iff_ne.mpr c2
    have c2b1 : (a0.toList != ([] : List UInt8)) = true := bne_iff_ne.mpr c2
    replace H := Option.bind_eq_some_iff.mp H
    obtain ⟨t200, A30, H⟩ := H
    replace H : (some t200) = some r := H
    have A3 := Aside0.mk A30
    clear A30
    obtain rfl := Option.some.inj H
    go_enter Tryz.func52, Tryz.ntmps52
    go_wp2_with (first | ((with_reducible refine gate_callee (f := 70) rfl ?_); refine goesL_ (some 6) rfl rfl Tryz.func70 (by kernel_rfl) rfl #[.string a0, .string (⟨#[46]⟩ : ByteArray)] rfl (by (try simp only [List.map_toArray, List.map_cons, List.map_nil]); first | done | rfl | (simp only [List.length_drop, List.length_take]; rfl)) ?_; (with_reducible refine (strings_Split.calls a0 (⟨#[46]⟩ : ByteArray) t200 _ A3.out).mono ?_); rintro e w4 ⟨v201, rfl, ho0, hb⟩; refine ⟨_, rfl, ?_⟩; have n0_ := Aside0.mk (Kd.R_lower ho0 (below_size (by repeat (first | (with_reducible first | exact HB.out | apply below_alloc | apply pw_below_drewN | apply below_drew1) | exact HB.out)))); have n1_ := Aside0.mk (below_step (by repeat (first | (with_reducible first | exact HB.out | apply below_alloc | apply pw_below_drewN | apply below_drew1) | exact HB.out)) hb); clear HB; have HO202 := n0_; have HB := n1_; clear n0_ n1_; (try clear hb); (try clear hb2); (try clear hk); (try clear hi); (try clear ho0)))
    go_ret
    exact ⟨_, by first | rfl | (simp [errW_none, errW_some] <;> rfl) | (simp [*, errW_none, errW_some] <;> rfl), by (with_reducible repeat (first | apply Kd.R_alloc | apply Kd.R_drewN | apply Kd.R_drew)); exact HO202.out, by repeat (first | (with_reducible first | exact HB.out | apply below_alloc | apply pw_below_drewN | apply below_drew1) | exact HB.out)⟩

end Go.Proofs.YtecmicedacppbaaGreatDoor.P

-- HGood
/- What a label and a name are: impl.isLabel and impl.GoodName return just isLabelL and goodL, for every text. Conditions: none. -/
namespace Go.Proofs.YtecmicedacppbaaGreatDoor.P
open Go.RowKit Go.Proofs.YtecmicedacppbaaGreatDoorW.PrintWords Go.Proofs.YtecmicedacppbaaGreatDoorW.PrintLast Go.Proofs.YtecmicedacppbaaGreatDoorW.PrintMore
set_option linter.unusedVariables false

theorem within_eq (n a b : Int) : impl_within.f n a b = some (decide (a ≤ n ∧ n ≤ b)) := by
  unfold impl_within.f
  by_cases h : n ≥ a
  · rw [if_pos h]; congr 1; rw [decide_eq_decide]; omega
  · rw [if_neg h]; congr 1; rw [eq_comm, decide_eq_false_iff_not]; omega

theorem cutset_byte (b : UInt8) : (([97, 98, 99, 100, 101, 102, 103, 104, 105, 106, 107, 108, 109, 110, 111, 112, 113, 114, 115, 116, 117, 118, 119, 120, 121, 122, 48, 49, 50, 51, 52, 53, 54, 55, 56, 57, 45, 95] : List UInt8).contains b) = labelByte b := by
  have h : ∀ n : Fin 256, (([97, 98, 99, 100, 101, 102, 103, 104, 105, 106, 107, 108, 109, 110, 111, 112, 113, 114, 115, 116, 117, 118, 119, 120, 121, 122, 48, 49, 50, 51, 52, 53, 54, 55, 56, 57, 45, 95] : List UInt8).contains (UInt8.ofFin n)) = labelByte (UInt8.ofFin n) := by decide +kernel
  exact h b.toFin

theorem isLabel_eq (s : ByteArray) : impl_isLabel.f s = some (isLabelL s.data.toList) := by
  unfold impl_isLabel.f isLabelL
  rw [Lib.toList_data, within_eq]
  by_cases h0 : s.data.toList = [42]
  · rw [if_pos h0, h0]; rfl
  · rw [if_neg h0, show (s.data.toList == [42]) = false from beq_eq_false_iff_ne.mpr h0, Bool.false_or]
    simp only [Option.bind_some]
    have hl : decide ((1 : Int) ≤ (s.size : Int) ∧ (s.size : Int) ≤ 20) = decide (1 ≤ s.data.toList.length ∧ s.data.toList.length ≤ 20) := by
      rw [decide_eq_decide, size_len]; omega
    rw [hl]
    by_cases h1 : 1 ≤ s.data.toList.length ∧ s.data.toList.length ≤ 20
    · rw [decide_eq_true h1, if_pos rfl, Bool.true_and]
      unfold strings_Trim.f
      rw [if_pos (by rw [size_len]; omega), if_pos (by decide), if_pos (by decide)]
      simp only [Option.bind_some]
      congr 1
      rw [Lib.toList_data, mkB_data]
      have ht := trimS_nil s.data.toList [97, 98, 99, 100, 101, 102, 103, 104, 105, 106, 107, 108, 109, 110, 111, 112, 113, 114, 115, 116, 117, 118, 119, 120, 121, 122, 48, 49, 50, 51, 52, 53, 54, 55, 56, 57, 45, 95]
      have ha : s.data.toList.all (([97, 98, 99, 100, 101, 102, 103, 104, 105, 106, 107, 108, 109, 110, 111, 112, 113, 114, 115, 116, 117, 118, 119, 120, 121, 122, 48, 49, 50, 51, 52, 53, 54, 55, 56, 57, 45, 95] : List UInt8).contains ·) = s.data.toList.all labelByte := by
        congr 1
        funext b
        exact cutset_byte b
      rw [ha] at ht
      show (Lib.trimS s.data.toList [97, 98, 99, 100, 101, 102, 103, 104, 105, 106, 107, 108, 109, 110, 111, 112, 113, 114, 115, 116, 117, 118, 119, 120, 121, 122, 48, 49, 50, 51, 52, 53, 54, 55, 56, 57, 45, 95] == []) = _
      cases hb : s.data.toList.all labelByte with
      | true => rw [ht.2 hb]; rfl
      | false =>
        rw [beq_eq_false_iff_ne]
        intro h
        rw [ht.1 h] at hb
        cases hb
    · rw [decide_eq_false h1]
      rfl

theorem labelsOf_eq (s : ByteArray) (h : s.size < 4294967281) : impl_labelsOf.f s = some ((labelsL s.data.toList).map mkB) := by
  unfold impl_labelsOf.f labelsL strings_Split.f
  rw [Lib.toList_data]
  by_cases h0 : s.data.toList = []
  · rw [if_pos h0, if_pos h0]; rfl
  · rw [if_neg h0, if_neg h0, if_pos (show (⟨#[46]⟩ : ByteArray).size = 1 from rfl), if_pos h]; rfl

theorem good_closure (x : ByteArray) (W : World) : Calls Tryz.prog 54 #[.string x] W fun e W' => e = .returned (.bool (!isLabelL x.data.toList)) ∧ Below W.heap.size W W' :=
  impl_GoodName_1.calls x _ W (by unfold impl_GoodName_1.f; rw [isLabel_eq]; rfl)

def impl_GoodName.f (s : ByteArray) : Option Bool := some (goodL s.data.toList)

set_option maxHeartbeats 4000000 in
theorem impl_GoodName.calls (a0 : ByteArray) (r : Bool) (w : World) (h : impl_GoodName.f a0 = some r) :
    Calls Tryz.prog 30 #[.string a0] w fun e w' => e = .returned (.bool r) ∧ Below w.heap.size w w' := by
  have HG : Aside0 (goodL a0.data.toList = r) := ⟨Option.some.inj h⟩
  clear h
  by_cases h1 : 60 < a0.size
  · have hg : goodL a0.data.toList = false := by
      unfold goodL
      rw [decide_eq_false (by rw [← size_len]; omega)]
      rfl
    obtain rfl := hg.symm.trans HG.out
    have h2 : decide (60 < a0.size) = true := decide_eq_true h1
    have h3 : decide ((60 : Int) < (a0.size : Int)) = true := decide_eq_true (by omega)
    clear HG hg h1
    go_enter Tryz.func30, Tryz.ntmps30
    go_wp2
    go_ret
    exact ⟨rfl, Below.refl _ _⟩
  · have h2 : decide (60 < a0.size) = false := decide_eq_false h1
    have h3 : decide ((60 : Int) < (a0.size : Int)) = false := decide_eq_false (by omega)
    have cl := impl_labelsOf.calls a0 _ w (labelsOf_eq a0 (by omega))
    have eg : ∀ args w, (callFunc 54 args).run Tryz.prog w = .ok (.enter 54 args) w := enters_of Tryz.func54 (by kernel_rfl) rfl
    have cc := fun A c W hr => contains_str A c ((labelsL a0.data.toList).map mkB) 54 #[] (fun x => !isLabelL x.data.toList) W hr eg (fun x _ W' _ => good_closure x W')
    have hany : ((labelsL a0.data.toList).map mkB).any (fun x => !isLabelL x.data.toList) = !(labelsL a0.data.toList).all isLabelL := by
      rw [List.any_map, List.not_all_eq_any_not]
      simp [Function.comp_def, mkB_data]
    have hlen : ((labelsL a0.data.toList).map mkB).length = (labelsL a0.data.toList).length := List.length_map ..
    have hgd : goodL a0.data.toList = (decide ((labelsL a0.data.toList).length ≤ 8) && (labelsL a0.data.toList).all isLabelL) := by
      unfold goodL
      rw [decide_eq_true (by rw [← size_len]; omega), Bool.true_and]
    rw [hany] at cc
    rw [hgd] at HG
    generalize (labelsL a0.data.toList).map mkB = ls at cl cc hlen
    generalize (labelsL a0.data.toList).length = n at hlen HG
    generalize (labelsL a0.data.toList).all isLabelL = b at cc HG
    clear h1 hany hgd
    by_cases h8 : ls.length ≤ 8
    · have h8a : decide (ls.length ≤ 8) = true := decide_eq_true h8
      have h8b : decide ((ls.length : Int) ≤ 8) = true := decide_eq_true (by omega)
      have hr : b = r := by
        have := HG.out
        rwa [decide_eq_true (by omega), Bool.true_and] at this
      subst hr
      clear HG hlen h8
      go_enter Tryz.func30, Tryz.ntmps30
      go_wp2_with (first | (go_at_call 52; refine cl.mono ?_; rintro e w1 ⟨v, rfl, hR, hb⟩; obtain ⟨A, c, rfl⟩ := Kd.R_slice hR; have hC := (Kd.R_reads' hR).2.2) | (go_at_call 53; refine (cc A c _ hC).mono ?_; rintro e w2 ⟨rfl, hb2⟩))
      go_ret
      exact ⟨by simp, below_then hb hb.size hb2⟩
    · have h8a : decide (ls.length ≤ 8) = false := decide_eq_false h8
      have h8b : decide ((ls.length : Int) ≤ 8) = false := decide_eq_false (by omega)
      have hr : false = r := by
        have := HG.out
        rwa [decide_eq_false (by omega), Bool.false_and] at this
      subst hr
      clear HG hlen h8
      go_enter Tryz.func30, Tryz.ntmps30
      go_wp2_with (first | (go_at_call 52; refine cl.mono ?_; rintro e w1 ⟨v, rfl, hR, hb⟩; obtain ⟨A, c, rfl⟩ := Kd.R_slice hR; have hC := (Kd.R_reads' hR).2.2))
      go_ret
      exact ⟨rfl, hb⟩
end Go.Proofs.YtecmicedacppbaaGreatDoor.P

-- F73
-- By my own call of the kit's print (wip/tools/pp.py).
namespace Go.Proofs.YtecmicedacppbaaGreatDoor.P
open Go.RowKit Go.Proofs.YtecmicedacppbaaGreatDoorW.PrintWords Go.Proofs.YtecmicedacppbaaGreatDoorW.PrintLast Go.Proofs.YtecmicedacppbaaGreatDoorW.PrintMore
attribute [local go_sem] max2_int min2_int max_two min_two max_three min_three max_four min_four
set_option linter.unusedVariables false
set_option linter.unusedSimpArgs false

/-! ### impl_isTarget: function 73 -/
def impl_isTarget.f (a0 : ByteArray) : Option (Bool) := if a0.toList = ([] : List UInt8) then (some false) else ((impl_GoodName.f a0).bind fun t240 => (if t240 = true then ((strings_Contains.f a0 (⟨#[42]⟩ : ByteArray)).bind fun t241 => (some (!t241))) else (some false)))
set_option maxHeartbeats 8000000 in
set_option maxRecDepth 100000 in
theorem impl_isTarget.calls (a0 : ByteArray) (r : Bool) (w : World) (h : impl_isTarget.f a0 = some r) :
    Calls Tryz.prog 73 #[.string a0] w fun e w' => e = .returned (.bool r) ∧ Below w.heap.size w w' := by
  have HB := Aside0.mk (Below.refl w.heap.size w)
  have H : (if a0.toList = ([] : List UInt8) then (some false) else ((impl_GoodName.f a0).bind fun t240 => (if t240 = true then ((strings_Contains.f a0 (⟨#[42]⟩ : ByteArray)).bind fun t241 => (some (!t241))) else (some false)))) = some r := h
  clear h
  by_cases c2 : a0.toList = ([] : List UInt8)
  · rw [if_pos c2] at H
    have c2b0 : (a0.toList == ([] : List UInt8)) = true := beq_iff_eq.mpr c2
    have c2b1 : (a0.toList != ([] : List UInt8)) = false := bne_eq_false_iff_eq.mpr c2
    clear c2
    obtain rfl := Option.some.inj H
    go_enter Tryz.func73, Tryz.ntmps73
    go_wp2
    go_ret
    exact ⟨by first | rfl | (simp [errW_none, errW_some] <;> rfl) | (simp [*, errW_none, errW_some] <;> rfl), by repeat (first | (with_reducible first | exact HB.out | apply below_alloc | apply pw_below_drewN | apply below_drew1) | exact HB.out)⟩
  · rw [if_neg c2] at H
    have c2b0 : (a0.toList == ([] : List UInt8)) = false := beq_eq_false_iff_ne.mpr c2
    have c2b1 : (a0.toList != ([] : List UInt8)) = true := bne_iff_ne.mpr c2
    replace H := Option.bind_eq_some_iff.mp H
    obtain ⟨t240, A30, H⟩ := H
    replace H : (if t240 = true then ((strings_Contains.f a0 (⟨#[42]⟩ : ByteArray)).bind fun t241 => (some (!t241))) else (some false)) = some r := H
    have A3 := Aside0.mk A30
    clear A30
    by_cases c4 : t240 = true
    · subst c4
      have H1 : ((strings_Contains.f a0 (⟨#[42]⟩ : ByteArray)).bind fun t241 => (some (!t241))) = some r := by rw [if_pos rfl] at H; exact H
      clear H
      have H := H1
      clear H1
      replace H := Option.bind_eq_some_iff.mp H
      obtain ⟨t241, A50, H⟩ := H
      replace H : (some (!t241)) = some r := H
      have A5 := Aside0.mk A50
      clear A50
      obtain rfl := Option.some.inj H
      go_enter Tryz.func73, Tryz.ntmps73
      go_wp2_with (first | (go_at_call 30; (with_reducible refine (impl_GoodName.calls a0 true _ A3.out).mono ?_); rintro e w6 ⟨rfl, hb⟩; have n0_ := Aside0.mk (below_step (by repeat (first | (with_reducible first | exact HB.out | apply below_alloc | apply pw_below_drewN | apply below_drew1) | exact HB.out)) hb); clear HB; have HB := n0_; clear n0_; (try clear hb); (try clear hb2); (try clear hk); (try clear hi)) | (go_at_call 95; (with_reducible refine (strings_Contains.calls a0 (⟨#[42]⟩ : ByteArray) t241 _ A5.out).mono ?_); rintro e w' ⟨rfl, ⟨nd, rfl⟩⟩))
      go_ret
      exact ⟨by first | rfl | (simp [errW_none, errW_some] <;> rfl) | (simp [*, errW_none, errW_some] <;> rfl), by repeat (first | (with_reducible first | exact HB.out | apply below_alloc | apply pw_below_drewN | apply below_drew1) | exact HB.out)⟩
    · replace c4 := Bool.eq_false_iff.mpr c4
      subst c4
      have H1 : (some false) = some r := by rw [if_neg (show ¬ (false = true) by decide)] at H; exact H
      clear H
      have H := H1
      clear H1
      obtain rfl := Option.some.inj H
      go_enter Tryz.func73, Tryz.ntmps73
      go_wp2_with (first | (go_at_call 30; (with_reducible refine (impl_GoodName.calls a0 false _ A3.out).mono ?_); rintro e w7 ⟨rfl, hb⟩; have n0_ := Aside0.mk (below_step (by repeat (first | (with_reducible first | exact HB.out | apply below_alloc | apply pw_below_drewN | apply below_drew1) | exact HB.out)) hb); clear HB; have HB := n0_; clear n0_; (try clear hb); (try clear hb2); (try clear hk); (try clear hi)))
      go_ret
      exact ⟨by first | rfl | (simp [errW_none, errW_some] <;> rfl) | (simp [*, errW_none, errW_some] <;> rfl), by repeat (first | (with_reducible first | exact HB.out | apply below_alloc | apply pw_below_drewN | apply below_drew1) | exact HB.out)⟩

end Go.Proofs.YtecmicedacppbaaGreatDoor.P

-- F74
-- By my own call of the kit's print (wip/tools/pp.py).
namespace Go.Proofs.YtecmicedacppbaaGreatDoor.P
open Go.RowKit Go.Proofs.YtecmicedacppbaaGreatDoorW.PrintWords Go.Proofs.YtecmicedacppbaaGreatDoorW.PrintLast Go.Proofs.YtecmicedacppbaaGreatDoorW.PrintMore
attribute [local go_sem] max2_int min2_int max_two min_two max_three min_three max_four min_four
set_option linter.unusedVariables false
set_option linter.unusedSimpArgs false

/-! ### impl_labelBytes: function 74 -/
def impl_labelBytes.l0 : Nat → ByteArray → List ByteArray → Int → Int → Option (ByteArray)
  | 0, _, _, _, _ => none
  | k + 1, x3, x7, x8, x9 => if x9 < x8 then (if 0 ≤ x9 then (if x9 < (x7.length : Int) then ((some (([(((rdOf ByteArray.empty x7 x9).size : Int)) % 256] : List Int) : List Int)).bind fun y246 => (if (strOfNums y246).size + (rdOf ByteArray.empty x7 x9).size ≤ 9223372036854775807 then (if x3.size + ((strOfNums y246) ++ (rdOf ByteArray.empty x7 x9)).size ≤ 9223372036854775807 then (impl_labelBytes.l0 k (x3 ++ ((strOfNums y246) ++ (rdOf ByteArray.empty x7 x9))) x7 x8 (wrap64 (x9 + 1))) else (none)) else (none))) else (none)) else (none)) else (some x3)
def impl_labelBytes.f (k : Nat) (a0 : ByteArray) : Option (ByteArray) := (impl_labelsOf.f a0).bind fun t242 => (impl_labelBytes.l0 k (⟨#[]⟩ : ByteArray) t242 (t242.length : Int) 0)
theorem impl_labelBytes.mono_l : ∀ k, (∀ y0 y1 y2 y3, LeO (impl_labelBytes.l0 k y0 y1 y2 y3) (impl_labelBytes.l0 (k + 1) y0 y1 y2 y3))
  | 0 => fun _ _ _ _ r h => by simp [impl_labelBytes.l0] at h
  | k + 1 => by
    have ih0 := impl_labelBytes.mono_l k
    · intro y0 y1 y2 y3
      unfold impl_labelBytes.l0
      repeat' first
      | (with_reducible exact ih0 _ _ _ _)
      | (with_reducible exact LeO.refl _)
      | (with_reducible exact LeO.none _)
      | (with_reducible refine LeO.ite ?_ ?_)
      | (with_reducible refine LeO.bind ?_ (fun _ => ?_))
      | exact ih0 _ _ _ _
      | exact LeO.none _
      | refine LeO.ite ?_ ?_
      | refine LeO.bind ?_ (fun _ => ?_)
theorem impl_labelBytes.mono : ∀ a0 k, LeO (impl_labelBytes.f k a0) (impl_labelBytes.f (k + 1) a0) := by
  intro a0 k
  have ih0 := impl_labelBytes.mono_l k
  unfold impl_labelBytes.f
  repeat' first
      | (with_reducible exact ih0 _ _ _ _)
      | (with_reducible exact LeO.refl _)
      | (with_reducible exact LeO.none _)
      | (with_reducible refine LeO.ite ?_ ?_)
      | (with_reducible refine LeO.bind ?_ (fun _ => ?_))
      | exact ih0 _ _ _ _
      | exact LeO.none _
      | refine LeO.ite ?_ ?_
      | refine LeO.bind ?_ (fun _ => ?_)
set_option maxHeartbeats 8000000 in
set_option maxRecDepth 100000 in
theorem impl_labelBytes.calls (k : Nat) (a0 : ByteArray) (r : ByteArray) (w : World) (h : impl_labelBytes.f k a0 = some r) :
    Calls Tryz.prog 74 #[.string a0] w fun e w' => e = .returned (.string r) ∧ Below w.heap.size w w' := by
  have HB := Aside0.mk (Below.refl w.heap.size w)
  have H : ((impl_labelsOf.f a0).bind fun t242 => (impl_labelBytes.l0 k (⟨#[]⟩ : ByteArray) t242 (t242.length : Int) 0)) = some r := h
  clear h
  replace H := Option.bind_eq_some_iff.mp H
  obtain ⟨t242, A20, H⟩ := H
  replace H : (impl_labelBytes.l0 k (⟨#[]⟩ : ByteArray) t242 (t242.length : Int) 0) = some r := H
  have A2 := Aside0.mk A20
  clear A20
  have H' := Aside0.mk H
  clear H
  go_enter Tryz.func74, Tryz.ntmps74
  go_wp2_with (first | ((with_reducible refine gate_callee (f := 52) rfl ?_); refine goesL_ (some 7) rfl rfl Tryz.func52 (by kernel_rfl) rfl #[.string a0] rfl (by (try simp only [List.map_toArray, List.map_cons, List.map_nil]); first | done | rfl | (simp only [List.length_drop, List.length_take]; rfl)) ?_; (with_reducible refine (impl_labelsOf.calls a0 t242 _ A2.out).mono ?_); rintro e w3 ⟨v243, rfl, ho0, hb⟩; refine ⟨_, rfl, ?_⟩; have n0_ := Aside0.mk (Kd.R_lower ho0 (below_size (by repeat (first | (with_reducible first | exact HB.out | apply below_alloc | apply pw_below_drewN | apply below_drew1) | exact HB.out)))); have n1_ := Aside0.mk (below_step (by repeat (first | (with_reducible first | exact HB.out | apply below_alloc | apply pw_below_drewN | apply below_drew1) | exact HB.out)) hb); clear HB; have HO244 := n0_; have HB := n1_; clear n0_ n1_; (try clear hb); (try clear hb2); (try clear hk); (try clear hi); (try clear ho0); obtain ⟨Ao4, co4, eo4⟩ := Kd.R_slice HO244.out; subst eo4))
  go_loopg [3, 9] k (fun kq v3 v9 w' => ∃ (x3_1 : ByteArray) (x9_1 : Int), v3 = .string x3_1 ∧ v9 = .int .i64 x9_1 ∧ Aside0 (impl_labelBytes.l0 kq x3_1 t242 (t242.length : Int) x9_1 = some r) ∧ Aside0 (kq ≤ k) ∧ Aside0 (Kd.R Kd.string 9 w' w.heap.size (fun _ => True) (.slice Ao4 t242.length co4) t242) ∧ Aside0 (Below w.heap.size w w'))
  case atStart => exact ⟨((⟨#[]⟩ : ByteArray)), (0), (by first | rfl | (simp; done) | (simp [*]; done)), (by first | rfl | (simp; done) | (simp [*]; done)), H', ⟨Nat.le_refl _⟩, ⟨by (with_reducible repeat (first | apply Kd.R_alloc | apply Kd.R_drewN | apply Kd.R_drew)); exact HO244.out⟩, ⟨by repeat (first | (with_reducible first | exact HB.out | apply below_alloc | apply pw_below_drewN | apply below_drew1) | exact HB.out)⟩⟩
  case round =>
    clear H'
    try clear p2
    obtain ⟨x3_1, x9_1, rfl, rfl, HA, HK1, HO_7, HB⟩ := hrel
    cases gk with
    | zero => exact absurd HA.out (by simp [impl_labelBytes.l0])
    | succ k1 =>
      have H := HA.out
      clear HA
      simp only [impl_labelBytes.l0] at H
      by_cases c5 : x9_1 < (t242.length : Int)
      · rw [if_pos c5] at H
        have c5b0 : decide (x9_1 < (t242.length : Int)) = true := decide_eq_true c5
        clear c5
        by_cases c6 : 0 ≤ x9_1
        · rw [if_pos c6] at H
          have c6b0 : decide (0 ≤ x9_1) = true := decide_eq_true c6
          clear c6
          by_cases c7 : x9_1 < (t242.length : Int)
          · rw [if_pos c7] at H
            have c7b0 : decide (x9_1 < (t242.length : Int)) = true := decide_eq_true c7
            clear c7
            obtain ⟨y246, hy246⟩ : ∃ y_ : List Int, y_ = (([(((rdOf ByteArray.empty t242 x9_1).size : Int)) % 256] : List Int)) := ⟨_, rfl⟩
            replace H : (if (strOfNums y246).size + (rdOf ByteArray.empty t242 x9_1).size ≤ 9223372036854775807 then (if x3_1.size + ((strOfNums y246) ++ (rdOf ByteArray.empty t242 x9_1)).size ≤ 9223372036854775807 then (impl_labelBytes.l0 k1 (x3_1 ++ ((strOfNums y246) ++ (rdOf ByteArray.empty t242 x9_1))) t242 (t242.length : Int) (wrap64 (x9_1 + 1))) else (none)) else (none)) = some r := by first | (rw [hy246]; with_reducible exact H) | (have H2_ := (Option.bind_some _ _).symm.trans H; rw [hy246]; with_reducible exact H2_) | (have H2_ := (Option.bind_some _ _).symm.trans H; with_reducible exact H2_) | with_reducible exact H | (rw [hy246]; exact H) | exact H
            have Ny246 := Aside0.mk hy246
            clear hy246
            by_cases c8 : (strOfNums y246).size + (rdOf ByteArray.empty t242 x9_1).size ≤ 9223372036854775807
            · rw [if_pos c8] at H
              have c8b0 := eq_true c8
              have c8b1 : decide ((strOfNums y246).size + (rdOf ByteArray.empty t242 x9_1).size ≤ 9223372036854775807) = true := decide_eq_true c8
              try have c8b2 : (9223372036854775807 < (strOfNums y246).size + (rdOf ByteArray.empty t242 x9_1).size) = False := eq_false (Nat.not_lt.2 c8)
              by_cases c9 : x3_1.size + ((strOfNums y246) ++ (rdOf ByteArray.empty t242 x9_1)).size ≤ 9223372036854775807
              · rw [if_pos c9] at H
                have c9b0 := eq_true c9
                have c9b1 : decide (x3_1.size + ((strOfNums y246) ++ (rdOf ByteArray.empty t242 x9_1)).size ≤ 9223372036854775807) = true := decide_eq_true c9
                try have c9b2 : (9223372036854775807 < x3_1.size + ((strOfNums y246) ++ (rdOf ByteArray.empty t242 x9_1)).size) = False := eq_false (Nat.not_lt.2 c9)
                have H' := Aside0.mk H
                clear H
                have p245 : 0 ≤ (x9_1 : Int) := of_decide_eq_true (by first | (with_reducible assumption) | assumption)
                have q245 : x9_1 < (t242.length : Int) := of_decide_eq_true (by first | (with_reducible assumption) | assumption)
                obtain ⟨ad245, e245, hx245_0⟩ := Kd.at_string (Kd.R_reads' HO_7.out).2.2 x9_1 p245 q245
                cases e245
                replace p245 := eq_true p245
                replace q245 := eq_true q245
                go_wp2_with (first | ((with_reducible refine gate_dst (N := 17) rfl ?_); refine Kd.R_lit (Kd.int .u8) _ 5 ?hg (N := 17) ?hd (xs := ([(((rdOf ByteArray.empty t242 x9_1).size : Int)) % 256] : List Int)) (inner := [.int .u8 ((((rdOf ByteArray.empty t242 x9_1).size : Int)) % 256)]) (ok := fun _ => True) (okp := fun _ => True) ?hr ?hp (fun _ hk => hk) trivial (Below.refl _ _) (Nat.le_refl _) (by simp) ?_; (case hd => rfl); (case hg => rfl); (case hr => first | (go_simp; done) | (go_simp; rfl)); (case hp => exact (Reps.one (show Kd.M (Kd.int .u8) _ _ _ ((((rdOf ByteArray.empty t242 x9_1).size : Int)) % 256) [.int .u8 ((((rdOf ByteArray.empty t242 x9_1).size : Int)) % 256)] from rfl) (Reps.none _ _))); intro v247 w10 ho11 hb hg_ hnew_; clear hg_ hnew_; (first | rw [← Ny246.out] at ho11 | (simp only [Int.reduceToNat] at ho11; rw [← Ny246.out] at ho11)); have n0_ := Aside0.mk (Kd.R_below (by (with_reducible repeat (first | apply Kd.R_alloc | apply Kd.R_drewN | apply Kd.R_drew)); exact HO_7.out) hb); have n1_ := Aside0.mk (Kd.R_lower ho11 (below_size (by repeat (first | (with_reducible first | exact HB.out | apply below_alloc | apply pw_below_drewN | apply below_drew1) | exact HB.out)))); have n2_ := Aside0.mk (below_step (by repeat (first | (with_reducible first | exact HB.out | apply below_alloc | apply pw_below_drewN | apply below_drew1) | exact HB.out)) hb); clear HO_7; clear HB; have HO_7 := n0_; have HO248 := n1_; have HB := n2_; clear n0_ n1_ n2_; clear hb ho11; have hcv12 := own_string (P := Tryz.prog) Tryz.underlying59 Tryz.underlying5 Tryz.underlying9 (Kd.own_of_R HO248.out)))
                go_roundg k1
                case measure => have := HK1.out; omega
                case rel => exact ⟨(x3_1 ++ ((strOfNums y246) ++ (rdOf ByteArray.empty t242 x9_1))), (wrap64 (x9_1 + 1)), (by first | rfl | (simp; done) | (simp [*]; done)), (by first | rfl | (simp; done) | (simp [*]; done)), H', ⟨by have := HK1.out; omega⟩, ⟨by (with_reducible repeat (first | apply Kd.R_alloc | apply Kd.R_drewN | apply Kd.R_drew)); exact HO_7.out⟩, ⟨by repeat (first | (with_reducible first | exact HB.out | apply below_alloc | apply pw_below_drewN | apply below_drew1) | exact HB.out)⟩⟩
              · rw [if_neg c9] at H
                exact absurd H (by simp)
            · rw [if_neg c8] at H
              exact absurd H (by simp)
          · rw [if_neg c7] at H
            exact absurd H (by simp)
        · rw [if_neg c6] at H
          exact absurd H (by simp)
      · rw [if_neg c5] at H
        have c5b0 : decide (x9_1 < (t242.length : Int)) = false := decide_eq_false c5
        clear c5
        obtain rfl := Option.some.inj H
        go_wp2
        go_ret
        exact ⟨by first | rfl | (simp [errW_none, errW_some] <;> rfl) | (simp [*, errW_none, errW_some] <;> rfl), by repeat (first | (with_reducible first | exact HB.out | apply below_alloc | apply pw_below_drewN | apply below_drew1) | exact HB.out)⟩

end Go.Proofs.YtecmicedacppbaaGreatDoor.P

-- F96
-- By my own call of the kit's print (wip/tools/pp.py).
namespace Go.Proofs.YtecmicedacppbaaGreatDoor.P
open Go.RowKit Go.Proofs.YtecmicedacppbaaGreatDoorW.PrintWords Go.Proofs.YtecmicedacppbaaGreatDoorW.PrintLast Go.Proofs.YtecmicedacppbaaGreatDoorW.PrintMore
attribute [local go_sem] max2_int min2_int max_two min_two max_three min_three max_four min_four
set_option linter.unusedVariables false
set_option linter.unusedSimpArgs false

/-! ### stringslite_Cut: function 96 -/
def stringslite_Cut.f (a0 : ByteArray) (a1 : ByteArray) : Option (ByteArray × ByteArray × Bool) := (internal_stringslite_Index.f a0 a1).bind fun t249 => (if t249 ≥ 0 then (if 0 ≤ t249 then (if t249 ≤ (a0.size : Int) then (if 0 ≤ (wrap64 (t249 + (a1.size : Int))) then (if (wrap64 (t249 + (a1.size : Int))) ≤ (a0.size : Int) then (some (a0.extract 0 (t249 : Int).toNat, a0.extract ((wrap64 (t249 + (a1.size : Int))) : Int).toNat a0.size, true)) else (none)) else (none)) else (none)) else (none)) else (some (a0, (⟨#[]⟩ : ByteArray), false)))
set_option maxHeartbeats 8000000 in
set_option maxRecDepth 100000 in
theorem stringslite_Cut.calls (a0 : ByteArray) (a1 : ByteArray) (r1 : ByteArray) (r2 : ByteArray) (r3 : Bool) (w : World) (h : stringslite_Cut.f a0 a1 = some (r1, r2, r3)) :
    Calls Tryz.prog 96 #[.string a0, .string a1] w fun e w' => e = .returned (.tuple #[.string r1, .string r2, .bool r3]) ∧ Drawn0 w w' := by
  have H : ((internal_stringslite_Index.f a0 a1).bind fun t249 => (if t249 ≥ 0 then (if 0 ≤ t249 then (if t249 ≤ (a0.size : Int) then (if 0 ≤ (wrap64 (t249 + (a1.size : Int))) then (if (wrap64 (t249 + (a1.size : Int))) ≤ (a0.size : Int) then (some (a0.extract 0 (t249 : Int).toNat, a0.extract ((wrap64 (t249 + (a1.size : Int))) : Int).toNat a0.size, true)) else (none)) else (none)) else (none)) else (none)) else (some (a0, (⟨#[]⟩ : ByteArray), false)))) = some (r1, r2, r3) := h
  clear h
  replace H := Option.bind_eq_some_iff.mp H
  obtain ⟨t249, A30, H⟩ := H
  replace H : (if t249 ≥ 0 then (if 0 ≤ t249 then (if t249 ≤ (a0.size : Int) then (if 0 ≤ (wrap64 (t249 + (a1.size : Int))) then (if (wrap64 (t249 + (a1.size : Int))) ≤ (a0.size : Int) then (some (a0.extract 0 (t249 : Int).toNat, a0.extract ((wrap64 (t249 + (a1.size : Int))) : Int).toNat a0.size, true)) else (none)) else (none)) else (none)) else (none)) else (some (a0, (⟨#[]⟩ : ByteArray), false))) = some (r1, r2, r3) := H
  have A3 := Aside0.mk A30
  clear A30
  by_cases c4 : t249 ≥ 0
  · rw [if_pos c4] at H
    have c4b0 : decide (0 ≤ t249) = true := decide_eq_true c4
    clear c4
    by_cases c5 : 0 ≤ t249
    · rw [if_pos c5] at H
      have c5b0 := eq_true c5
      have c5b1 : decide (0 ≤ t249) = true := decide_eq_true c5
      clear c5
      by_cases c6 : t249 ≤ (a0.size : Int)
      · rw [if_pos c6] at H
        have c6b0 := eq_true c6
        have c6b1 : decide (t249 ≤ (a0.size : Int)) = true := decide_eq_true c6
        clear c6
        obtain ⟨ji7, hji7⟩ : ∃ j_ : Int, (wrap64 (t249 + (a1.size : Int))) = j_ := ⟨_, rfl⟩
        replace H : (if 0 ≤ (ji7) then (if (ji7) ≤ (a0.size : Int) then (some (a0.extract 0 (t249 : Int).toNat, a0.extract ((ji7) : Int).toNat a0.size, true)) else (none)) else (none)) = some (r1, r2, r3) := by first | (rw [hji7] at H; exact H) | (simp only [hji7] at H ⊢; exact H)
        (try rw [hji7] at A3)
        have hji7w : (IntKind.i64.wrap (t249 + (a1.size : Int))) = ji7 := (i64_w _).trans hji7
        by_cases c8 : 0 ≤ (ji7)
        · rw [if_pos c8] at H
          have c8b0 := eq_true c8
          have c8b1 : decide (0 ≤ (ji7)) = true := decide_eq_true c8
          clear c8
          by_cases c9 : (ji7) ≤ (a0.size : Int)
          · rw [if_pos c9] at H
            have c9b0 := eq_true c9
            have c9b1 : decide ((ji7) ≤ (a0.size : Int)) = true := decide_eq_true c9
            clear c9
            simp only [Option.some.injEq, Prod.mk.injEq] at H
            obtain ⟨rfl, rfl, rfl⟩ := H
            go_enter Tryz.func96, Tryz.ntmps96
            go_wp2_with (first | (go_at_call 120; (with_reducible refine (internal_stringslite_Index.calls a0 a1 t249 _ A3.out).mono ?_); rintro e w' ⟨rfl, ⟨nd, rfl⟩⟩; (try first | exact ⟨rfl, _, World.drewN_drewN _ _ _⟩ | exact ⟨rfl, _, Eq.trans (World.drewN_drewN _ _ _) (congrArg (World.drewN _) (Nat.add_assoc _ _ _))⟩)))
            repeat (go_quiet (first | (go_at_call 120; (with_reducible refine (internal_stringslite_Index.calls a0 a1 t249 _ A3.out).mono ?_); rintro e w' ⟨rfl, ⟨nd, rfl⟩⟩; (try first | exact ⟨rfl, _, World.drewN_drewN _ _ _⟩ | exact ⟨rfl, _, Eq.trans (World.drewN_drewN _ _ _) (congrArg (World.drewN _) (Nat.add_assoc _ _ _))⟩))); try go_wp2_with (first | (go_at_call 120; (with_reducible refine (internal_stringslite_Index.calls a0 a1 t249 _ A3.out).mono ?_); rintro e w' ⟨rfl, ⟨nd, rfl⟩⟩; (try first | exact ⟨rfl, _, World.drewN_drewN _ _ _⟩ | exact ⟨rfl, _, Eq.trans (World.drewN_drewN _ _ _) (congrArg (World.drewN _) (Nat.add_assoc _ _ _))⟩))))
            go_ret3
            exact ⟨by first | rfl | (simp; done) | (simp only [← hji7] <;> (first | rfl | simp)) | (simp [*]; done), by repeat (first | exact Drawn0.refl _ | apply Drawn0.step)⟩
          · rw [if_neg c9] at H
            exact absurd H (by simp)
        · rw [if_neg c8] at H
          exact absurd H (by simp)
      · rw [if_neg c6] at H
        exact absurd H (by simp)
    · rw [if_neg c5] at H
      exact absurd H (by simp)
  · rw [if_neg c4] at H
    have c4b0 : decide (0 ≤ t249) = false := decide_eq_false c4
    clear c4
    simp only [Option.some.injEq, Prod.mk.injEq] at H
    obtain ⟨rfl, rfl, rfl⟩ := H
    go_enter Tryz.func96, Tryz.ntmps96
    go_wp2_with (first | (go_at_call 120; (with_reducible refine (internal_stringslite_Index.calls a0 a1 t249 _ A3.out).mono ?_); rintro e w' ⟨rfl, ⟨nd, rfl⟩⟩; (try first | exact ⟨rfl, _, World.drewN_drewN _ _ _⟩ | exact ⟨rfl, _, Eq.trans (World.drewN_drewN _ _ _) (congrArg (World.drewN _) (Nat.add_assoc _ _ _))⟩)))
    repeat (go_quiet (first | (go_at_call 120; (with_reducible refine (internal_stringslite_Index.calls a0 a1 t249 _ A3.out).mono ?_); rintro e w' ⟨rfl, ⟨nd, rfl⟩⟩; (try first | exact ⟨rfl, _, World.drewN_drewN _ _ _⟩ | exact ⟨rfl, _, Eq.trans (World.drewN_drewN _ _ _) (congrArg (World.drewN _) (Nat.add_assoc _ _ _))⟩))); try go_wp2_with (first | (go_at_call 120; (with_reducible refine (internal_stringslite_Index.calls a0 a1 t249 _ A3.out).mono ?_); rintro e w' ⟨rfl, ⟨nd, rfl⟩⟩; (try first | exact ⟨rfl, _, World.drewN_drewN _ _ _⟩ | exact ⟨rfl, _, Eq.trans (World.drewN_drewN _ _ _) (congrArg (World.drewN _) (Nat.add_assoc _ _ _))⟩))))
    go_ret3
    exact ⟨by first | rfl | (simp; done) | (simp [*]; done), by repeat (first | exact Drawn0.refl _ | apply Drawn0.step)⟩

end Go.Proofs.YtecmicedacppbaaGreatDoor.P

-- F75
-- By my own call of the kit's print (wip/tools/pp.py).
namespace Go.Proofs.YtecmicedacppbaaGreatDoor.P
open Go.RowKit Go.Proofs.YtecmicedacppbaaGreatDoorW.PrintWords Go.Proofs.YtecmicedacppbaaGreatDoorW.PrintLast Go.Proofs.YtecmicedacppbaaGreatDoorW.PrintMore
attribute [local go_sem] max2_int min2_int max_two min_two max_three min_three max_four min_four
set_option linter.unusedVariables false
set_option linter.unusedSimpArgs false

/-! ### strings_Cut: function 75 -/
def strings_Cut.f (a0 : ByteArray) (a1 : ByteArray) : Option (ByteArray × ByteArray × Bool) := (stringslite_Cut.f a0 a1).bind fun bt250 => (some (bt250.1, bt250.2.1, bt250.2.2))
set_option maxHeartbeats 8000000 in
set_option maxRecDepth 100000 in
theorem strings_Cut.calls (a0 : ByteArray) (a1 : ByteArray) (r1 : ByteArray) (r2 : ByteArray) (r3 : Bool) (w : World) (h : strings_Cut.f a0 a1 = some (r1, r2, r3)) :
    Calls Tryz.prog 75 #[.string a0, .string a1] w fun e w' => e = .returned (.tuple #[.string r1, .string r2, .bool r3]) ∧ Drawn0 w w' := by
  have H : ((stringslite_Cut.f a0 a1).bind fun bt250 => (some (bt250.1, bt250.2.1, bt250.2.2))) = some (r1, r2, r3) := h
  clear h
  replace H := Option.bind_eq_some_iff.mp H
  obtain ⟨⟨t250, t251, t252⟩, A30, H⟩ := H
  replace H : (some (t250, t251, t252)) = some (r1, r2, r3) := H
  have A3 := Aside0.mk A30
  clear A30
  simp only [Option.some.injEq, Prod.mk.injEq] at H
  obtain ⟨rfl, rfl, rfl⟩ := H
  go_enter Tryz.func75, Tryz.ntmps75
  go_wp2_with (first | ((with_reducible refine gate_callee (f := 96) rfl ?_); refine goesL_ (some 9) rfl rfl Tryz.func96 (by kernel_rfl) rfl #[.string a0, .string a1] rfl (by (try simp only [List.map_toArray, List.map_cons, List.map_nil]); first | done | rfl | (simp only [List.length_drop, List.length_take]; rfl)) ?_; (with_reducible refine (stringslite_Cut.calls a0 a1 t250 t251 t252 _ A3.out).mono ?_); rintro e w' ⟨rfl, ⟨nd, rfl⟩⟩; refine ⟨_, rfl, ?_⟩))
  go_ret3
  exact ⟨by first | rfl | (simp; done) | (simp [*]; done), by repeat (first | exact Drawn0.refl _ | apply Drawn0.step)⟩

end Go.Proofs.YtecmicedacppbaaGreatDoor.P

-- F77
-- By my own call of the kit's print (wip/tools/pp.py).
namespace Go.Proofs.YtecmicedacppbaaGreatDoor.P
open Go.RowKit Go.Proofs.YtecmicedacppbaaGreatDoorW.PrintWords Go.Proofs.YtecmicedacppbaaGreatDoorW.PrintLast Go.Proofs.YtecmicedacppbaaGreatDoorW.PrintMore
attribute [local go_sem] max2_int min2_int max_two min_two max_three min_three max_four min_four
set_option linter.unusedVariables false
set_option linter.unusedSimpArgs false

/-! ### impl_DataBytes_1: function 77 -/
def impl_DataBytes_1.f (a0 : Int) : Option (Bool) := if a0 < 32 then (some true) else (some (decide (a0 > 126)))
set_option maxHeartbeats 8000000 in
set_option maxRecDepth 100000 in
theorem impl_DataBytes_1.calls (a0 : Int) (r : Bool) (w : World) (h : impl_DataBytes_1.f a0 = some r) :
    Calls Tryz.prog 77 #[.int .u8 a0] w fun e w' => e = .returned (.bool r) ∧ Drawn0 w w' := by
  have H : (if a0 < 32 then (some true) else (some (decide (a0 > 126)))) = some r := h
  clear h
  by_cases c2 : a0 < 32
  · rw [if_pos c2] at H
    have c2b0 : decide (a0 < 32) = true := decide_eq_true c2
    clear c2
    obtain rfl := Option.some.inj H
    go_enter Tryz.func77, Tryz.ntmps77
    go_wp2
    go_ret
    exact ⟨by first | rfl | (simp; done) | (simp [*]; done), by repeat (first | exact Drawn0.refl _ | apply Drawn0.step)⟩
  · rw [if_neg c2] at H
    have c2b0 : decide (a0 < 32) = false := decide_eq_false c2
    clear c2
    obtain rfl := Option.some.inj H
    go_enter Tryz.func77, Tryz.ntmps77
    go_wp2
    go_ret
    exact ⟨by first | rfl | (simp; done) | (simp [*]; done), by repeat (first | exact Drawn0.refl _ | apply Drawn0.step)⟩

end Go.Proofs.YtecmicedacppbaaGreatDoor.P
