/- FnRecords: part 19 of 29 of my texts for this claim, joined; the theorem stands in the last. Conditions: none beyond the statement's. -/
import Derived.Test.YtiegkjimpclmaaaGreatDoorMFnRecordsx16
namespace Go.Proofs.YtiegkjimpclmaaaGreatDoor.P
open Go.RowKit Go.Proofs.YtiegkjimpclmaaaGreatDoorW.PrintWords Go.Proofs.YtiegkjimpclmaaaGreatDoorW.PrintLast Go.Proofs.YtiegkjimpclmaaaGreatDoorW.PrintMore
attribute [local go_sem] max2_int min2_int max_two min_two max_three min_three max_four min_four
set_option linter.unusedVariables false
set_option linter.unusedSimpArgs false
attribute [-simp] ByteArray.size_extract
mutual
def spec_l2Take.l0 : Nat → ByteArray → Int → List ByteArray → List Int → Int → Int → Option (ByteArray × Int × List Int × Bool)
 | 0, _, _, _, _, _, _ => none
 | k + 1, x0, x1, x8, x9, x10, x11 => if (x8.length : Int) ≤ 8 then (if x1 ≥ (x0.size : Int) then (some ((⟨#[]⟩ : ByteArray), 0, ([] : List Int), false)) else (if 0 ≤ x1 then (if x1 < (x0.size : Int) then (if (wrap64 (bt x0 x1)) ≥ 192 then (if (wrap64 (x1 + 1)) ≥ (x0.size : Int) then (some ((⟨#[]⟩ : ByteArray), 0, ([] : List Int), false)) else (if x11 < 0 then (if 0 ≤ (wrap64 (x1 + 1)) then (if (wrap64 (x1 + 1)) < (x0.size : Int) then (if (wrap64 ((wrap64 ((wrap64 ((wrap64 (bt x0 x1)) - 192)) * 256)) + (wrap64 (bt x0 (wrap64 (x1 + 1)))))) ≥ x10 then (some ((⟨#[]⟩ : ByteArray), 0, ([] : List Int), false)) else (spec_l2Take.l0 k x0 (wrap64 ((wrap64 ((wrap64 ((wrap64 (bt x0 x1)) - 192)) * 256)) + (wrap64 (bt x0 (wrap64 (x1 + 1)))))) x8 x9 (wrap64 ((wrap64 ((wrap64 ((wrap64 (bt x0 x1)) - 192)) * 256)) + (wrap64 (bt x0 (wrap64 (x1 + 1)))))) (wrap64 (x1 + 2)))) else (none)) else (none)) else (if 0 ≤ (wrap64 (x1 + 1)) then (if (wrap64 (x1 + 1)) < (x0.size : Int) then (if (wrap64 ((wrap64 ((wrap64 ((wrap64 (bt x0 x1)) - 192)) * 256)) + (wrap64 (bt x0 (wrap64 (x1 + 1)))))) ≥ x10 then (some ((⟨#[]⟩ : ByteArray), 0, ([] : List Int), false)) else (spec_l2Take.l0 k x0 (wrap64 ((wrap64 ((wrap64 ((wrap64 (bt x0 x1)) - 192)) * 256)) + (wrap64 (bt x0 (wrap64 (x1 + 1)))))) x8 x9 (wrap64 ((wrap64 ((wrap64 ((wrap64 (bt x0 x1)) - 192)) * 256)) + (wrap64 (bt x0 (wrap64 (x1 + 1)))))) x11)) else (none)) else (none)))) else (if (wrap64 (bt x0 x1)) = 0 then (if x11 < 0 then ((spec_l1Join.f k x8).bind fun t125 => ((spec_FoldName.f t125).bind fun bt126 => (some (bt126.1, wrap64 (x1 + 1), x9, bt126.2)))) else ((spec_l1Join.f k x8).bind fun t128 => ((spec_FoldName.f t128).bind fun bt129 => (some (bt129.1, x11, x9, bt129.2))))) else (if (wrap64 (bt x0 x1)) > 20 then (spec_l2Take.j1 k x0 x1 x8 x9 x10 x11 (wrap64 (bt x0 x1)) true) else (spec_l2Take.j1 k x0 x1 x8 x9 x10 x11 (wrap64 (bt x0 x1)) (decide ((wrap64 ((wrap64 (x1 + 1)) + (wrap64 (bt x0 x1)))) > (x0.size : Int))))))) else (none)) else (none))) else (some ((⟨#[]⟩ : ByteArray), 0, ([] : List Int), false))
def spec_l2Take.j1 : Nat → ByteArray → Int → List ByteArray → List Int → Int → Int → Int → Bool → Option (ByteArray × Int × List Int × Bool)
 | 0, _, _, _, _, _, _, _, _ => none
 | k + 1, x0, x1, x8, x9, x10, x11, x12, x79 => if x79 = true then (some ((⟨#[]⟩ : ByteArray), 0, ([] : List Int), false)) else (if x11 < 0 then (if x9.length < 17592186044416 then (spec_l2Take.j2 k x0 x1 x8 (x9 ++ [x1]) x10 x11 x12) else (none)) else (spec_l2Take.j2 k x0 x1 x8 x9 x10 x11 x12))
def spec_l2Take.j2 : Nat → ByteArray → Int → List ByteArray → List Int → Int → Int → Int → Option (ByteArray × Int × List Int × Bool)
 | 0, _, _, _, _, _, _, _ => none
 | k + 1, x0, x1, x8, x9, x10, x11, x12 => if 0 ≤ (wrap64 (x1 + 1)) then (if (wrap64 (x1 + 1)) ≤ (wrap64 ((wrap64 (x1 + 1)) + x12)) then (if (wrap64 ((wrap64 (x1 + 1)) + x12)) ≤ (x0.size : Int) then (spec_l2Take.l1 k x0 x1 x8 x9 x10 x11 x12 (x0.extract ((wrap64 (x1 + 1)) : Int).toNat ((wrap64 ((wrap64 (x1 + 1)) + x12)) : Int).toNat) 0) else (none)) else (none)) else (none)
def spec_l2Take.l1 : Nat → ByteArray → Int → List ByteArray → List Int → Int → Int → Int → ByteArray → Int → Option (ByteArray × Int × List Int × Bool)
 | 0, _, _, _, _, _, _, _, _, _ => none
 | k + 1, x0, x1, x8, x9, x10, x11, x12, x15, x16 => if x16 < x12 then (if 0 ≤ x16 then (if x16 < (x15.size : Int) then (if (bt x15 x16) = 46 then (some ((⟨#[]⟩ : ByteArray), 0, ([] : List Int), false)) else (spec_l2Take.l1 k x0 x1 x8 x9 x10 x11 x12 x15 (wrap64 (x16 + 1)))) else (none)) else (none)) else (if x8.length < 8796093022208 then (spec_l2Take.l0 k x0 (wrap64 (x1 + (wrap64 (1 + x12)))) (x8 ++ [x15]) x9 x10 x11) else (none))
end
def spec_l2Take.f (k : Nat) (a0 : ByteArray) (a1 : Int) : Option (ByteArray × Int × List Int × Bool) := spec_l2Take.l0 k a0 a1 ([] : List ByteArray) ([] : List Int) a1 (-1)
theorem spec_l2Take.mono_l : ∀ k, (∀ y0 y1 y2 y3 y4 y5, LeO (spec_l2Take.l0 k y0 y1 y2 y3 y4 y5) (spec_l2Take.l0 (k + 1) y0 y1 y2 y3 y4 y5)) ∧ (∀ y0 y1 y2 y3 y4 y5 y6 y7, LeO (spec_l2Take.j1 k y0 y1 y2 y3 y4 y5 y6 y7) (spec_l2Take.j1 (k + 1) y0 y1 y2 y3 y4 y5 y6 y7)) ∧ (∀ y0 y1 y2 y3 y4 y5 y6, LeO (spec_l2Take.j2 k y0 y1 y2 y3 y4 y5 y6) (spec_l2Take.j2 (k + 1) y0 y1 y2 y3 y4 y5 y6)) ∧ (∀ y0 y1 y2 y3 y4 y5 y6 y7 y8, LeO (spec_l2Take.l1 k y0 y1 y2 y3 y4 y5 y6 y7 y8) (spec_l2Take.l1 (k + 1) y0 y1 y2 y3 y4 y5 y6 y7 y8))
 | 0 => ⟨fun _ _ _ _ _ _ r h => by simp [spec_l2Take.l0] at h, fun _ _ _ _ _ _ _ _ r h => by simp [spec_l2Take.j1] at h, fun _ _ _ _ _ _ _ r h => by simp [spec_l2Take.j2] at h, fun _ _ _ _ _ _ _ _ _ r h => by simp [spec_l2Take.l1] at h⟩
 | k + 1 => by
  obtain ⟨ih0, ih1, ih2, ih3⟩ := spec_l2Take.mono_l k
  refine ⟨?_, ?_, ?_, ?_⟩
  · intro y0 y1 y2 y3 y4 y5
    unfold spec_l2Take.l0
    repeat' first
    | (with_reducible exact ih0 _ _ _ _ _ _)
    | (with_reducible exact ih1 _ _ _ _ _ _ _ _)
    | (with_reducible exact ih2 _ _ _ _ _ _ _)
    | (with_reducible exact ih3 _ _ _ _ _ _ _ _ _)
    | (with_reducible exact spec_l1Join.mono _ _)
    | (with_reducible exact LeO.refl _)
    | (with_reducible exact LeO.none _)
    | (with_reducible refine LeO.ite ?_ ?_)
    | (with_reducible refine LeO.bind ?_ (fun _ => ?_))
    | exact ih0 _ _ _ _ _ _
    | exact ih1 _ _ _ _ _ _ _ _
    | exact ih2 _ _ _ _ _ _ _
    | exact ih3 _ _ _ _ _ _ _ _ _
    | exact spec_l1Join.mono _ _
    | exact LeO.none _
    | refine LeO.ite ?_ ?_
    | refine LeO.bind ?_ (fun _ => ?_)
  · intro y0 y1 y2 y3 y4 y5 y6 y7
    unfold spec_l2Take.j1
    repeat' first
    | (with_reducible exact ih0 _ _ _ _ _ _)
    | (with_reducible exact ih1 _ _ _ _ _ _ _ _)
    | (with_reducible exact ih2 _ _ _ _ _ _ _)
    | (with_reducible exact ih3 _ _ _ _ _ _ _ _ _)
    | (with_reducible exact spec_l1Join.mono _ _)
    | (with_reducible exact LeO.refl _)
    | (with_reducible exact LeO.none _)
    | (with_reducible refine LeO.ite ?_ ?_)
    | (with_reducible refine LeO.bind ?_ (fun _ => ?_))
    | exact ih0 _ _ _ _ _ _
    | exact ih1 _ _ _ _ _ _ _ _
    | exact ih2 _ _ _ _ _ _ _
    | exact ih3 _ _ _ _ _ _ _ _ _
    | exact spec_l1Join.mono _ _
    | exact LeO.none _
    | refine LeO.ite ?_ ?_
    | refine LeO.bind ?_ (fun _ => ?_)
  · intro y0 y1 y2 y3 y4 y5 y6
    unfold spec_l2Take.j2
    repeat' first
    | (with_reducible exact ih0 _ _ _ _ _ _)
    | (with_reducible exact ih1 _ _ _ _ _ _ _ _)
    | (with_reducible exact ih2 _ _ _ _ _ _ _)
    | (with_reducible exact ih3 _ _ _ _ _ _ _ _ _)
    | (with_reducible exact spec_l1Join.mono _ _)
    | (with_reducible exact LeO.refl _)
    | (with_reducible exact LeO.none _)
    | (with_reducible refine LeO.ite ?_ ?_)
    | (with_reducible refine LeO.bind ?_ (fun _ => ?_))
    | exact ih0 _ _ _ _ _ _
    | exact ih1 _ _ _ _ _ _ _ _
    | exact ih2 _ _ _ _ _ _ _
    | exact ih3 _ _ _ _ _ _ _ _ _
    | exact spec_l1Join.mono _ _
    | exact LeO.none _
    | refine LeO.ite ?_ ?_
    | refine LeO.bind ?_ (fun _ => ?_)
  · intro y0 y1 y2 y3 y4 y5 y6 y7 y8
    unfold spec_l2Take.l1
    repeat' first
    | (with_reducible exact ih0 _ _ _ _ _ _)
    | (with_reducible exact ih1 _ _ _ _ _ _ _ _)
    | (with_reducible exact ih2 _ _ _ _ _ _ _)
    | (with_reducible exact ih3 _ _ _ _ _ _ _ _ _)
    | (with_reducible exact spec_l1Join.mono _ _)
    | (with_reducible exact LeO.refl _)
    | (with_reducible exact LeO.none _)
    | (with_reducible refine LeO.ite ?_ ?_)
    | (with_reducible refine LeO.bind ?_ (fun _ => ?_))
    | exact ih0 _ _ _ _ _ _
    | exact ih1 _ _ _ _ _ _ _ _
    | exact ih2 _ _ _ _ _ _ _
    | exact ih3 _ _ _ _ _ _ _ _ _
    | exact spec_l1Join.mono _ _
    | exact LeO.none _
    | refine LeO.ite ?_ ?_
    | refine LeO.bind ?_ (fun _ => ?_)
set_option maxHeartbeats 8000000 in
set_option maxRecDepth 100000 in
theorem spec_l2Take.calls (k : Nat) (a0 : ByteArray) (a1 : Int) (r1 : ByteArray) (r2 : Int) (r3 : List Int) (r4 : Bool) (w : World) (h : spec_l2Take.f k a0 a1 = some (r1, r2, r3, r4)) :
 Calls Tryz.prog 115 #[.string a0, .int .i64 a1] w fun e w' => ∃ v2_ : Value, e = .returned (.tuple #[.string r1, .int .i64 r2, v2_, .bool r4]) ∧ Kd.R (Kd.int .i64) 3 w' w.heap.size (fun _ => True) v2_ r3 ∧ Below w.heap.size w w' := by
 have HB := a0_ (Below.refl w.heap.size w)
 have H := h
 clear h
 unfold spec_l2Take.f at H
 have H' := a0_ H
 clear H
 go_enter Tryz.func115, Tryz.ntmps115
 go_wp2
 go_loopg [1, 8, 9, 10, 11] k (fun kq v1 v8 v9 v10 v11 w' => ∃ (x1_1 : Int) (x8_1 : List ByteArray) (x9_1 : List Int) (x10_1 : Int) (x11_1 : Int), v1 = .int .i64 x1_1 ∧ v10 = .int .i64 x10_1 ∧ v11 = .int .i64 x11_1 ∧ Aside0 (spec_l2Take.l0 kq a0 x1_1 x8_1 x9_1 x10_1 x11_1 = some (r1, r2, r3, r4)) ∧ Aside0 (kq ≤ k) ∧ Aside0 (Kd.R Kd.string 9 w' w.heap.size (fun _ => True) v8 x8_1) ∧ Aside0 (Kd.R (Kd.int .i64) 3 w' w.heap.size (fun _ => True) v9 x9_1) ∧ Aside0 (Below w.heap.size w w'))
 case atStart => exact ⟨(a1), (([] : List ByteArray)), (([] : List Int)), (a1), ((-1)), rs_, rs_, rs_, H', ⟨Nat.le_refl _⟩, ⟨by first | exact Kd.R_nil _ _ _ _ _ | exact Kd.N_nil _ _ _ _ _ | exact Kd.V_nil _ _ _ _ _ | exact Kd.Q_nil _ _ _ _ _ | exact Kd.S_nil _ _ _ _ _⟩, ⟨by first | exact Kd.R_nil _ _ _ _ _ | exact Kd.N_nil _ _ _ _ _ | exact Kd.V_nil _ _ _ _ _ | exact Kd.Q_nil _ _ _ _ _ | exact Kd.S_nil _ _ _ _ _⟩, ⟨bq0_⟩⟩
 case round =>
  clear H'
  obtain ⟨x1_1, x8_1, x9_1, x10_1, x11_1, rfl, rfl, rfl, HA, HK1, HO_8, HO_9, HB⟩ := hrel
  cases gk with
  | zero => exact absurd HA.out (by simp [spec_l2Take.l0])
  | succ k1 =>
   have H := HA.out
   clear HA
   simp only [spec_l2Take.l0] at H
   by_cases c3 : (x8_1.length : Int) ≤ 8
   case neg =>
    rw [if_neg c3] at H
    have c3b0 := decide_eq_false c3
    have c3b1 : decide (x8_1.length ≤ 8) = false := decide_eq_false (by omega)
    clear c3
    simp only [Option.some.injEq, Prod.mk.injEq] at H
    obtain ⟨rfl, rfl, rfl, rfl⟩ := H
    obtain ⟨Ao56, co56, eo56⟩ := Kd.R_slice HO_8.out
    subst eo56
    go_wp2
    refine bodyPost_ret (results_list (rs := [.tmp 4, .tmp 5, .tmp 6, .tmp 7]) rfl (by simp) (.tmp (.tmp (.tmp (.tmp .nil))))) rfl ?_
    exact ⟨_, rr_, by first | exact Kd.R_nil _ _ _ _ _ | exact Kd.N_nil _ _ _ _ _ | exact Kd.V_nil _ _ _ _ _ | exact Kd.Q_nil _ _ _ _ _ | exact Kd.S_nil _ _ _ _ _, bq0_⟩
   rw [if_pos c3] at H
   have c3b0 := decide_eq_true c3
   have c3b1 : decide (x8_1.length ≤ 8) = true := decide_eq_true (by omega)
   clear c3
   by_cases c4 : x1_1 ≥ (a0.size : Int)
   case pos =>
    rw [if_pos c4] at H
    have c4b0 := decide_eq_true c4
    clear c4
    simp only [Option.some.injEq, Prod.mk.injEq] at H
    obtain ⟨rfl, rfl, rfl, rfl⟩ := H
    obtain ⟨Ao5, co5, eo5⟩ := Kd.R_slice HO_8.out
    subst eo5
    go_wp2
    refine bodyPost_ret (results_list (rs := [.tmp 4, .tmp 5, .tmp 6, .tmp 7]) rfl (by simp) (.tmp (.tmp (.tmp (.tmp .nil))))) rfl ?_
    exact ⟨_, rr_, by first | exact Kd.R_nil _ _ _ _ _ | exact Kd.N_nil _ _ _ _ _ | exact Kd.V_nil _ _ _ _ _ | exact Kd.Q_nil _ _ _ _ _ | exact Kd.S_nil _ _ _ _ _, bq0_⟩
   rw [if_neg c4] at H
   have c4b0 := decide_eq_false c4
   clear c4
   by_cases c6 : 0 ≤ x1_1
   case neg =>
    rw [if_neg c6] at H
    exact absurd H (by simp)
   rw [if_pos c6] at H
   have c6b0 := decide_eq_true c6
   clear c6
   by_cases c7 : x1_1 < (a0.size : Int)
   case neg =>
    rw [if_neg c7] at H
    exact absurd H (by simp)
   rw [if_pos c7] at H
   have c7b0 := decide_eq_true c7
   clear c7
   by_cases c9 : (wrap64 (bt a0 x1_1)) ≥ 192
   case pos =>
    rw [if_pos c9] at H
    have c9b0 := decide_eq_true c9
    clear c9
    by_cases c10 : (wrap64 (x1_1 + 1)) ≥ (a0.size : Int)
    case pos =>
     rw [if_pos c10] at H
     have c10b0 := decide_eq_true c10
     clear c10
     simp only [Option.some.injEq, Prod.mk.injEq] at H
     obtain ⟨rfl, rfl, rfl, rfl⟩ := H
     obtain ⟨Ao11, co11, eo11⟩ := Kd.R_slice HO_8.out
     subst eo11
     have p8 : 0 ≤ (x1_1 : Int) := dec_
     have q8 : x1_1 < (a0.size : Int) := dec_
     have hx8 := bt_at a0 x1_1
     replace p8 := eq_true p8
     replace q8 := eq_true q8
     go_wp2
     refine bodyPost_ret (results_list (rs := [.tmp 4, .tmp 5, .tmp 6, .tmp 7]) rfl (by simp) (.tmp (.tmp (.tmp (.tmp .nil))))) rfl ?_
     exact ⟨_, rr_, by first | exact Kd.R_nil _ _ _ _ _ | exact Kd.N_nil _ _ _ _ _ | exact Kd.V_nil _ _ _ _ _ | exact Kd.Q_nil _ _ _ _ _ | exact Kd.S_nil _ _ _ _ _, bq0_⟩
    rw [if_neg c10] at H
    have c10b0 := decide_eq_false c10
    clear c10
    by_cases c12 : x11_1 < 0
    case neg =>
     rw [if_neg c12] at H
     have c12b0 := decide_eq_false c12
     clear c12
     obtain ⟨ji20, hji20⟩ : ∃ j_ : Int, (wrap64 (x1_1 + 1)) = j_ := ⟨_, rfl⟩
     (first | rw [hji20] at H | simp only [hji20] at H)
     (try rw [hji20] at c10b0)
     have hji20w : (IntKind.i64.wrap (x1_1 + 1)) = ji20 := (i64_w _).trans hji20
     by_cases c21 : 0 ≤ (ji20)
     case neg =>
      rw [if_neg c21] at H
      exact absurd H (by simp)
     rw [if_pos c21] at H
     have c21b0 := decide_eq_true c21
     clear c21
     by_cases c22 : (ji20) < (a0.size : Int)
     case neg =>
      rw [if_neg c22] at H
      exact absurd H (by simp)
     rw [if_pos c22] at H
     have c22b0 := decide_eq_true c22
     clear c22
     by_cases c24 : (wrap64 ((wrap64 ((wrap64 ((wrap64 (bt a0 x1_1)) - 192)) * 256)) + (wrap64 (bt a0 (ji20))))) ≥ x10_1
     case pos =>
      rw [if_pos c24] at H
      have c24b0 := decide_eq_true c24
      clear c24
      simp only [Option.some.injEq, Prod.mk.injEq] at H
      obtain ⟨rfl, rfl, rfl, rfl⟩ := H
      obtain ⟨Ao25, co25, eo25⟩ := Kd.R_slice HO_8.out
      subst eo25
      have p8 : 0 ≤ (x1_1 : Int) := dec_
      have q8 : x1_1 < (a0.size : Int) := dec_
      have hx8 := bt_at a0 x1_1
      replace p8 := eq_true p8
      replace q8 := eq_true q8
      have p23 : 0 ≤ ((ji20) : Int) := dec_
      have q23 : (ji20) < (a0.size : Int) := dec_
      have hx23 := bt_at a0 (ji20)
      replace p23 := eq_true p23
      replace q23 := eq_true q23
      go_wp2
      refine bodyPost_ret (results_list (rs := [.tmp 4, .tmp 5, .tmp 6, .tmp 7]) rfl (by simp) (.tmp (.tmp (.tmp (.tmp .nil))))) rfl ?_
      exact ⟨_, by first | rfl | (simp [errW_none, errW_some] <;> rfl) | (simp only [← hji20]; first | rfl | (simp [errW_none, errW_some] <;> rfl)) | (simp [*, errW_none, errW_some] <;> rfl), by first | exact Kd.R_nil _ _ _ _ _ | exact Kd.N_nil _ _ _ _ _ | exact Kd.V_nil _ _ _ _ _ | exact Kd.Q_nil _ _ _ _ _ | exact Kd.S_nil _ _ _ _ _, bq0_⟩
     rw [if_neg c24] at H
     have c24b0 := decide_eq_false c24
     clear c24
     have H' := a0_ H
     clear H
     obtain ⟨Ao26, co26, eo26⟩ := Kd.R_slice HO_8.out
     subst eo26
     have p8 : 0 ≤ (x1_1 : Int) := dec_
     have q8 : x1_1 < (a0.size : Int) := dec_
     have hx8 := bt_at a0 x1_1
     replace p8 := eq_true p8
     replace q8 := eq_true q8
     have p23 : 0 ≤ ((ji20) : Int) := dec_
     have q23 : (ji20) < (a0.size : Int) := dec_
     have hx23 := bt_at a0 (ji20)
     replace p23 := eq_true p23
     replace q23 := eq_true q23
     go_wp2
     go_roundg k1
     case measure => have := HK1.out; omega
     case rel => exact ⟨(wrap64 ((wrap64 ((wrap64 ((wrap64 (bt a0 x1_1)) - 192)) * 256)) + (wrap64 (bt a0 (ji20))))), (x8_1), (x9_1), (wrap64 ((wrap64 ((wrap64 ((wrap64 (bt a0 x1_1)) - 192)) * 256)) + (wrap64 (bt a0 (ji20))))), (x11_1), (by first | rfl | (simp; done) | (simp only [← hji20] <;> (first | rfl | simp)) | (simp [*]; done)), (by first | rfl | (simp; done) | (simp only [← hji20] <;> (first | rfl | simp)) | (simp [*]; done)), rs_, H', ⟨by have := HK1.out; omega⟩, ⟨by (with_reducible repeat (first | apply Kd.R_alloc | apply Kd.R_drewN | apply Kd.R_drew)); exact HO_8.out⟩, ⟨by (with_reducible repeat (first | apply Kd.R_alloc | apply Kd.R_drewN | apply Kd.R_drew)); exact HO_9.out⟩, ⟨bq0_⟩⟩
    rw [if_pos c12] at H
    have c12b0 := decide_eq_true c12
    clear c12
    obtain ⟨ji13, hji13⟩ : ∃ j_ : Int, (wrap64 (x1_1 + 1)) = j_ := ⟨_, rfl⟩
    (first | rw [hji13] at H | simp only [hji13] at H)
    (try rw [hji13] at c10b0)
    have hji13w : (IntKind.i64.wrap (x1_1 + 1)) = ji13 := (i64_w _).trans hji13
    by_cases c14 : 0 ≤ (ji13)
    case neg =>
     rw [if_neg c14] at H
     exact absurd H (by simp)
    rw [if_pos c14] at H
    have c14b0 := decide_eq_true c14
    clear c14
    by_cases c15 : (ji13) < (a0.size : Int)
    case neg =>
     rw [if_neg c15] at H
     exact absurd H (by simp)
    rw [if_pos c15] at H
    have c15b0 := decide_eq_true c15
    clear c15
    by_cases c17 : (wrap64 ((wrap64 ((wrap64 ((wrap64 (bt a0 x1_1)) - 192)) * 256)) + (wrap64 (bt a0 (ji13))))) ≥ x10_1
    case pos =>
     rw [if_pos c17] at H
     have c17b0 := decide_eq_true c17
     clear c17
     simp only [Option.some.injEq, Prod.mk.injEq] at H
     obtain ⟨rfl, rfl, rfl, rfl⟩ := H
     obtain ⟨Ao18, co18, eo18⟩ := Kd.R_slice HO_8.out
     subst eo18
     have p8 : 0 ≤ (x1_1 : Int) := dec_
     have q8 : x1_1 < (a0.size : Int) := dec_
     have hx8 := bt_at a0 x1_1
     replace p8 := eq_true p8
     replace q8 := eq_true q8
     have p16 : 0 ≤ ((ji13) : Int) := dec_
     have q16 : (ji13) < (a0.size : Int) := dec_
     have hx16 := bt_at a0 (ji13)
     replace p16 := eq_true p16
     replace q16 := eq_true q16
     go_wp2
     refine bodyPost_ret (results_list (rs := [.tmp 4, .tmp 5, .tmp 6, .tmp 7]) rfl (by simp) (.tmp (.tmp (.tmp (.tmp .nil))))) rfl ?_
     exact ⟨_, by first | rfl | (simp [errW_none, errW_some] <;> rfl) | (simp only [← hji13]; first | rfl | (simp [errW_none, errW_some] <;> rfl)) | (simp [*, errW_none, errW_some] <;> rfl), by first | exact Kd.R_nil _ _ _ _ _ | exact Kd.N_nil _ _ _ _ _ | exact Kd.V_nil _ _ _ _ _ | exact Kd.Q_nil _ _ _ _ _ | exact Kd.S_nil _ _ _ _ _, bq0_⟩
    rw [if_neg c17] at H
    have c17b0 := decide_eq_false c17
    clear c17
    have H' := a0_ H
    clear H
    obtain ⟨Ao19, co19, eo19⟩ := Kd.R_slice HO_8.out
    subst eo19
    have p8 : 0 ≤ (x1_1 : Int) := dec_
    have q8 : x1_1 < (a0.size : Int) := dec_
    have hx8 := bt_at a0 x1_1
    replace p8 := eq_true p8
    replace q8 := eq_true q8
    have p16 : 0 ≤ ((ji13) : Int) := dec_
    have q16 : (ji13) < (a0.size : Int) := dec_
    have hx16 := bt_at a0 (ji13)
    replace p16 := eq_true p16
    replace q16 := eq_true q16
    go_wp2
    go_roundg k1
    case measure => have := HK1.out; omega
    case rel => exact ⟨(wrap64 ((wrap64 ((wrap64 ((wrap64 (bt a0 x1_1)) - 192)) * 256)) + (wrap64 (bt a0 (ji13))))), (x8_1), (x9_1), (wrap64 ((wrap64 ((wrap64 ((wrap64 (bt a0 x1_1)) - 192)) * 256)) + (wrap64 (bt a0 (ji13))))), (wrap64 (x1_1 + 2)), (by first | rfl | (simp; done) | (simp only [← hji13] <;> (first | rfl | simp)) | (simp [*]; done)), (by first | rfl | (simp; done) | (simp only [← hji13] <;> (first | rfl | simp)) | (simp [*]; done)), rs_, H', ⟨by have := HK1.out; omega⟩, ⟨by (with_reducible repeat (first | apply Kd.R_alloc | apply Kd.R_drewN | apply Kd.R_drew)); exact HO_8.out⟩, ⟨by (with_reducible repeat (first | apply Kd.R_alloc | apply Kd.R_drewN | apply Kd.R_drew)); exact HO_9.out⟩, ⟨bq0_⟩⟩
   rw [if_neg c9] at H
   have c9b0 := decide_eq_false c9
   clear c9
   by_cases c27 : (wrap64 (bt a0 x1_1)) = 0
   case pos =>
    rw [if_pos c27] at H
    have c27b0 := beq_iff_eq.mpr c27
    have c27b1 := bne_eq_false_iff_eq.mpr c27
    clear c27
    by_cases c28 : x11_1 < 0
    case neg =>
     rw [if_neg c28] at H
     have c28b0 := decide_eq_false c28
     clear c28
     obtain ⟨t128, A330, H⟩ := Option.bind_eq_some_iff.mp H
     have A33 := a0_ A330
     clear A330
     obtain ⟨⟨t129, t130⟩, A340, H⟩ := Option.bind_eq_some_iff.mp H
     have A34 := a0_ A340
     clear A340
     simp only [Option.some.injEq, Prod.mk.injEq] at H
     obtain ⟨rfl, rfl, rfl, rfl⟩ := H
     obtain ⟨Ao35, co35, eo35⟩ := Kd.R_slice HO_8.out
     subst eo35
     have p8 : 0 ≤ (x1_1 : Int) := dec_
     have q8 : x1_1 < (a0.size : Int) := dec_
     have hx8 := bt_at a0 x1_1
     replace p8 := eq_true p8
     replace q8 := eq_true q8
     go_wp2_with (first | ((with_reducible refine gate_callee (f := 170) rfl ?_); refine goesL_ (some 61) rfl rfl Tryz.func170 (by kernel_rfl) rfl #[.slice Ao35 x8_1.length co35] rfl argsS_ ?_; (with_reducible refine (spec_l1Join.calls k1 _ _ x8_1 t128 _ ?side1 ?side2 A33.out).mono ?_); (case side1 => exact kD_ (Kd.R_reads' HO_8.out).2.2); (case side2 => exact (Kd.R_reads' HO_8.out).2.1); rintro e w' ⟨rfl, ⟨nd, rfl⟩⟩; refine ⟨_, rfl, ?_⟩) | ((with_reducible refine gate_callee (f := 169) rfl ?_); refine goesL_ (some 62) rfl rfl Tryz.func169 (by kernel_rfl) rfl #[.string t128] rfl argsS_ ?_; (with_reducible refine (spec_FoldName.calls t128 t129 t130 _ A34.out).mono ?_); rintro e w36 ⟨rfl, hb⟩; refine ⟨_, rfl, ?_⟩; replace HO_8 := a0_ (Kd.R_below (kR_ HO_8.out) hb); replace HO_9 := a0_ (Kd.R_below (kR_ HO_9.out) hb); replace HB := a0_ (below_step bq0_ hb); clear hb))
     refine bodyPost_ret (results_list (rs := [.tmp 4, .tmp 5, .tmp 6, .tmp 7]) rfl (by simp) (.tmp (.tmp (.tmp (.tmp .nil))))) rfl ?_
     exact ⟨_, rr_, by (with_reducible repeat (first | apply Kd.R_alloc | apply Kd.R_drewN | apply Kd.R_drew)); exact HO_9.out, bq0_⟩
    rw [if_pos c28] at H
    have c28b0 := decide_eq_true c28
    clear c28
    obtain ⟨t125, A290, H⟩ := Option.bind_eq_some_iff.mp H
    have A29 := a0_ A290
    clear A290
    obtain ⟨⟨t126, t127⟩, A300, H⟩ := Option.bind_eq_some_iff.mp H
    have A30 := a0_ A300
    clear A300
    simp only [Option.some.injEq, Prod.mk.injEq] at H
    obtain ⟨rfl, rfl, rfl, rfl⟩ := H
    obtain ⟨Ao31, co31, eo31⟩ := Kd.R_slice HO_8.out
    subst eo31
    have p8 : 0 ≤ (x1_1 : Int) := dec_
    have q8 : x1_1 < (a0.size : Int) := dec_
    have hx8 := bt_at a0 x1_1
    replace p8 := eq_true p8
    replace q8 := eq_true q8
    go_wp2_with (first | ((with_reducible refine gate_callee (f := 170) rfl ?_); refine goesL_ (some 61) rfl rfl Tryz.func170 (by kernel_rfl) rfl #[.slice Ao31 x8_1.length co31] rfl argsS_ ?_; (with_reducible refine (spec_l1Join.calls k1 _ _ x8_1 t125 _ ?side1 ?side2 A29.out).mono ?_); (case side1 => exact kD_ (Kd.R_reads' HO_8.out).2.2); (case side2 => exact (Kd.R_reads' HO_8.out).2.1); rintro e w' ⟨rfl, ⟨nd, rfl⟩⟩; refine ⟨_, rfl, ?_⟩) | ((with_reducible refine gate_callee (f := 169) rfl ?_); refine goesL_ (some 62) rfl rfl Tryz.func169 (by kernel_rfl) rfl #[.string t125] rfl argsS_ ?_; (with_reducible refine (spec_FoldName.calls t125 t126 t127 _ A30.out).mono ?_); rintro e w32 ⟨rfl, hb⟩; refine ⟨_, rfl, ?_⟩; replace HO_8 := a0_ (Kd.R_below (kR_ HO_8.out) hb); replace HO_9 := a0_ (Kd.R_below (kR_ HO_9.out) hb); replace HB := a0_ (below_step bq0_ hb); clear hb))
    refine bodyPost_ret (results_list (rs := [.tmp 4, .tmp 5, .tmp 6, .tmp 7]) rfl (by simp) (.tmp (.tmp (.tmp (.tmp .nil))))) rfl ?_
    exact ⟨_, rr_, by (with_reducible repeat (first | apply Kd.R_alloc | apply Kd.R_drewN | apply Kd.R_drew)); exact HO_9.out, bq0_⟩
   rw [if_neg c27] at H
   have c27b0 := beq_eq_false_iff_ne.mpr c27
   have c27b1 := bne_iff_ne.mpr c27
   have HC37 := a0_ H
   clear H
   obtain ⟨Ao38, co38, eo38⟩ := Kd.R_slice HO_8.out
   subst eo38
   have p8 : 0 ≤ (x1_1 : Int) := dec_
   have q8 : x1_1 < (a0.size : Int) := dec_
   have hx8 := bt_at a0 x1_1
   replace p8 := eq_true p8
   replace q8 := eq_true q8
   go_upto_region 23 with (fail)
   go_cut [79] (fun v79 wc => ∃ (kq : Nat) (x79_36 : Bool), v79 = .bool x79_36 ∧ Aside0 (spec_l2Take.j1 kq a0 x1_1 x8_1 x9_1 x10_1 x11_1 (wrap64 (bt a0 x1_1)) x79_36 = some (r1, r2, r3, r4)) ∧ Aside0 (kq ≤ k1) ∧ Aside0 (Kd.R Kd.string 9 wc w.heap.size (fun _ => True) (.slice Ao38 x8_1.length co38) x8_1) ∧ Aside0 (Kd.R (Kd.int .i64) 3 wc w.heap.size (fun _ => True) u9 x9_1) ∧ Aside0 (Below w.heap.size w wc))
   case first =>
    have H := HC37.out
    clear HC37
    by_cases c39 : (wrap64 (bt a0 x1_1)) > 20
    case neg =>
     rw [if_neg c39] at H
     have c39b0 := decide_eq_false c39
     clear c39
     (first | rw [c39b0] | (simp only [i64_w, i32_w]; rw [c39b0]) | skip)
     have H' := a0_ H
     clear H
     go_wp2
     go_meet
     case rel => exact ⟨_, (decide ((wrap64 ((wrap64 (x1_1 + 1)) + (wrap64 (bt a0 x1_1)))) > (a0.size : Int))), rs_, H', ⟨by have := HK1.out; first | omega | exact Nat.le_refl _⟩, ⟨by (with_reducible repeat (first | apply Kd.R_alloc | apply Kd.R_drewN | apply Kd.R_drew)); exact HO_8.out⟩, ⟨by (with_reducible repeat (first | apply Kd.R_alloc | apply Kd.R_drewN | apply Kd.R_drew)); exact HO_9.out⟩, ⟨bq0_⟩⟩
    rw [if_pos c39] at H
    have c39b0 := decide_eq_true c39
    clear c39
    (first | rw [c39b0] | (simp only [i64_w, i32_w]; rw [c39b0]) | skip)
    have H' := a0_ H
    clear H
    go_wp2
    go_meet
    case rel => exact ⟨_, (true), rs_, H', ⟨by have := HK1.out; first | omega | exact Nat.le_refl _⟩, ⟨by (with_reducible repeat (first | apply Kd.R_alloc | apply Kd.R_drewN | apply Kd.R_drew)); exact HO_8.out⟩, ⟨by (with_reducible repeat (first | apply Kd.R_alloc | apply Kd.R_drewN | apply Kd.R_drew)); exact HO_9.out⟩, ⟨bq0_⟩⟩
   case rest =>
    clear HC37
    try clear c1
    try clear p2
    try clear c3
    try clear c3b0
    try clear c3b1
    try clear c4
    try clear c4b0
    try clear c6
    try clear c6b0
    try clear c7
    try clear c7b0
    try clear p8
    try clear q8
    try clear hx8
    try clear c9
    try clear c9b0
    try clear c27
    try clear c27b0
    try clear c27b1
    try clear p2
    try clear p8
    try clear q8
    obtain ⟨kq, x79_36, rfl, HA, HJ36, HO_8, HO_9, HB⟩ := hcut
    cases kq with
    | zero => exact absurd HA.out (by simp [spec_l2Take.j1])
    | succ kj36 =>
     have H := HA.out
     clear HA
     simp only [spec_l2Take.j1] at H
     by_cases c40 : x79_36 = true
     case pos =>
      subst c40
      rw [if_pos rfl] at H
      simp only [Option.some.injEq, Prod.mk.injEq] at H
      obtain ⟨rfl, rfl, rfl, rfl⟩ := H
      go_wp2
      refine bodyPost_ret (results_list (rs := [.tmp 4, .tmp 5, .tmp 6, .tmp 7]) rfl (by simp) (.tmp (.tmp (.tmp (.tmp .nil))))) rfl ?_
      exact ⟨_, rr_, by first | exact Kd.R_nil _ _ _ _ _ | exact Kd.N_nil _ _ _ _ _ | exact Kd.V_nil _ _ _ _ _ | exact Kd.Q_nil _ _ _ _ _ | exact Kd.S_nil _ _ _ _ _, bq0_⟩
     replace c40 := Bool.eq_false_iff.mpr c40
     subst c40
     rw [if_neg (show ¬ (false = true) by decide)] at H
     have HC41 := a0_ H
     clear H
     go_upto_if 81 with (fail)
     go_cut [9] (fun v9 wc => ∃ (kq : Nat) (x9_40 : List Int), Aside0 (spec_l2Take.j2 kq a0 x1_1 x8_1 x9_40 x10_1 x11_1 (wrap64 (bt a0 x1_1)) = some (r1, r2, r3, r4)) ∧ Aside0 (kq ≤ kj36) ∧ Aside0 (Kd.R Kd.string 9 wc w.heap.size (fun _ => True) (.slice Ao38 x8_1.length co38) x8_1) ∧ Aside0 (Kd.R (Kd.int .i64) 3 wc w.heap.size (fun _ => True) v9 x9_40) ∧ Aside0 (Below w.heap.size w wc))
     case first =>
      have H := HC41.out
      clear HC41
      by_cases c42 : x11_1 < 0
      case neg =>
       rw [if_neg c42] at H
       have c42b0 := decide_eq_false c42
       clear c42
       (first | rw [c42b0] | (simp only [i64_w, i32_w]; rw [c42b0]) | skip)
       have H' := a0_ H
       clear H
       go_wp2
       go_meet
       case rel => exact ⟨_, (x9_1), H', ⟨by have := HK1.out; have := HJ36.out; first | omega | exact Nat.le_refl _⟩, ⟨by (with_reducible repeat (first | apply Kd.R_alloc | apply Kd.R_drewN | apply Kd.R_drew)); exact HO_8.out⟩, ⟨by (with_reducible repeat (first | apply Kd.R_alloc | apply Kd.R_drewN | apply Kd.R_drew)); exact HO_9.out⟩, ⟨bq0_⟩⟩
      rw [if_pos c42] at H
      have c42b0 := decide_eq_true c42
      clear c42
      (first | rw [c42b0] | (simp only [i64_w, i32_w]; rw [c42b0]) | skip)
      by_cases c43 : x9_1.length < 17592186044416
      case neg =>
       rw [if_neg c43] at H
       exact absurd H (by simp)
      rw [if_pos c43] at H
      have LMc43 := a0_ c43
      clear c43
      obtain ⟨y131, hy131⟩ : ∃ y_ : List Int, y_ = (x9_1 ++ [x1_1]) := ⟨_, rfl⟩
      replace H : (spec_l2Take.j2 kj36 a0 x1_1 x8_1 y131 x10_1 x11_1 (wrap64 (bt a0 x1_1))) = some (r1, r2, r3, r4) := by first | (rw [hy131]; with_reducible exact H) | (have H2_ := (Option.bind_some _ _).symm.trans H; rw [hy131]; with_reducible exact H2_) | (have H2_ := (Option.bind_some _ _).symm.trans H; with_reducible exact H2_) | with_reducible exact H | (rw [hy131]; exact H) | exact H
      have Ny131 := a0_ hy131
      clear hy131
      have H' := a0_ H
      clear H
      go_wp2_with (first | ((with_reducible refine gate_builtin (b := .append) (xs := #[.tmp 82, .tmp 84]) rfl ?_); (try (refine gate_guard (by rfl) ?_; dsimp only)); at_builtin; refine Kd.R_append (Kd.int .i64) (w0 := w) w.heap.size rfl (.tmp 82) (.tmp 84) 131 3 (.int .i64 0) 8 rfl Tryz.underlying131 info3 rfl (by decide) (by omega) u9 x9_1 x1_1 [.int .i64 x1_1] (fun _ => True) (fun _ => False) rfl rfl ?aP (fun _ hk => hk.elim) ?aF ?aO ?aB ?aS ?aL ?_; (case aP => exact rfl); (case aB => exact bq0_); (case aF => exact (fun _ _ => trivial)); (case aO => exact (kR_ HO_9.out)); (case aS => exact (below_size bq0_)); (case aL => have := LMc43.out; omega); intro v132 w44 ho hb hg hat; rw [← Ny131.out] at ho; have n0_ := a0_ (Kd.R_over' (kR_ HO_8.out) (Kd.R_typed (kR_ HO_9.out)) (by decide) hg); have n1_ := a0_ (hb); have n2_ := a0_ (ho); clear HO_8; clear HB; clear HO_9; have HO_8 := n0_; have HB := n1_; have HO133 := n2_; clear n0_ n1_ n2_; clear ho hb hg hat))
      go_meet
      case rel => exact ⟨_, (y131), H', ⟨by have := HK1.out; have := HJ36.out; first | omega | exact Nat.le_refl _⟩, ⟨by (with_reducible repeat (first | apply Kd.R_alloc | apply Kd.R_drewN | apply Kd.R_drew)); exact HO_8.out⟩, ⟨by (with_reducible repeat (first | apply Kd.R_alloc | apply Kd.R_drewN | apply Kd.R_drew)); exact HO133.out⟩, ⟨bq0_⟩⟩
     case rest =>
      clear HC41
      try clear c1
      try clear p1
      try clear q1
      try clear hx1
      try clear c2
      try clear p2
      try clear q2
      try clear hx2
      try clear c3
      try clear c3b0
      try clear c3b1
      try clear c4
      try clear c4b0
      try clear c6
      try clear c6b0
      try clear p6
      try clear c7
      try clear c7b0
      try clear p8
      try clear q8
      try clear hx8
      try clear c9
      try clear c9b0
      try clear c10
      try clear c10b0
      try clear c11
      try clear c12
      try clear c12b0
      try clear c14
      try clear c14b0
      try clear c15
      try clear c15b0
      try clear c16
      try clear p16
      try clear q16
      try clear hx16
      try clear c17
      try clear c17b0
      try clear c21
      try clear c21b0
      try clear c22
      try clear c22b0
      try clear p23
      try clear q23
      try clear hx23
      try clear c24
      try clear c24b0
      try clear c27
      try clear c27b0
      try clear c27b1
      try clear c28
      try clear c28b0
      try clear c39
      try clear c39b0
      try clear c40
      try clear p1
      try clear p16
      try clear p2
      try clear p23
      try clear p6
      try clear p8
      try clear q1
      try clear q16
      try clear q2
      try clear q23
      try clear q8
      obtain ⟨kq, x9_40, HA, HJ40, HO_8, HO_9, HB⟩ := hcut
      cases kq with
      | zero => exact absurd HA.out (by simp [spec_l2Take.j2])
      | succ kj40 =>
       have H := HA.out
       clear HA
       simp only [spec_l2Take.j2] at H
       obtain ⟨ji45, hji45⟩ : ∃ j_ : Int, (wrap64 (x1_1 + 1)) = j_ := ⟨_, rfl⟩
       (first | rw [hji45] at H | simp only [hji45] at H)
       have hji45w : (IntKind.i64.wrap (x1_1 + 1)) = ji45 := (i64_w _).trans hji45
       by_cases c46 : 0 ≤ (ji45)
       case neg =>
        rw [if_neg c46] at H
        exact absurd H (by simp)
       rw [if_pos c46] at H
       have c46b0 := eq_true c46
       have c46b1 := decide_eq_true c46
       clear c46
       by_cases c47 : (ji45) ≤ (wrap64 ((ji45) + (wrap64 (bt a0 x1_1))))
       case neg =>
        rw [if_neg c47] at H
        exact absurd H (by simp)
       rw [if_pos c47] at H
       have c47b0 := eq_true c47
       have c47b1 := decide_eq_true c47
       by_cases c48 : (wrap64 ((ji45) + (wrap64 (bt a0 x1_1)))) ≤ (a0.size : Int)
       case neg =>
        rw [if_neg c48] at H
        exact absurd H (by simp)
       rw [if_pos c48] at H
       have c48b0 := eq_true c48
       have c48b1 := decide_eq_true c48
       have H' := a0_ H
       clear H
       go_wp2
       go_loopg [16] kj40 (fun kq v16 w' => ∃ (x16_4 : Int), v16 = .int .i64 x16_4 ∧ Aside0 (spec_l2Take.l1 kq a0 x1_1 x8_1 x9_40 x10_1 x11_1 (wrap64 (bt a0 x1_1)) (a0.extract ((ji45) : Int).toNat ((wrap64 ((ji45) + (wrap64 (bt a0 x1_1)))) : Int).toNat) x16_4 = some (r1, r2, r3, r4)) ∧ Aside0 (kq ≤ kj40) ∧ Aside0 (Kd.R Kd.string 9 w' w.heap.size (fun _ => True) (.slice Ao38 x8_1.length co38) x8_1) ∧ Aside0 (Kd.R (Kd.int .i64) 3 w' w.heap.size (fun _ => True) u9 x9_40) ∧ Aside0 (Below w.heap.size w w'))
       case atStart => exact ⟨(0), rs_, H', ⟨Nat.le_refl _⟩, ⟨by (with_reducible repeat (first | apply Kd.R_alloc | apply Kd.R_drewN | apply Kd.R_drew)); exact HO_8.out⟩, ⟨by (with_reducible repeat (first | apply Kd.R_alloc | apply Kd.R_drewN | apply Kd.R_drew)); exact HO_9.out⟩, ⟨bq0_⟩⟩
       case round =>
        clear H'
        try clear c1
        try clear p1
        try clear q1
        try clear hx1
        try clear c2
        try clear p2
        try clear q2
        try clear hx2
        try clear c3
        try clear c3b0
        try clear c3b1
        try clear c4
        try clear c4b0
        try clear c6
        try clear c6b0
        try clear p6
        try clear c7
        try clear c7b0
        try clear p8
        try clear q8
        try clear hx8
        try clear c9
        try clear c9b0
        try clear c10
        try clear c10b0
        try clear c11
        try clear c12
        try clear c12b0
        try clear c14
        try clear c14b0
        try clear c15
        try clear c15b0
        try clear c16
        try clear p16
        try clear q16
        try clear hx16
        try clear c17
        try clear c17b0
        try clear c21
        try clear c21b0
        try clear c22
        try clear c22b0
        try clear p23
        try clear q23
        try clear hx23
        try clear c24
        try clear c24b0
        try clear c27
        try clear c27b0
        try clear c27b1
        try clear c28
        try clear c28b0
        try clear c39
        try clear c39b0
        try clear c40
        try clear c42
        try clear c42b0
        try clear c43
        try clear c46
        try clear c46b0
        try clear c46b1
        try clear c47
        try clear c47b0
        try clear c47b1
        try clear c48
        try clear c48b0
        try clear c48b1
        try clear p1
        try clear p16
        try clear p2
        try clear p23
        try clear p6
        try clear p8
        try clear q1
        try clear q16
        try clear q2
        try clear q23
        try clear q8
        obtain ⟨x16_4, rfl, HA, HK4, HO_8, HO_9, HB⟩ := hrel
        cases gk with
        | zero => exact absurd HA.out (by simp [spec_l2Take.l1])
        | succ k4 =>
         have H := HA.out
         clear HA
         simp only [spec_l2Take.l1] at H
         by_cases c49 : x16_4 < (wrap64 (bt a0 x1_1))
         case neg =>
          rw [if_neg c49] at H
          have c49b0 := decide_eq_false c49
          clear c49
          by_cases c54 : x8_1.length < 8796093022208
          case neg =>
           rw [if_neg c54] at H
           exact absurd H (by simp)
          rw [if_pos c54] at H
          have LMc54 := a0_ c54
          clear c54
          obtain ⟨y134, hy134⟩ : ∃ y_ : List ByteArray, y_ = (x8_1 ++ [(a0.extract ((ji45) : Int).toNat ((wrap64 ((ji45) + (wrap64 (bt a0 x1_1)))) : Int).toNat)]) := ⟨_, rfl⟩
          replace H : (spec_l2Take.l0 k4 a0 (wrap64 (x1_1 + (wrap64 (1 + (wrap64 (bt a0 x1_1)))))) y134 x9_40 x10_1 x11_1) = some (r1, r2, r3, r4) := by first | (rw [hy134]; with_reducible exact H) | (have H2_ := (Option.bind_some _ _).symm.trans H; rw [hy134]; with_reducible exact H2_) | (have H2_ := (Option.bind_some _ _).symm.trans H; with_reducible exact H2_) | with_reducible exact H | (rw [hy134]; exact H) | exact H
          have Ny134 := a0_ hy134
          clear hy134
          have H' := a0_ H
          clear H
          go_wp2_with (first | ((with_reducible refine gate_builtin (b := .append) (xs := #[.tmp 103, .tmp 105]) rfl ?_); (try (refine gate_guard (by rfl) ?_; dsimp only)); at_builtin; refine Kd.R_append Kd.string (w0 := w) w.heap.size rfl (.tmp 103) (.tmp 105) 78 9 (.string ⟨#[]⟩) 16 rfl Tryz.underlying78 info9 rfl (by decide) (by omega) (.slice Ao38 x8_1.length co38) x8_1 (a0.extract ((ji45) : Int).toNat ((wrap64 ((ji45) + (wrap64 (bt a0 x1_1)))) : Int).toNat) [.string (a0.extract ((ji45) : Int).toNat ((wrap64 ((ji45) + (wrap64 (bt a0 x1_1)))) : Int).toNat)] (fun _ => True) (fun _ => False) rfl rfl ?aP (fun _ hk => hk.elim) ?aF ?aO ?aB ?aS ?aL ?_; (case aP => exact rfl); (case aB => exact bq0_); (case aF => exact (fun _ _ => trivial)); (case aO => exact (kR_ HO_8.out)); (case aS => exact (below_size bq0_)); (case aL => have := LMc54.out; omega); intro v135 w55 ho hb hg hat; rw [← Ny134.out] at ho; have n0_ := a0_ (Kd.R_over' (kR_ HO_9.out) (Kd.R_typed (kR_ HO_8.out)) (by decide) hg); have n1_ := a0_ (hb); have n2_ := a0_ (ho); clear HO_9; clear HB; clear HO_8; have HO_9 := n0_; have HB := n1_; have HO136 := n2_; clear n0_ n1_ n2_; clear ho hb hg hat))
          go_roundg k4
          case measure => have := HK1.out; have := HJ36.out; have := HJ40.out; have := HK4.out; omega
          case rel => exact ⟨(wrap64 (x1_1 + (wrap64 (1 + (wrap64 (bt a0 x1_1)))))), (y134), (x9_40), (x10_1), (x11_1), rs_, rs_, rs_, H', ⟨by have := HK1.out; have := HJ36.out; have := HJ40.out; have := HK4.out; omega⟩, ⟨by (with_reducible repeat (first | apply Kd.R_alloc | apply Kd.R_drewN | apply Kd.R_drew)); exact HO136.out⟩, ⟨by (with_reducible repeat (first | apply Kd.R_alloc | apply Kd.R_drewN | apply Kd.R_drew)); exact HO_9.out⟩, ⟨bq0_⟩⟩
         rw [if_pos c49] at H
         have c49b0 := decide_eq_true c49
         clear c49
         by_cases c50 : 0 ≤ x16_4
         case neg =>
          rw [if_neg c50] at H
          exact absurd H (by simp)
         rw [if_pos c50] at H
         have c50b0 := decide_eq_true c50
         clear c50
         by_cases c51 : x16_4 < ((a0.extract ((ji45) : Int).toNat ((wrap64 ((ji45) + (wrap64 (bt a0 x1_1)))) : Int).toNat).size : Int)
         case neg =>
          rw [if_neg c51] at H
          exact absurd H (by simp)
         rw [if_pos c51] at H
         have c51b0 := decide_eq_true c51
         clear c51
         by_cases c53 : (bt (a0.extract ((ji45) : Int).toNat ((wrap64 ((ji45) + (wrap64 (bt a0 x1_1)))) : Int).toNat) x16_4) = 46
         case neg =>
          rw [if_neg c53] at H
          have c53b0 := beq_eq_false_iff_ne.mpr c53
          have c53b1 := bne_iff_ne.mpr c53
          have H' := a0_ H
          clear H
          have p52 : 0 ≤ (x16_4 : Int) := dec_
          have q52 : x16_4 < ((a0.extract ((ji45) : Int).toNat ((wrap64 ((ji45) + (wrap64 (bt a0 x1_1)))) : Int).toNat).size : Int) := dec_
          have hx52 := bt_at (a0.extract ((ji45) : Int).toNat ((wrap64 ((ji45) + (wrap64 (bt a0 x1_1)))) : Int).toNat) x16_4
          replace p52 := eq_true p52
          replace q52 := eq_true q52
          go_wp2
          go_roundg k4
          case measure => have := HK1.out; have := HJ36.out; have := HJ40.out; have := HK4.out; omega
          case rel => exact ⟨(wrap64 (x16_4 + 1)), rs_, H', ⟨by have := HK1.out; have := HJ36.out; have := HJ40.out; have := HK4.out; omega⟩, ⟨by (with_reducible repeat (first | apply Kd.R_alloc | apply Kd.R_drewN | apply Kd.R_drew)); exact HO_8.out⟩, ⟨by (with_reducible repeat (first | apply Kd.R_alloc | apply Kd.R_drewN | apply Kd.R_drew)); exact HO_9.out⟩, ⟨bq0_⟩⟩
         rw [if_pos c53] at H
         have c53b0 := beq_iff_eq.mpr c53
         have c53b1 := bne_eq_false_iff_eq.mpr c53
         clear c53
         simp only [Option.some.injEq, Prod.mk.injEq] at H
         obtain ⟨rfl, rfl, rfl, rfl⟩ := H
         have p52 : 0 ≤ (x16_4 : Int) := dec_
         have q52 : x16_4 < ((a0.extract ((ji45) : Int).toNat ((wrap64 ((ji45) + (wrap64 (bt a0 x1_1)))) : Int).toNat).size : Int) := dec_
         have hx52 := bt_at (a0.extract ((ji45) : Int).toNat ((wrap64 ((ji45) + (wrap64 (bt a0 x1_1)))) : Int).toNat) x16_4
         replace p52 := eq_true p52
         replace q52 := eq_true q52
         go_wp2
         refine bodyPost_ret (results_list (rs := [.tmp 4, .tmp 5, .tmp 6, .tmp 7]) rfl (by simp) (.tmp (.tmp (.tmp (.tmp .nil))))) rfl ?_
         exact ⟨_, by first | rfl | (simp [errW_none, errW_some] <;> rfl) | (simp only [← hji45]; first | rfl | (simp [errW_none, errW_some] <;> rfl)) | (simp [*, errW_none, errW_some] <;> rfl), by first | exact Kd.R_nil _ _ _ _ _ | exact Kd.N_nil _ _ _ _ _ | exact Kd.V_nil _ _ _ _ _ | exact Kd.Q_nil _ _ _ _ _ | exact Kd.S_nil _ _ _ _ _, bq0_⟩
end Go.Proofs.YtiegkjimpclmaaaGreatDoor.P
namespace Go.Proofs.YtiegkjimpclmaaaGreatDoor.P
open Go.RowKit Go.Proofs.YtiegkjimpclmaaaGreatDoorW.PrintWords Go.Proofs.YtiegkjimpclmaaaGreatDoorW.PrintLast Go.Proofs.YtiegkjimpclmaaaGreatDoorW.PrintMore
attribute [local go_sem] max2_int min2_int max_two min_two max_three min_three max_four min_four
set_option linter.unusedVariables false
set_option linter.unusedSimpArgs false
def impl_RecordText.f (k : Nat) (a0_0 : ByteArray) (a0_1 : Int) (a0_2 : Int) (a0_3 : ByteArray) : Option (ByteArray × Bool) := (impl_GoodRecord.f k a0_0 a0_1 a0_2 a0_3).bind fun t692 => (if t692 = true then ((impl_recordText.f a0_0 a0_1 a0_2 a0_3).bind fun t693 => (some (t693, true))) else (some ((⟨#[]⟩ : ByteArray), false)))
set_option maxHeartbeats 8000000 in
set_option maxRecDepth 100000 in
theorem impl_RecordText.calls (k : Nat) (a0_0 : ByteArray) (a0_1 : Int) (a0_2 : Int) (a0_3 : ByteArray) (r1 : ByteArray) (r2 : Bool) (w : World) (h : impl_RecordText.f k a0_0 a0_1 a0_2 a0_3 = some (r1, r2)) (hv_ : Vars w := by exact vv_) :
 Calls Tryz.prog 27 #[.agg #[.string a0_0, .int .i64 a0_1, .int .i64 a0_2, .string a0_3]] w fun e w' => e = .returned (.tuple #[.string r1, .bool r2]) ∧ Below w.heap.size w w' := by
 have HV_ := a0_ hv_
 clear hv_
 have hu45 := Tryz.underlying45
 have HB := a0_ (Below.refl w.heap.size w)
 have H := h
 clear h
 unfold impl_RecordText.f at H
 obtain ⟨t692, A20, H⟩ := Option.bind_eq_some_iff.mp H
 have A2 := a0_ A20
 clear A20
 by_cases c3 : t692 = true
 case neg =>
  replace c3 := Bool.eq_false_iff.mpr c3
  subst c3
  rw [if_neg (show ¬ (false = true) by decide)] at H
  simp only [Option.some.injEq, Prod.mk.injEq] at H
  obtain ⟨rfl, rfl⟩ := H
  go_enter Tryz.func27, Tryz.ntmps27
  go_wp2_with (first | ((with_reducible refine gate_dst (N := 1) rfl ?_); refine boxS_ 1 #[.string a0_0, .int .i64 a0_1, .int .i64 a0_2, .string a0_3] 45 (fun gb691 hg w10 hbox hb => ?_); have n0_ := a0_ (below_step bq0_ hb); have n1_ := a0_ (hbox); have n2_ := a0_ (gw_ hg : w.heap.size ≤ gb691); have n3_ := n2_; clear HB; have HB := n0_; have BK691 := n1_; have GW691 := n2_; have GE691 := n3_; clear n0_ n1_ n2_ n3_; clear hb hbox hg; obtain ⟨z11_0, z11_1, z11_2, z11_3, q11_0, q11_1, q11_2, q11_3⟩ := bk4_ BK691.out) | ((with_reducible refine gate_callee (f := 29) rfl ?_); refine goesL_ (some 5) rfl rfl Tryz.func29 (by kernel_rfl) rfl #[.agg #[.string a0_0, .int .i64 a0_1, .int .i64 a0_2, .string a0_3]] rfl argsS_ ?_; (with_reducible refine (impl_GoodRecord.calls k a0_0 a0_1 a0_2 a0_3 false _ A2.out).mono ?_); rintro e w12 ⟨rfl, hb⟩; refine ⟨_, rfl, ?_⟩; replace BK691 := a0_ (bkB_ BK691 hb); replace HB := a0_ (below_step bq1_ hb); clear hb))
  go_ret2
  exact ⟨rr_, bq1_⟩
 subst c3
 rw [if_pos rfl] at H
 obtain ⟨t693, A40, H⟩ := Option.bind_eq_some_iff.mp H
 have A4 := a0_ A40
 clear A40
 simp only [Option.some.injEq, Prod.mk.injEq] at H
 obtain ⟨rfl, rfl⟩ := H
 go_enter Tryz.func27, Tryz.ntmps27
 go_wp2_with (first | ((with_reducible refine gate_dst (N := 1) rfl ?_); refine boxS_ 1 #[.string a0_0, .int .i64 a0_1, .int .i64 a0_2, .string a0_3] 45 (fun gb691 hg w5 hbox hb => ?_); have n0_ := a0_ (below_step bq0_ hb); have n1_ := a0_ (hbox); have n2_ := a0_ (gw_ hg : w.heap.size ≤ gb691); have n3_ := n2_; clear HB; have HB := n0_; have BK691 := n1_; have GW691 := n2_; have GE691 := n3_; clear n0_ n1_ n2_ n3_; clear hb hbox hg; obtain ⟨z6_0, z6_1, z6_2, z6_3, q6_0, q6_1, q6_2, q6_3⟩ := bk4_ BK691.out) | ((with_reducible refine gate_callee (f := 29) rfl ?_); refine goesL_ (some 5) rfl rfl Tryz.func29 (by kernel_rfl) rfl #[.agg #[.string a0_0, .int .i64 a0_1, .int .i64 a0_2, .string a0_3]] rfl argsS_ ?_; (with_reducible refine (impl_GoodRecord.calls k a0_0 a0_1 a0_2 a0_3 true _ A2.out).mono ?_); rintro e w7 ⟨rfl, hb⟩; refine ⟨_, rfl, ?_⟩; replace BK691 := a0_ (bkB_ BK691 hb); replace HB := a0_ (below_step bq1_ hb); clear hb; obtain ⟨z8_0, z8_1, z8_2, z8_3, q8_0, q8_1, q8_2, q8_3⟩ := bk4_ BK691.out) | ((with_reducible refine gate_callee (f := 81) rfl ?_); refine goesL_ (some 8) rfl rfl Tryz.func81 (by kernel_rfl) rfl #[.agg #[.string a0_0, .int .i64 a0_1, .int .i64 a0_2, .string a0_3]] rfl argsS_ ?_; (with_reducible refine (impl_recordText.calls a0_0 a0_1 a0_2 a0_3 t693 _ A4.out).mono ?_); rintro e w9 ⟨rfl, hb⟩; refine ⟨_, rfl, ?_⟩; replace BK691 := a0_ (bkB_ BK691 hb); replace HB := a0_ (below_step bq1_ hb); clear hb))
 go_ret2
 exact ⟨rr_, bq1_⟩
end Go.Proofs.YtiegkjimpclmaaaGreatDoor.P
