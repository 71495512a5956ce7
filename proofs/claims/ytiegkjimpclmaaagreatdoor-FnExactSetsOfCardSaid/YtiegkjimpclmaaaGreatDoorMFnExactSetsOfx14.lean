/- FnExactSetsOf: part 15 of 28 of my texts for this claim, joined; the theorem stands in the last. Conditions: none beyond the statement's. -/
import Derived.Test.YtiegkjimpclmaaaGreatDoorMFnExactSetsOfx13
namespace Go.Proofs.YtiegkjimpclmaaaGreatDoor.P
open Go.RowKit Go.Proofs.YtiegkjimpclmaaaGreatDoorW.PrintWords Go.Proofs.YtiegkjimpclmaaaGreatDoorW.PrintLast Go.Proofs.YtiegkjimpclmaaaGreatDoorW.PrintMore
attribute [local go_sem] max2_int min2_int max_two min_two max_three min_three max_four min_four
set_option linter.unusedVariables false
set_option linter.unusedSimpArgs false
def slices_Compare_string_string.l0 : Nat → List ByteArray → List ByteArray → List ByteArray → Int → Int → Option (Int)
 | 0, _, _, _, _, _ => none
 | k + 1, x0, x1, x9, x10, x11 => if x11 < x10 then (if 0 ≤ x11 then (if x11 < (x9.length : Int) then (if x11 ≥ (x1.length : Int) then (some 1) else (if x11 < (x1.length : Int) then ((cmp_Compare_string.f (rdOf ByteArray.empty x9 x11) (rdOf ByteArray.empty x1 x11)).bind fun t377 => (if t377 = 0 then (slices_Compare_string_string.l0 k x0 x1 x9 x10 (wrap64 (x11 + 1))) else (some t377))) else (none))) else (none)) else (none)) else (if (x0.length : Int) < (x1.length : Int) then (some (-1)) else (some 0))
def slices_Compare_string_string.f (k : Nat) (l0 : List ByteArray) (l1 : List ByteArray) : Option (Int) := slices_Compare_string_string.l0 k l0 l1 l0 (l0.length : Int) 0
set_option maxHeartbeats 8000000 in
set_option maxRecDepth 100000 in
theorem slices_Compare_string_string.calls (k : Nat) (A0 : Option Addr) (c0 : Nat) (l0 : List ByteArray) (A1 : Option Addr) (c1 : Nat) (l1 : List ByteArray) (r : Int) (w : World) (hr0 : Kd.C Kd.string w A0 l0.length l0) (hc0 : l0.length ≤ c0) (hr1 : Kd.C Kd.string w A1 l1.length l1) (hc1 : l1.length ≤ c1) (h : slices_Compare_string_string.f k l0 l1 = some r) :
 Calls Tryz.prog 178 #[.slice A0 l0.length c0, .slice A1 l1.length c1] w fun e w' => e = .returned (.int .i64 r) ∧ Drawn0 w w' := by
 have HR0 := a0_ hr0
 have HC0 := a0_ hc0
 clear hr0 hc0
 have HR1 := a0_ hr1
 have HC1 := a0_ hc1
 clear hr1 hc1
 have H := h
 clear h
 unfold slices_Compare_string_string.f at H
 have H' := a0_ H
 clear H
 go_enter Tryz.func178, Tryz.ntmps178
 go_wp2
 go_loopg [11] k (fun kq v11 w' => ∃ (x11_1 : Int), v11 = .int .i64 x11_1 ∧ Aside0 (slices_Compare_string_string.l0 kq l0 l1 l0 (l0.length : Int) x11_1 = some r) ∧ Aside0 (kq ≤ k) ∧ Drawn0 w w')
 case atStart => exact ⟨(0), rs_, H', ⟨Nat.le_refl _⟩, dr_⟩
 case round =>
  clear H'
  try clear c1
  obtain ⟨x11_1, rfl, HA, HK1, ⟨m1, rfl⟩⟩ := hrel
  cases gk with
  | zero => exact absurd HA.out (by simp [slices_Compare_string_string.l0])
  | succ k1 =>
   have H := HA.out
   clear HA
   simp only [slices_Compare_string_string.l0] at H
   by_cases c3 : x11_1 < (l0.length : Int)
   case neg =>
    rw [if_neg c3] at H
    have c3b0 := decide_eq_false c3
    clear c3
    by_cases c10 : (l0.length : Int) < (l1.length : Int)
    case neg =>
     rw [if_neg c10] at H
     have c10b0 := decide_eq_false c10
     have c10b1 : decide (l0.length < l1.length) = false := decide_eq_false (fun h => c10 (Int.ofNat_lt.mpr h))
     clear c10
     obtain rfl := Option.some.inj H
     go_wp2
     go_ret
     exact ⟨rs_, dr_⟩
    rw [if_pos c10] at H
    have c10b0 := decide_eq_true c10
    have c10b1 : decide (l0.length < l1.length) = true := decide_eq_true (Int.ofNat_lt.mp c10)
    clear c10
    obtain rfl := Option.some.inj H
    go_wp2
    go_ret
    exact ⟨rs_, dr_⟩
   rw [if_pos c3] at H
   have c3b0 := decide_eq_true c3
   clear c3
   by_cases c4 : 0 ≤ x11_1
   case neg =>
    rw [if_neg c4] at H
    exact absurd H (by simp)
   rw [if_pos c4] at H
   have c4b0 := decide_eq_true c4
   clear c4
   by_cases c5 : x11_1 < (l0.length : Int)
   case neg =>
    rw [if_neg c5] at H
    exact absurd H (by simp)
   rw [if_pos c5] at H
   have c5b0 := decide_eq_true c5
   clear c5
   by_cases c6 : x11_1 ≥ (l1.length : Int)
   case pos =>
    rw [if_pos c6] at H
    have c6b0 := decide_eq_true c6
    clear c6
    obtain rfl := Option.some.inj H
    have p375 : 0 ≤ (x11_1 : Int) := dec_
    have q375 : x11_1 < (l0.length : Int) := dec_
    obtain ⟨ad375, e375, hx375_0⟩ := Kd.at_string HR0.out x11_1 p375 q375
    cases e375
    replace p375 := eq_true p375
    replace q375 := eq_true q375
    go_wp2
    go_ret
    exact ⟨rs_, dr_⟩
   rw [if_neg c6] at H
   have c6b0 := decide_eq_false c6
   clear c6
   by_cases c7 : x11_1 < (l1.length : Int)
   case neg =>
    rw [if_neg c7] at H
    exact absurd H (by simp)
   rw [if_pos c7] at H
   have c7b0 := decide_eq_true c7
   clear c7
   obtain ⟨t377, A80, H⟩ := Option.bind_eq_some_iff.mp H
   have A8 := a0_ A80
   clear A80
   by_cases c9 : t377 = 0
   case neg =>
    rw [if_neg c9] at H
    have c9b0 := beq_eq_false_iff_ne.mpr c9
    have c9b1 := bne_iff_ne.mpr c9
    obtain rfl := Option.some.inj H
    have p375 : 0 ≤ (x11_1 : Int) := dec_
    have q375 : x11_1 < (l0.length : Int) := dec_
    obtain ⟨ad375, e375, hx375_0⟩ := Kd.at_string HR0.out x11_1 p375 q375
    cases e375
    replace p375 := eq_true p375
    replace q375 := eq_true q375
    have p376 : 0 ≤ (x11_1 : Int) := dec_
    have q376 : x11_1 < (l1.length : Int) := dec_
    obtain ⟨ad376, e376, hx376_0⟩ := Kd.at_string HR1.out x11_1 p376 q376
    cases e376
    replace p376 := eq_true p376
    replace q376 := eq_true q376
    go_wp2_with (first | ((with_reducible refine gate_callee (f := 208) rfl ?_); refine goesL_ (some 26) rfl rfl Tryz.func208 (by kernel_rfl) rfl #[.string (rdOf ByteArray.empty l0 x11_1), .string (rdOf ByteArray.empty l1 x11_1)] rfl argsS_ ?_; (with_reducible refine (cmp_Compare_string.calls (rdOf ByteArray.empty l0 x11_1) (rdOf ByteArray.empty l1 x11_1) t377 _ A8.out).mono ?_); rintro e w' ⟨rfl, ⟨nd, rfl⟩⟩; refine ⟨_, rfl, ?_⟩))
    go_ret
    exact ⟨rs_, dr_⟩
   rw [if_pos c9] at H
   have c9b0 := beq_iff_eq.mpr c9
   have c9b1 := bne_eq_false_iff_eq.mpr c9
   clear c9
   have H' := a0_ H
   clear H
   have p375 : 0 ≤ (x11_1 : Int) := dec_
   have q375 : x11_1 < (l0.length : Int) := dec_
   obtain ⟨ad375, e375, hx375_0⟩ := Kd.at_string HR0.out x11_1 p375 q375
   cases e375
   replace p375 := eq_true p375
   replace q375 := eq_true q375
   have p376 : 0 ≤ (x11_1 : Int) := dec_
   have q376 : x11_1 < (l1.length : Int) := dec_
   obtain ⟨ad376, e376, hx376_0⟩ := Kd.at_string HR1.out x11_1 p376 q376
   cases e376
   replace p376 := eq_true p376
   replace q376 := eq_true q376
   go_wp2_with (first | ((with_reducible refine gate_callee (f := 208) rfl ?_); refine goesL_ (some 26) rfl rfl Tryz.func208 (by kernel_rfl) rfl #[.string (rdOf ByteArray.empty l0 x11_1), .string (rdOf ByteArray.empty l1 x11_1)] rfl argsS_ ?_; (with_reducible refine (cmp_Compare_string.calls (rdOf ByteArray.empty l0 x11_1) (rdOf ByteArray.empty l1 x11_1) t377 _ A8.out).mono ?_); rintro e w' ⟨rfl, ⟨nd, rfl⟩⟩; refine ⟨_, rfl, ?_⟩))
   go_roundg k1
   case measure => have := HK1.out; omega
   case rel => exact ⟨(wrap64 (x11_1 + 1)), rs_, H', ⟨by have := HK1.out; omega⟩, dr_⟩
def impl_NameOf_1.f (a0 : ByteArray) : Option (Bool) := (impl_isLabel.f a0).bind fun t1469 => (some (!t1469))
end Go.Proofs.YtiegkjimpclmaaaGreatDoor.P
namespace Go.Proofs.YtiegkjimpclmaaaGreatDoor.P
open Go.Shelf Go.RowKit Go.Proofs.YtiegkjimpclmaaaGreatDoorW.PrintWords Go.Proofs.YtiegkjimpclmaaaGreatDoorW.PrintLast Go.Proofs.YtiegkjimpclmaaaGreatDoorW.PrintMore
set_option linter.unusedVariables false
set_option linter.unusedSimpArgs false
def strconv_Itoa.f (v : Int) : Option ByteArray :=
 if -9223372036854775808 ≤ v ∧ v ≤ 9223372036854775807 then some ⟨(Lib.itoa v).toArray⟩ else none
end Go.Proofs.YtiegkjimpclmaaaGreatDoor.P
namespace Go.Proofs.YtiegkjimpclmaaaGreatDoor.P
open Go.RowKit Go.Proofs.YtiegkjimpclmaaaGreatDoorW.PrintWords Go.Proofs.YtiegkjimpclmaaaGreatDoorW.PrintLast Go.Proofs.YtiegkjimpclmaaaGreatDoorW.PrintMore
attribute [local go_sem] max2_int min2_int max_two min_two max_three min_three max_four min_four
set_option linter.unusedVariables false
set_option linter.unusedSimpArgs false
def spec_GoodName.f (k : Nat) (a0 : ByteArray) : Option (Bool) := (spec_l1Labels.f k a0).bind fun bt120 => (some bt120.2)
set_option maxHeartbeats 8000000 in
set_option maxRecDepth 100000 in
theorem spec_GoodName.calls (k : Nat) (a0 : ByteArray) (r : Bool) (w : World) (h : spec_GoodName.f k a0 = some r) :
 Calls Tryz.prog 127 #[.string a0] w fun e w' => e = .returned (.bool r) ∧ Below w.heap.size w w' := by
 have HB := a0_ (Below.refl w.heap.size w)
 have H := h
 clear h
 unfold spec_GoodName.f at H
 obtain ⟨⟨t120, t121⟩, A20, H⟩ := Option.bind_eq_some_iff.mp H
 have A2 := a0_ A20
 clear A20
 obtain rfl := Option.some.inj H
 go_enter Tryz.func127, Tryz.ntmps127
 go_wp2_with (first | ((with_reducible refine gate_callee (f := 171) rfl ?_); refine goesL_ (some 7) rfl rfl Tryz.func171 (by kernel_rfl) rfl #[.string a0] rfl argsS_ ?_; (with_reducible refine (spec_l1Labels.calls k a0 t120 t121 _ A2.out).mono ?_); rintro e w3 ⟨v122, rfl, ho0, hb⟩; refine ⟨_, rfl, ?_⟩; have HO123 := a0_ (Kd.R_lower ho0 (below_size bq0_)); replace HB := a0_ (below_step bq0_ hb); clear hb; (try clear ho0)))
 go_ret
 exact ⟨rr_, bq0_⟩
theorem isEmpty_bne (l : List UInt8) : l.isEmpty = !(l != []) := by cases l <;> rfl
def spec_l3Target.l0 : Nat → ByteArray → Bool → List ByteArray → Int → Int → Option (Bool)
 | 0, _, _, _, _, _ => none
 | k + 1, x0, x4, x12, x13, x14 => if x14 < x13 then (if 0 ≤ x14 then (if x14 < (x12.length : Int) then (if x4 = true then (spec_l3Target.l0 k x0 ((rdOf ByteArray.empty x12 x14).toList != ([42] : List UInt8)) x12 x13 (wrap64 (x14 + 1))) else (spec_l3Target.l0 k x0 false x12 x13 (wrap64 (x14 + 1)))) else (none)) else (none)) else (if x4 = true then (some (x0.toList != ([] : List UInt8))) else (some false))
def spec_l3Target.f (k : Nat) (a0 : ByteArray) : Option (Bool) := (spec_l1Labels.f k a0).bind fun bt148 => (spec_l3Target.l0 k a0 bt148.2 bt148.1 (bt148.1.length : Int) 0)
theorem spec_l3Target.mono_l : ∀ k, (∀ y0 y1 y2 y3 y4, LeO (spec_l3Target.l0 k y0 y1 y2 y3 y4) (spec_l3Target.l0 (k + 1) y0 y1 y2 y3 y4))
 | 0 => fun _ _ _ _ _ r h => by simp [spec_l3Target.l0] at h
 | k + 1 => by
  have ih0 := spec_l3Target.mono_l k
  · intro y0 y1 y2 y3 y4
    unfold spec_l3Target.l0
    repeat' first
    | (with_reducible exact ih0 _ _ _ _ _)
    | (with_reducible exact spec_l1Labels.mono _ _)
    | (with_reducible exact LeO.refl _)
    | (with_reducible exact LeO.none _)
    | (with_reducible refine LeO.ite ?_ ?_)
    | (with_reducible refine LeO.bind ?_ (fun _ => ?_))
    | exact ih0 _ _ _ _ _
    | exact spec_l1Labels.mono _ _
    | exact LeO.none _
    | refine LeO.ite ?_ ?_
    | refine LeO.bind ?_ (fun _ => ?_)
theorem spec_l3Target.mono : ∀ a0 k, LeO (spec_l3Target.f k a0) (spec_l3Target.f (k + 1) a0) := by
 intro a0 k
 have ih0 := spec_l3Target.mono_l k
 unfold spec_l3Target.f
 repeat' first
  | (with_reducible exact ih0 _ _ _ _ _)
  | (with_reducible exact spec_l1Labels.mono _ _)
  | (with_reducible exact LeO.refl _)
  | (with_reducible exact LeO.none _)
  | (with_reducible refine LeO.ite ?_ ?_)
  | (with_reducible refine LeO.bind ?_ (fun _ => ?_))
  | exact ih0 _ _ _ _ _
  | exact spec_l1Labels.mono _ _
  | exact LeO.none _
  | refine LeO.ite ?_ ?_
  | refine LeO.bind ?_ (fun _ => ?_)
set_option maxHeartbeats 8000000 in
set_option maxRecDepth 100000 in
theorem spec_l3Target.calls (k : Nat) (a0 : ByteArray) (r : Bool) (w : World) (h : spec_l3Target.f k a0 = some r) :
 Calls Tryz.prog 119 #[.string a0] w fun e w' => e = .returned (.bool r) ∧ Below w.heap.size w w' := by
 have HB := a0_ (Below.refl w.heap.size w)
 have H := h
 clear h
 unfold spec_l3Target.f at H
 obtain ⟨⟨t148, t149⟩, A20, H⟩ := Option.bind_eq_some_iff.mp H
 have A2 := a0_ A20
 clear A20
 have H' := a0_ H
 clear H
 go_enter Tryz.func119, Tryz.ntmps119
 go_wp2_with (first | ((with_reducible refine gate_callee (f := 171) rfl ?_); refine goesL_ (some 9) rfl rfl Tryz.func171 (by kernel_rfl) rfl #[.string a0] rfl argsS_ ?_; (with_reducible refine (spec_l1Labels.calls k a0 t148 t149 _ A2.out).mono ?_); rintro e w3 ⟨v150, rfl, ho0, hb⟩; refine ⟨_, rfl, ?_⟩; have HO151 := a0_ (Kd.R_lower ho0 (below_size bq0_)); replace HB := a0_ (below_step bq0_ hb); clear hb; (try clear ho0); obtain ⟨Ao4, co4, eo4⟩ := Kd.R_slice HO151.out; subst eo4))
 go_loopg [4, 14] k (fun kq v4 v14 w' => ∃ (x4_1 : Bool) (x14_1 : Int), v4 = .bool x4_1 ∧ v14 = .int .i64 x14_1 ∧ Aside0 (spec_l3Target.l0 kq a0 x4_1 t148 (t148.length : Int) x14_1 = some r) ∧ Aside0 (kq ≤ k) ∧ Aside0 (Kd.R Kd.string 9 w' w.heap.size (fun _ => True) (.slice Ao4 t148.length co4) t148) ∧ Aside0 (Below w.heap.size w w'))
 case atStart => exact ⟨(t149), (0), rs_, rs_, H', ⟨Nat.le_refl _⟩, ⟨by (with_reducible repeat (first | apply Kd.R_alloc | apply Kd.R_drewN | apply Kd.R_drew)); exact HO151.out⟩, ⟨bq0_⟩⟩
 case round =>
  clear H'
  obtain ⟨x4_1, x14_1, rfl, rfl, HA, HK1, HO_12, HB⟩ := hrel
  cases gk with
  | zero => exact absurd HA.out (by simp [spec_l3Target.l0])
  | succ k1 =>
   have H := HA.out
   clear HA
   simp only [spec_l3Target.l0] at H
   by_cases c5 : x14_1 < (t148.length : Int)
   case neg =>
    rw [if_neg c5] at H
    have c5b0 := decide_eq_false c5
    clear c5
    by_cases c9 : x4_1 = true
    case pos =>
     subst c9
     rw [if_pos rfl] at H
     obtain rfl := Option.some.inj H
     go_wp2
     go_ret
     exact ⟨by first | rfl | (simp [errW_none, errW_some] <;> rfl) | (simp [*, errW_none, errW_some] <;> rfl) | (simp [errW_none, errW_some]; exact isEmpty_bne _), bq0_⟩
    replace c9 := Bool.eq_false_iff.mpr c9
    subst c9
    rw [if_neg (show ¬ (false = true) by decide)] at H
    obtain rfl := Option.some.inj H
    go_wp2
    go_ret
    exact ⟨by first | rfl | (simp [errW_none, errW_some] <;> rfl) | (simp [*, errW_none, errW_some] <;> rfl) | (simp [errW_none, errW_some]; exact isEmpty_bne _), bq0_⟩
   rw [if_pos c5] at H
   have c5b0 := decide_eq_true c5
   clear c5
   by_cases c6 : 0 ≤ x14_1
   case neg =>
    rw [if_neg c6] at H
    exact absurd H (by simp)
   rw [if_pos c6] at H
   have c6b0 := decide_eq_true c6
   clear c6
   by_cases c7 : x14_1 < (t148.length : Int)
   case neg =>
    rw [if_neg c7] at H
    exact absurd H (by simp)
   rw [if_pos c7] at H
   have c7b0 := decide_eq_true c7
   clear c7
   by_cases c8 : x4_1 = true
   case pos =>
    subst c8
    rw [if_pos rfl] at H
    have H' := a0_ H
    clear H
    have p152 : 0 ≤ (x14_1 : Int) := dec_
    have q152 : x14_1 < (t148.length : Int) := dec_
    obtain ⟨ad152, e152, hx152_0⟩ := Kd.at_string (Kd.R_reads' HO_12.out).2.2 x14_1 p152 q152
    cases e152
    replace p152 := eq_true p152
    replace q152 := eq_true q152
    go_wp2
    go_roundg k1
    case measure => have := HK1.out; omega
    case rel => exact ⟨(((rdOf ByteArray.empty t148 x14_1).toList != ([42] : List UInt8))), (wrap64 (x14_1 + 1)), rs_, rs_, H', ⟨by have := HK1.out; omega⟩, ⟨by (with_reducible repeat (first | apply Kd.R_alloc | apply Kd.R_drewN | apply Kd.R_drew)); exact HO_12.out⟩, ⟨bq0_⟩⟩
   replace c8 := Bool.eq_false_iff.mpr c8
   subst c8
   rw [if_neg (show ¬ (false = true) by decide)] at H
   have H' := a0_ H
   clear H
   have p152 : 0 ≤ (x14_1 : Int) := dec_
   have q152 : x14_1 < (t148.length : Int) := dec_
   obtain ⟨ad152, e152, hx152_0⟩ := Kd.at_string (Kd.R_reads' HO_12.out).2.2 x14_1 p152 q152
   cases e152
   replace p152 := eq_true p152
   replace q152 := eq_true q152
   go_wp2
   go_roundg k1
   case measure => have := HK1.out; omega
   case rel => exact ⟨(false), (wrap64 (x14_1 + 1)), rs_, rs_, H', ⟨by have := HK1.out; omega⟩, ⟨by (with_reducible repeat (first | apply Kd.R_alloc | apply Kd.R_drewN | apply Kd.R_drew)); exact HO_12.out⟩, ⟨bq0_⟩⟩
def spec_l2Bytes.l0 : Nat → ByteArray → List ByteArray → Int → Int → Option (ByteArray)
 | 0, _, _, _, _ => none
 | k + 1, x5, x13, x14, x15 => if x15 < x14 then (if 0 ≤ x15 then (if x15 < (x13.length : Int) then ((some (([(((rdOf ByteArray.empty x13 x15).size : Int)) % 256] : List Int) : List Int)).bind fun y158 => (if (strOfNums y158).size + (rdOf ByteArray.empty x13 x15).size ≤ 9223372036854775807 then (if x5.size + ((strOfNums y158) ++ (rdOf ByteArray.empty x13 x15)).size ≤ 9223372036854775807 then (spec_l2Bytes.l0 k (x5 ++ ((strOfNums y158) ++ (rdOf ByteArray.empty x13 x15))) x13 x14 (wrap64 (x15 + 1))) else (none)) else (none))) else (none)) else (none)) else (if x5.size + 1 ≤ 9223372036854775807 then (some (x5 ++ (⟨#[0]⟩ : ByteArray))) else (none))
def spec_l2Bytes.f (k : Nat) (a0 : ByteArray) : Option (ByteArray) := (spec_l1Labels.f k a0).bind fun bt153 => (spec_l2Bytes.l0 k (⟨#[]⟩ : ByteArray) bt153.1 (bt153.1.length : Int) 0)
theorem spec_l2Bytes.mono_l : ∀ k, (∀ y0 y1 y2 y3, LeO (spec_l2Bytes.l0 k y0 y1 y2 y3) (spec_l2Bytes.l0 (k + 1) y0 y1 y2 y3))
 | 0 => fun _ _ _ _ r h => by simp [spec_l2Bytes.l0] at h
 | k + 1 => by
  have ih0 := spec_l2Bytes.mono_l k
  · intro y0 y1 y2 y3
    unfold spec_l2Bytes.l0
    repeat' first
    | (with_reducible exact ih0 _ _ _ _)
    | (with_reducible exact spec_l1Labels.mono _ _)
    | (with_reducible exact LeO.refl _)
    | (with_reducible exact LeO.none _)
    | (with_reducible refine LeO.ite ?_ ?_)
    | (with_reducible refine LeO.bind ?_ (fun _ => ?_))
    | exact ih0 _ _ _ _
    | exact spec_l1Labels.mono _ _
    | exact LeO.none _
    | refine LeO.ite ?_ ?_
    | refine LeO.bind ?_ (fun _ => ?_)
theorem spec_l2Bytes.mono : ∀ a0 k, LeO (spec_l2Bytes.f k a0) (spec_l2Bytes.f (k + 1) a0) := by
 intro a0 k
 have ih0 := spec_l2Bytes.mono_l k
 unfold spec_l2Bytes.f
 repeat' first
  | (with_reducible exact ih0 _ _ _ _)
  | (with_reducible exact spec_l1Labels.mono _ _)
  | (with_reducible exact LeO.refl _)
  | (with_reducible exact LeO.none _)
  | (with_reducible refine LeO.ite ?_ ?_)
  | (with_reducible refine LeO.bind ?_ (fun _ => ?_))
  | exact ih0 _ _ _ _
  | exact spec_l1Labels.mono _ _
  | exact LeO.none _
  | refine LeO.ite ?_ ?_
  | refine LeO.bind ?_ (fun _ => ?_)
set_option maxHeartbeats 8000000 in
set_option maxRecDepth 100000 in
theorem spec_l2Bytes.calls (k : Nat) (a0 : ByteArray) (r : ByteArray) (w : World) (h : spec_l2Bytes.f k a0 = some r) :
 Calls Tryz.prog 120 #[.string a0] w fun e w' => e = .returned (.string r) ∧ Below w.heap.size w w' := by
 have HB := a0_ (Below.refl w.heap.size w)
 have H := h
 clear h
 unfold spec_l2Bytes.f at H
 obtain ⟨⟨t153, t154⟩, A20, H⟩ := Option.bind_eq_some_iff.mp H
 have A2 := a0_ A20
 clear A20
 have H' := a0_ H
 clear H
 go_enter Tryz.func120, Tryz.ntmps120
 go_wp2_with (first | ((with_reducible refine gate_callee (f := 171) rfl ?_); refine goesL_ (some 10) rfl rfl Tryz.func171 (by kernel_rfl) rfl #[.string a0] rfl argsS_ ?_; (with_reducible refine (spec_l1Labels.calls k a0 t153 t154 _ A2.out).mono ?_); rintro e w3 ⟨v155, rfl, ho0, hb⟩; refine ⟨_, rfl, ?_⟩; have HO156 := a0_ (Kd.R_lower ho0 (below_size bq0_)); replace HB := a0_ (below_step bq0_ hb); clear hb; (try clear ho0); obtain ⟨Ao4, co4, eo4⟩ := Kd.R_slice HO156.out; subst eo4))
 go_loopg [5, 15] k (fun kq v5 v15 w' => ∃ (x5_1 : ByteArray) (x15_1 : Int), v5 = .string x5_1 ∧ v15 = .int .i64 x15_1 ∧ Aside0 (spec_l2Bytes.l0 kq x5_1 t153 (t153.length : Int) x15_1 = some r) ∧ Aside0 (kq ≤ k) ∧ Aside0 (Kd.R Kd.string 9 w' w.heap.size (fun _ => True) (.slice Ao4 t153.length co4) t153) ∧ Aside0 (Below w.heap.size w w'))
 case atStart => exact ⟨((⟨#[]⟩ : ByteArray)), (0), rs_, rs_, H', ⟨Nat.le_refl _⟩, ⟨by (with_reducible repeat (first | apply Kd.R_alloc | apply Kd.R_drewN | apply Kd.R_drew)); exact HO156.out⟩, ⟨bq0_⟩⟩
 case round =>
  clear H'
  obtain ⟨x5_1, x15_1, rfl, rfl, HA, HK1, HO_13, HB⟩ := hrel
  cases gk with
  | zero => exact absurd HA.out (by simp [spec_l2Bytes.l0])
  | succ k1 =>
   have H := HA.out
   clear HA
   simp only [spec_l2Bytes.l0] at H
   by_cases c5 : x15_1 < (t153.length : Int)
   case neg =>
    rw [if_neg c5] at H
    have c5b0 := decide_eq_false c5
    clear c5
    by_cases c13 : x5_1.size + 1 ≤ 9223372036854775807
    case neg =>
     rw [if_neg c13] at H
     exact absurd H (by simp)
    rw [if_pos c13] at H
    have c13b0 := eq_true c13
    have c13b1 := decide_eq_true c13
    try have c13b2 : (9223372036854775807 < x5_1.size + 1) = False := eq_false (Nat.not_lt.2 c13)
    obtain rfl := Option.some.inj H
    go_wp2
    go_ret
    exact ⟨rr_, bq0_⟩
   rw [if_pos c5] at H
   have c5b0 := decide_eq_true c5
   clear c5
   by_cases c6 : 0 ≤ x15_1
   case neg =>
    rw [if_neg c6] at H
    exact absurd H (by simp)
   rw [if_pos c6] at H
   have c6b0 := decide_eq_true c6
   clear c6
   by_cases c7 : x15_1 < (t153.length : Int)
   case neg =>
    rw [if_neg c7] at H
    exact absurd H (by simp)
   rw [if_pos c7] at H
   have c7b0 := decide_eq_true c7
   clear c7
   obtain ⟨y158, hy158⟩ : ∃ y_ : List Int, y_ = (([(((rdOf ByteArray.empty t153 x15_1).size : Int)) % 256] : List Int)) := ⟨_, rfl⟩
   replace H : (if (strOfNums y158).size + (rdOf ByteArray.empty t153 x15_1).size ≤ 9223372036854775807 then (if x5_1.size + ((strOfNums y158) ++ (rdOf ByteArray.empty t153 x15_1)).size ≤ 9223372036854775807 then (spec_l2Bytes.l0 k1 (x5_1 ++ ((strOfNums y158) ++ (rdOf ByteArray.empty t153 x15_1))) t153 (t153.length : Int) (wrap64 (x15_1 + 1))) else (none)) else (none)) = some r := by first | (rw [hy158]; with_reducible exact H) | (have H2_ := (Option.bind_some _ _).symm.trans H; rw [hy158]; with_reducible exact H2_) | (have H2_ := (Option.bind_some _ _).symm.trans H; with_reducible exact H2_) | with_reducible exact H | (rw [hy158]; exact H) | exact H
   have Ny158 := a0_ hy158
   clear hy158
   by_cases c8 : (strOfNums y158).size + (rdOf ByteArray.empty t153 x15_1).size ≤ 9223372036854775807
   case neg =>
    rw [if_neg c8] at H
    exact absurd H (by simp)
   rw [if_pos c8] at H
   have c8b0 := eq_true c8
   have c8b1 := decide_eq_true c8
   try have c8b2 : (9223372036854775807 < (strOfNums y158).size + (rdOf ByteArray.empty t153 x15_1).size) = False := eq_false (Nat.not_lt.2 c8)
   by_cases c9 : x5_1.size + ((strOfNums y158) ++ (rdOf ByteArray.empty t153 x15_1)).size ≤ 9223372036854775807
   case neg =>
    rw [if_neg c9] at H
    exact absurd H (by simp)
   rw [if_pos c9] at H
   have c9b0 := eq_true c9
   have c9b1 := decide_eq_true c9
   try have c9b2 : (9223372036854775807 < x5_1.size + ((strOfNums y158) ++ (rdOf ByteArray.empty t153 x15_1)).size) = False := eq_false (Nat.not_lt.2 c9)
   have H' := a0_ H
   clear H
   have p157 : 0 ≤ (x15_1 : Int) := dec_
   have q157 : x15_1 < (t153.length : Int) := dec_
   obtain ⟨ad157, e157, hx157_0⟩ := Kd.at_string (Kd.R_reads' HO_13.out).2.2 x15_1 p157 q157
   cases e157
   replace p157 := eq_true p157
   replace q157 := eq_true q157
   go_wp2_with (first | ((with_reducible refine gate_dst (N := 23) rfl ?_); refine Kd.R_lit (Kd.int .u8) _ 5 ?hg (N := 23) ?hd (xs := ([(((rdOf ByteArray.empty t153 x15_1).size : Int)) % 256] : List Int)) (inner := [.int .u8 ((((rdOf ByteArray.empty t153 x15_1).size : Int)) % 256)]) (ok := fun _ => True) (okp := fun _ => True) ?hr ?hp (fun _ hk => hk) trivial (Below.refl _ _) (Nat.le_refl _) (by simp) ?_; (case hd => rfl); (case hg => rfl); (case hr => first | (go_simp; done) | (go_simp; rfl)); (case hp => exact (Reps.one (show Kd.M (Kd.int .u8) _ _ _ ((((rdOf ByteArray.empty t153 x15_1).size : Int)) % 256) [.int .u8 ((((rdOf ByteArray.empty t153 x15_1).size : Int)) % 256)] from rfl) (Reps.none _ _))); intro v159 w10 ho11 hb hg_ hnew_; clear hg_ hnew_; (first | rw [← Ny158.out] at ho11 | (simp only [Int.reduceToNat] at ho11; rw [← Ny158.out] at ho11)); replace HO_13 := a0_ (Kd.R_below (kR_ HO_13.out) hb); have HO160 := a0_ (Kd.R_lower ho11 (below_size bq0_)); replace HB := a0_ (below_step bq0_ hb); clear hb ho11; have hcv12 := own_string (P := Tryz.prog) Tryz.underlying43 Tryz.underlying5 Tryz.underlying9 (Kd.own_of_R HO160.out)))
   go_roundg k1
   case measure => have := HK1.out; omega
   case rel => exact ⟨(x5_1 ++ ((strOfNums y158) ++ (rdOf ByteArray.empty t153 x15_1))), (wrap64 (x15_1 + 1)), rs_, rs_, H', ⟨by have := HK1.out; omega⟩, ⟨by (with_reducible repeat (first | apply Kd.R_alloc | apply Kd.R_drewN | apply Kd.R_drew)); exact HO_13.out⟩, ⟨bq0_⟩⟩
end Go.Proofs.YtiegkjimpclmaaaGreatDoor.P
namespace Go.Proofs.YtiegkjimpclmaaaGreatDoor.P
open Go.RowKit Go.Proofs.YtiegkjimpclmaaaGreatDoorW.PrintWords Go.Proofs.YtiegkjimpclmaaaGreatDoorW.PrintLast Go.Proofs.YtiegkjimpclmaaaGreatDoorW.PrintMore
attribute [local go_sem] max2_int min2_int max_two min_two max_three min_three max_four min_four
set_option linter.unusedVariables false
set_option linter.unusedSimpArgs false
attribute [local go_sem] gtr_less
mutual
def spec_l1Compare.l0 : Nat → List ByteArray → List ByteArray → Int → Option (Int)
 | 0, _, _, _ => none
 | k + 1, x5, x7, x9 => if x9 ≤ (x5.length : Int) then (spec_l1Compare.j1 k x5 x7 x9 (decide (x9 ≤ (x7.length : Int)))) else (spec_l1Compare.j1 k x5 x7 x9 false)
def spec_l1Compare.j1 : Nat → List ByteArray → List ByteArray → Int → Bool → Option (Int)
 | 0, _, _, _, _ => none
 | k + 1, x5, x7, x9, x31 => if x31 = true then (if 0 ≤ (wrap64 ((x5.length : Int) - x9)) then (if (wrap64 ((x5.length : Int) - x9)) < (x5.length : Int) then (if 0 ≤ (wrap64 ((x7.length : Int) - x9)) then (if (wrap64 ((x7.length : Int) - x9)) < (x7.length : Int) then (if (Op.bytesLess ((rdOf ByteArray.empty x5 (wrap64 ((x5.length : Int) - x9))).toList) ((rdOf ByteArray.empty x7 (wrap64 ((x7.length : Int) - x9))).toList)) = true then (some (-1)) else (if (Op.bytesLess ((rdOf ByteArray.empty x7 (wrap64 ((x7.length : Int) - x9))).toList) ((rdOf ByteArray.empty x5 (wrap64 ((x5.length : Int) - x9))).toList)) = true then (some 1) else (spec_l1Compare.l0 k x5 x7 (wrap64 (x9 + 1))))) else (none)) else (none)) else (none)) else (none)) else (if (x5.length : Int) < (x7.length : Int) then (some (-1)) else (if (x5.length : Int) > (x7.length : Int) then (some 1) else (some 0)))
end
def spec_l1Compare.f (k : Nat) (a0 : ByteArray) (a1 : ByteArray) : Option (Int) := (spec_l1Labels.f k a0).bind fun bt296 => ((spec_l1Labels.f k a1).bind fun bt300 => (spec_l1Compare.l0 k bt296.1 bt300.1 1))
set_option maxHeartbeats 8000000 in
set_option maxRecDepth 100000 in
theorem spec_l1Compare.calls (k : Nat) (a0 : ByteArray) (a1 : ByteArray) (r : Int) (w : World) (h : spec_l1Compare.f k a0 a1 = some r) :
 Calls Tryz.prog 128 #[.string a0, .string a1] w fun e w' => e = .returned (.int .i64 r) ∧ Below w.heap.size w w' := by
 have HB := a0_ (Below.refl w.heap.size w)
 have H := h
 clear h
 unfold spec_l1Compare.f at H
 obtain ⟨⟨t296, t297⟩, A30, H⟩ := Option.bind_eq_some_iff.mp H
 have A3 := a0_ A30
 clear A30
 obtain ⟨⟨t300, t301⟩, A40, H⟩ := Option.bind_eq_some_iff.mp H
 have A4 := a0_ A40
 clear A40
 have H' := a0_ H
 clear H
 go_enter Tryz.func128, Tryz.ntmps128
 go_wp2_with (first | ((with_reducible refine gate_callee (f := 171) rfl ?_); refine goesL_ (some 14) rfl rfl Tryz.func171 (by kernel_rfl) rfl #[.string a0] rfl argsS_ ?_; (with_reducible refine (spec_l1Labels.calls k a0 t296 t297 _ A3.out).mono ?_); rintro e w5 ⟨v298, rfl, ho0, hb⟩; refine ⟨_, rfl, ?_⟩; have HO299 := a0_ (Kd.R_lower ho0 (below_size bq0_)); replace HB := a0_ (below_step bq0_ hb); clear hb; (try clear ho0)) | ((with_reducible refine gate_callee (f := 171) rfl ?_); refine goesL_ (some 19) rfl rfl Tryz.func171 (by kernel_rfl) rfl #[.string a1] rfl argsS_ ?_; (with_reducible refine (spec_l1Labels.calls k a1 t300 t301 _ A4.out).mono ?_); rintro e w6 ⟨v302, rfl, ho0, hb⟩; refine ⟨_, rfl, ?_⟩; have n0_ := a0_ (Kd.R_elder' (kR_ HO299.out) (Kd.R_base ho0) hb); have n1_ := a0_ (Kd.R_lower (Kd.R_new' ho0 (Kd.R_lt (kR_ HO299.out))) (below_size bq0_)); have n2_ := a0_ (below_step bq0_ hb); clear HO299; clear HB; have HO299 := n0_; have HO303 := n1_; have HB := n2_; clear n0_ n1_ n2_; clear hb; (try clear ho0)))
 go_loopg [9] k (fun kq v9 w' => ∃ (x9_1 : Int), v9 = .int .i64 x9_1 ∧ Aside0 (spec_l1Compare.l0 kq t296 t300 x9_1 = some r) ∧ Aside0 (kq ≤ k) ∧ Aside0 (Kd.R Kd.string 9 w' w.heap.size (fun k_ => some k_ ≠ (v302 : Value).ownBlock) v298 t296) ∧ Aside0 (Kd.R Kd.string 9 w' w.heap.size (fun k_ => some k_ ≠ (v298 : Value).ownBlock) v302 t300) ∧ Aside0 (Below w.heap.size w w'))
 case atStart => exact ⟨(1), rs_, H', ⟨Nat.le_refl _⟩, ⟨by (with_reducible repeat (first | apply Kd.R_alloc | apply Kd.R_drewN | apply Kd.R_drew)); exact Kd.R_mono HO299.out (fun _ hk => hk.2)⟩, ⟨by (with_reducible repeat (first | apply Kd.R_alloc | apply Kd.R_drewN | apply Kd.R_drew)); exact Kd.R_mono HO303.out (fun _ hk => hk.2)⟩, ⟨bq0_⟩⟩
 case round =>
  clear H'
  obtain ⟨x9_1, rfl, HA, HK1, HO_5, HO_7, HB⟩ := hrel
  cases gk with
  | zero => exact absurd HA.out (by simp [spec_l1Compare.l0])
  | succ k1 =>
   have H := HA.out
   clear HA
   simp only [spec_l1Compare.l0] at H
   have HC7 := a0_ H
   clear H
   go_upto_region 4 with (fail)
   go_cut [31] (fun v31 wc => ∃ (kq : Nat) (x31_6 : Bool), v31 = .bool x31_6 ∧ Aside0 (spec_l1Compare.j1 kq t296 t300 x9_1 x31_6 = some r) ∧ Aside0 (kq ≤ k1) ∧ Aside0 (Kd.R Kd.string 9 wc w.heap.size (fun k_ => some k_ ≠ (v302 : Value).ownBlock) v298 t296) ∧ Aside0 (Kd.R Kd.string 9 wc w.heap.size (fun k_ => some k_ ≠ (v298 : Value).ownBlock) v302 t300) ∧ Aside0 (Below w.heap.size w wc))
   case first =>
    have H := HC7.out
    clear HC7
    by_cases c8 : x9_1 ≤ (t296.length : Int)
    case neg =>
     rw [if_neg c8] at H
     have c8b0 := decide_eq_false c8
     clear c8
     (first | rw [c8b0] | (simp only [i64_w, i32_w]; rw [c8b0]) | skip)
     have H' := a0_ H
     clear H
     obtain ⟨Ao11, co11, eo11⟩ := Kd.R_slice HO_5.out
     subst eo11
     go_wp2
     go_meet
     case rel => exact ⟨_, (false), rs_, H', ⟨by have := HK1.out; first | omega | exact Nat.le_refl _⟩, ⟨by (with_reducible repeat (first | apply Kd.R_alloc | apply Kd.R_drewN | apply Kd.R_drew)); exact HO_5.out⟩, ⟨by (with_reducible repeat (first | apply Kd.R_alloc | apply Kd.R_drewN | apply Kd.R_drew)); exact HO_7.out⟩, ⟨bq0_⟩⟩
    rw [if_pos c8] at H
    have c8b0 := decide_eq_true c8
    clear c8
    (first | rw [c8b0] | (simp only [i64_w, i32_w]; rw [c8b0]) | skip)
    have H' := a0_ H
    clear H
    obtain ⟨Ao9, co9, eo9⟩ := Kd.R_slice HO_5.out
    subst eo9
    obtain ⟨Ao10, co10, eo10⟩ := Kd.R_slice HO_7.out
    subst eo10
    go_wp2
    go_meet
    case rel => exact ⟨_, (decide (x9_1 ≤ (t300.length : Int))), rs_, H', ⟨by have := HK1.out; first | omega | exact Nat.le_refl _⟩, ⟨by (with_reducible repeat (first | apply Kd.R_alloc | apply Kd.R_drewN | apply Kd.R_drew)); exact HO_5.out⟩, ⟨by (with_reducible repeat (first | apply Kd.R_alloc | apply Kd.R_drewN | apply Kd.R_drew)); exact HO_7.out⟩, ⟨bq0_⟩⟩
   case rest =>
    clear HC7
    try clear c1
    try clear p2
    try clear p2
    obtain ⟨kq, x31_6, rfl, HA, HJ6, HO_5, HO_7, HB⟩ := hcut
    cases kq with
    | zero => exact absurd HA.out (by simp [spec_l1Compare.j1])
    | succ kj6 =>
     have H := HA.out
     clear HA
     simp only [spec_l1Compare.j1] at H
     by_cases c12 : x31_6 = true
     case neg =>
      replace c12 := Bool.eq_false_iff.mpr c12
      subst c12
      rw [if_neg (show ¬ (false = true) by decide)] at H
      by_cases c27 : (t296.length : Int) < (t300.length : Int)
      case pos =>
       rw [if_pos c27] at H
       have c27b0 := decide_eq_true c27
       have c27b1 : decide (t296.length < t300.length) = true := decide_eq_true (Int.ofNat_lt.mp c27)
       clear c27
       obtain rfl := Option.some.inj H
       obtain ⟨Ao28, co28, eo28⟩ := Kd.R_slice HO_5.out
       subst eo28
       obtain ⟨Ao29, co29, eo29⟩ := Kd.R_slice HO_7.out
       subst eo29
       go_wp2
       go_ret
       exact ⟨rr_, bq0_⟩
      rw [if_neg c27] at H
      have c27b0 := decide_eq_false c27
      have c27b1 : decide (t296.length < t300.length) = false := decide_eq_false (fun h => c27 (Int.ofNat_lt.mpr h))
      clear c27
      by_cases c30 : (t296.length : Int) > (t300.length : Int)
      case neg =>
       rw [if_neg c30] at H
       have c30b0 := decide_eq_false c30
       have c30b1 : decide (t300.length < t296.length) = false := decide_eq_false (fun h => c30 (Int.ofNat_lt.mpr h))
       clear c30
       obtain rfl := Option.some.inj H
       obtain ⟨Ao33, co33, eo33⟩ := Kd.R_slice HO_5.out
       subst eo33
       obtain ⟨Ao34, co34, eo34⟩ := Kd.R_slice HO_7.out
       subst eo34
       go_wp2
       go_ret
       exact ⟨rr_, bq0_⟩
      rw [if_pos c30] at H
      have c30b0 := decide_eq_true c30
      have c30b1 : decide (t300.length < t296.length) = true := decide_eq_true (Int.ofNat_lt.mp c30)
      clear c30
      obtain rfl := Option.some.inj H
      obtain ⟨Ao31, co31, eo31⟩ := Kd.R_slice HO_5.out
      subst eo31
      obtain ⟨Ao32, co32, eo32⟩ := Kd.R_slice HO_7.out
      subst eo32
      go_wp2
      go_ret
      exact ⟨rr_, bq0_⟩
     subst c12
     rw [if_pos rfl] at H
     obtain ⟨ji13, hji13⟩ : ∃ j_ : Int, (wrap64 ((t296.length : Int) - x9_1)) = j_ := ⟨_, rfl⟩
     (first | rw [hji13] at H | simp only [hji13] at H)
     have hji13w : (IntKind.i64.wrap ((t296.length : Int) - x9_1)) = ji13 := (i64_w _).trans hji13
     by_cases c14 : 0 ≤ (ji13)
     case neg =>
      rw [if_neg c14] at H
      exact absurd H (by simp)
     rw [if_pos c14] at H
     have c14b0 := decide_eq_true c14
     clear c14
     by_cases c15 : (ji13) < (t296.length : Int)
     case neg =>
      rw [if_neg c15] at H
      exact absurd H (by simp)
     rw [if_pos c15] at H
     have c15b0 := decide_eq_true c15
     clear c15
     obtain ⟨ji16, hji16⟩ : ∃ j_ : Int, (wrap64 ((t300.length : Int) - x9_1)) = j_ := ⟨_, rfl⟩
     (first | rw [hji16] at H | simp only [hji16] at H)
     have hji16w : (IntKind.i64.wrap ((t300.length : Int) - x9_1)) = ji16 := (i64_w _).trans hji16
     by_cases c17 : 0 ≤ (ji16)
     case neg =>
      rw [if_neg c17] at H
      exact absurd H (by simp)
     rw [if_pos c17] at H
     have c17b0 := decide_eq_true c17
     clear c17
     by_cases c18 : (ji16) < (t300.length : Int)
     case neg =>
      rw [if_neg c18] at H
      exact absurd H (by simp)
     rw [if_pos c18] at H
     have c18b0 := decide_eq_true c18
     clear c18
     by_cases c19 : (Op.bytesLess ((rdOf ByteArray.empty t296 (ji13)).toList) ((rdOf ByteArray.empty t300 (ji16)).toList)) = true
     case pos =>
      rw [if_pos c19] at H
      have c19b0 : (Op.bytesLess ((rdOf ByteArray.empty t296 (ji13)).toList) ((rdOf ByteArray.empty t300 (ji16)).toList)) = true := c19
      clear c19
      obtain rfl := Option.some.inj H
      obtain ⟨Ao20, co20, eo20⟩ := Kd.R_slice HO_5.out
      subst eo20
      have p304 : 0 ≤ ((ji13) : Int) := dec_
      have q304 : (ji13) < (t296.length : Int) := dec_
      obtain ⟨ad304, e304, hx304_0⟩ := Kd.at_string (Kd.R_reads' HO_5.out).2.2 (ji13) p304 q304
      cases e304
      replace p304 := eq_true p304
      replace q304 := eq_true q304
      obtain ⟨Ao21, co21, eo21⟩ := Kd.R_slice HO_7.out
      subst eo21
      have p305 : 0 ≤ ((ji16) : Int) := dec_
      have q305 : (ji16) < (t300.length : Int) := dec_
      obtain ⟨ad305, e305, hx305_0⟩ := Kd.at_string (Kd.R_reads' HO_7.out).2.2 (ji16) p305 q305
      cases e305
      replace p305 := eq_true p305
      replace q305 := eq_true q305
      go_wp2
      go_ret
      exact ⟨by first | rfl | (simp [errW_none, errW_some] <;> rfl) | (simp only [← hji13, ← hji16]; first | rfl | (simp [errW_none, errW_some] <;> rfl)) | (simp [*, errW_none, errW_some] <;> rfl), bq0_⟩
     rw [if_neg c19] at H
     have c19b0 : (Op.bytesLess ((rdOf ByteArray.empty t296 (ji13)).toList) ((rdOf ByteArray.empty t300 (ji16)).toList)) = false := by simpa using c19
     clear c19
     by_cases c22 : (Op.bytesLess ((rdOf ByteArray.empty t300 (ji16)).toList) ((rdOf ByteArray.empty t296 (ji13)).toList)) = true
     case pos =>
      rw [if_pos c22] at H
      have c22b0 : (Op.bytesLess ((rdOf ByteArray.empty t300 (ji16)).toList) ((rdOf ByteArray.empty t296 (ji13)).toList)) = true := c22
      clear c22
      obtain rfl := Option.some.inj H
      obtain ⟨Ao23, co23, eo23⟩ := Kd.R_slice HO_5.out
      subst eo23
      have p304 : 0 ≤ ((ji13) : Int) := dec_
      have q304 : (ji13) < (t296.length : Int) := dec_
      obtain ⟨ad304, e304, hx304_0⟩ := Kd.at_string (Kd.R_reads' HO_5.out).2.2 (ji13) p304 q304
      cases e304
      replace p304 := eq_true p304
      replace q304 := eq_true q304
      obtain ⟨Ao24, co24, eo24⟩ := Kd.R_slice HO_7.out
      subst eo24
      have p305 : 0 ≤ ((ji16) : Int) := dec_
      have q305 : (ji16) < (t300.length : Int) := dec_
      obtain ⟨ad305, e305, hx305_0⟩ := Kd.at_string (Kd.R_reads' HO_7.out).2.2 (ji16) p305 q305
      cases e305
      replace p305 := eq_true p305
      replace q305 := eq_true q305
      go_wp2
      go_ret
      exact ⟨by first | rfl | (simp [errW_none, errW_some] <;> rfl) | (simp only [← hji13, ← hji16]; first | rfl | (simp [errW_none, errW_some] <;> rfl)) | (simp [*, errW_none, errW_some] <;> rfl), bq0_⟩
     rw [if_neg c22] at H
     have c22b0 : (Op.bytesLess ((rdOf ByteArray.empty t300 (ji16)).toList) ((rdOf ByteArray.empty t296 (ji13)).toList)) = false := by simpa using c22
     clear c22
     have H' := a0_ H
     clear H
     obtain ⟨Ao25, co25, eo25⟩ := Kd.R_slice HO_5.out
     subst eo25
     have p304 : 0 ≤ ((ji13) : Int) := dec_
     have q304 : (ji13) < (t296.length : Int) := dec_
     obtain ⟨ad304, e304, hx304_0⟩ := Kd.at_string (Kd.R_reads' HO_5.out).2.2 (ji13) p304 q304
     cases e304
     replace p304 := eq_true p304
     replace q304 := eq_true q304
     obtain ⟨Ao26, co26, eo26⟩ := Kd.R_slice HO_7.out
     subst eo26
     have p305 : 0 ≤ ((ji16) : Int) := dec_
     have q305 : (ji16) < (t300.length : Int) := dec_
     obtain ⟨ad305, e305, hx305_0⟩ := Kd.at_string (Kd.R_reads' HO_7.out).2.2 (ji16) p305 q305
     cases e305
     replace p305 := eq_true p305
     replace q305 := eq_true q305
     go_wp2
     go_roundg kj6
     case measure => have := HK1.out; have := HJ6.out; omega
     case rel => exact ⟨(wrap64 (x9_1 + 1)), rs_, H', ⟨by have := HK1.out; have := HJ6.out; omega⟩, ⟨by (with_reducible repeat (first | apply Kd.R_alloc | apply Kd.R_drewN | apply Kd.R_drew)); exact HO_5.out⟩, ⟨by (with_reducible repeat (first | apply Kd.R_alloc | apply Kd.R_drewN | apply Kd.R_drew)); exact HO_7.out⟩, ⟨bq0_⟩⟩
end Go.Proofs.YtiegkjimpclmaaaGreatDoor.P
namespace Go.Proofs.YtiegkjimpclmaaaGreatDoor.P
open Go.RowKit Go.Proofs.YtiegkjimpclmaaaGreatDoorW.PrintWords Go.Proofs.YtiegkjimpclmaaaGreatDoorW.PrintLast Go.Proofs.YtiegkjimpclmaaaGreatDoorW.PrintMore
set_option linter.unusedVariables false
theorem within_eq (n a b : Int) : impl_within.f n a b = some (decide (a ≤ n ∧ n ≤ b)) := by
 unfold impl_within.f
 by_cases h : n ≥ a
 · rw [if_pos h]; congr 1; rw [decide_eq_decide]; omega
 · rw [if_neg h]; congr 1; rw [eq_comm, decide_eq_false_iff_not]; omega
theorem cutset_byte (b : UInt8) : (([97, 98, 99, 100, 101, 102, 103, 104, 105, 106, 107, 108, 109, 110, 111, 112, 113, 114, 115, 116, 117, 118, 119, 120, 121, 122, 48, 49, 50, 51, 52, 53, 54, 55, 56, 57, 45, 95] : List UInt8).contains b) = labelByte b := by
 have h : ∀ n : Fin 256, (([97, 98, 99, 100, 101, 102, 103, 104, 105, 106, 107, 108, 109, 110, 111, 112, 113, 114, 115, 116, 117, 118, 119, 120, 121, 122, 48, 49, 50, 51, 52, 53, 54, 55, 56, 57, 45, 95] : List UInt8).contains (UInt8.ofFin n)) = labelByte (UInt8.ofFin n) := by decide +kernel
 exact h b.toFin
theorem isLabel_eq (s : ByteArray) : impl_isLabel.f s = some (isLabelL s.data.toList) := by
 unfold impl_isLabel.f isLabelL
 rw [Lib.toList_data, within_eq]
 by_cases h0 : s.data.toList = [42]
 · rw [if_pos h0, h0]; rfl
 · rw [if_neg h0, show (s.data.toList == [42]) = false from beq_eq_false_iff_ne.mpr h0, Bool.false_or]
   simp only [Option.bind_some]
   have hl : decide ((1 : Int) ≤ (s.size : Int) ∧ (s.size : Int) ≤ 20) = decide (1 ≤ s.data.toList.length ∧ s.data.toList.length ≤ 20) := by
    rw [decide_eq_decide, size_len]; omega
   rw [hl]
   by_cases h1 : 1 ≤ s.data.toList.length ∧ s.data.toList.length ≤ 20
   · rw [decide_eq_true h1, if_pos rfl, Bool.true_and]
     unfold strings_Trim.f
     rw [if_pos (by rw [size_len]; omega), if_pos (by decide), if_pos (by decide)]
     simp only [Option.bind_some]
     congr 1
     rw [Lib.toList_data, mkB_data]
     have ht := trimS_nil s.data.toList [97, 98, 99, 100, 101, 102, 103, 104, 105, 106, 107, 108, 109, 110, 111, 112, 113, 114, 115, 116, 117, 118, 119, 120, 121, 122, 48, 49, 50, 51, 52, 53, 54, 55, 56, 57, 45, 95]
     have ha : s.data.toList.all (([97, 98, 99, 100, 101, 102, 103, 104, 105, 106, 107, 108, 109, 110, 111, 112, 113, 114, 115, 116, 117, 118, 119, 120, 121, 122, 48, 49, 50, 51, 52, 53, 54, 55, 56, 57, 45, 95] : List UInt8).contains ·) = s.data.toList.all labelByte := by
      congr 1
      funext b
      exact cutset_byte b
     rw [ha] at ht
     show (Lib.trimS s.data.toList [97, 98, 99, 100, 101, 102, 103, 104, 105, 106, 107, 108, 109, 110, 111, 112, 113, 114, 115, 116, 117, 118, 119, 120, 121, 122, 48, 49, 50, 51, 52, 53, 54, 55, 56, 57, 45, 95] == []) = _
     cases hb : s.data.toList.all labelByte with
     | true => rw [ht.2 hb]; rfl
     | false =>
      rw [beq_eq_false_iff_ne]
      intro h
      rw [ht.1 h] at hb
      cases hb
   · rw [decide_eq_false h1]
     rfl
theorem labelsOf_eq (s : ByteArray) (h : s.size < 4294967281) : impl_labelsOf.f s = some ((labelsL s.data.toList).map mkB) := by
 unfold impl_labelsOf.f labelsL strings_Split.f
 rw [Lib.toList_data]
 by_cases h0 : s.data.toList = []
 · rw [if_pos h0, if_pos h0]; rfl
 · rw [if_neg h0, if_neg h0, if_pos (show (⟨#[46]⟩ : ByteArray).size = 1 from rfl), if_pos h]; rfl
theorem good_closure (x : ByteArray) (W : World) : Calls Tryz.prog 146 #[.string x] W fun e W' => e = .returned (.bool (!isLabelL x.data.toList)) ∧ Below W.heap.size W W' :=
 impl_GoodName_1.calls x _ W (by unfold impl_GoodName_1.f; rw [isLabel_eq]; rfl)
def impl_GoodName.f (s : ByteArray) : Option Bool := some (goodL s.data.toList)
set_option maxHeartbeats 4000000 in
theorem impl_GoodName.calls (a0 : ByteArray) (r : Bool) (w : World) (h : impl_GoodName.f a0 = some r) :
 Calls Tryz.prog 83 #[.string a0] w fun e w' => e = .returned (.bool r) ∧ Below w.heap.size w w' := by
 have HG : Aside0 (goodL a0.data.toList = r) := ⟨Option.some.inj h⟩
 clear h
 by_cases h1 : 60 < a0.size
 · have hg : goodL a0.data.toList = false := by
    unfold goodL
    rw [decide_eq_false (by rw [← size_len]; omega)]
    rfl
   obtain rfl := hg.symm.trans HG.out
   have h2 : decide (60 < a0.size) = true := decide_eq_true h1
   have h3 : decide ((60 : Int) < (a0.size : Int)) = true := decide_eq_true (by omega)
   clear HG hg h1
   go_enter Tryz.func83, Tryz.ntmps83
   go_wp2
   go_ret
   exact ⟨rfl, Below.refl _ _⟩
 · have h2 : decide (60 < a0.size) = false := decide_eq_false h1
   have h3 : decide ((60 : Int) < (a0.size : Int)) = false := decide_eq_false (by omega)
   have cl := impl_labelsOf.calls a0 _ w (labelsOf_eq a0 (by omega))
   have eg : ∀ args w, (callFunc 146 args).run Tryz.prog w = .ok (.enter 146 args) w := enters_of Tryz.func146 (by kernel_rfl) rfl
   have cc := fun A c W hr => contains_str A c ((labelsL a0.data.toList).map mkB) 146 #[] (fun x => !isLabelL x.data.toList) W hr eg (fun x _ W' _ => good_closure x W')
   have hany : ((labelsL a0.data.toList).map mkB).any (fun x => !isLabelL x.data.toList) = !(labelsL a0.data.toList).all isLabelL := by
    rw [List.any_map, List.not_all_eq_any_not]
    simp [Function.comp_def, mkB_data]
   have hlen : ((labelsL a0.data.toList).map mkB).length = (labelsL a0.data.toList).length := List.length_map ..
   have hgd : goodL a0.data.toList = (decide ((labelsL a0.data.toList).length ≤ 8) && (labelsL a0.data.toList).all isLabelL) := by
    unfold goodL
    rw [decide_eq_true (by rw [← size_len]; omega), Bool.true_and]
   rw [hany] at cc
   rw [hgd] at HG
   generalize (labelsL a0.data.toList).map mkB = ls at cl cc hlen
   generalize (labelsL a0.data.toList).length = n at hlen HG
   generalize (labelsL a0.data.toList).all isLabelL = b at cc HG
   clear h1 hany hgd
   by_cases h8 : ls.length ≤ 8
   · have h8a : decide (ls.length ≤ 8) = true := decide_eq_true h8
     have h8b : decide ((ls.length : Int) ≤ 8) = true := decide_eq_true (by omega)
     have hr : b = r := by
      have := HG.out
      rwa [decide_eq_true (by omega), Bool.true_and] at this
     subst hr
     clear HG hlen h8
     go_enter Tryz.func83, Tryz.ntmps83
     go_wp2_with (first | (go_at_call 144; refine cl.mono ?_; rintro e w1 ⟨v, rfl, hR, hb⟩; obtain ⟨A, c, rfl⟩ := Kd.R_slice hR; have hC := (Kd.R_reads' hR).2.2) | (go_at_call 145; refine (cc A c _ hC).mono ?_; rintro e w2 ⟨rfl, hb2⟩))
     go_ret
     exact ⟨by simp, below_then hb hb.size hb2⟩
   · have h8a : decide (ls.length ≤ 8) = false := decide_eq_false h8
     have h8b : decide ((ls.length : Int) ≤ 8) = false := decide_eq_false (by omega)
     have hr : false = r := by
      have := HG.out
      rwa [decide_eq_false (by omega), Bool.false_and] at this
     subst hr
     clear HG hlen h8
     go_enter Tryz.func83, Tryz.ntmps83
     go_wp2_with (first | (go_at_call 144; refine cl.mono ?_; rintro e w1 ⟨v, rfl, hR, hb⟩; obtain ⟨A, c, rfl⟩ := Kd.R_slice hR; have hC := (Kd.R_reads' hR).2.2))
     go_ret
     exact ⟨rfl, hb⟩
end Go.Proofs.YtiegkjimpclmaaaGreatDoor.P
