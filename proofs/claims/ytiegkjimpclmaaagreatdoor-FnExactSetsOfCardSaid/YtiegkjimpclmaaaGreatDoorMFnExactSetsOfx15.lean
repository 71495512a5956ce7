/- FnExactSetsOf: part 16 of 28 of my texts for this claim, joined; the theorem stands in the last. Conditions: none beyond the statement's. -/
import Derived.Test.YtiegkjimpclmaaaGreatDoorMFnExactSetsOfx14
namespace Go.Proofs.YtiegkjimpclmaaaGreatDoor.P
open Go.RowKit Go.Proofs.YtiegkjimpclmaaaGreatDoorW.PrintWords Go.Proofs.YtiegkjimpclmaaaGreatDoorW.PrintLast Go.Proofs.YtiegkjimpclmaaaGreatDoorW.PrintMore
attribute [local go_sem] max2_int min2_int max_two min_two max_three min_three max_four min_four
set_option linter.unusedVariables false
set_option linter.unusedSimpArgs false
def impl_compareNames.f (k : Nat) (a0 : ByteArray) (a1 : ByteArray) : Option (Int) := (impl_labelsOf.f a0).bind fun t378 => ((impl_labelsOf.f a1).bind fun t381 => ((slices_Reverse_string_string.f k t378).bind fun t384 => ((slices_Reverse_string_string.f k t381).bind fun t385 => ((slices_Compare_string_string.f k t384 t385).bind fun t386 => (some t386)))))
set_option maxHeartbeats 8000000 in
set_option maxRecDepth 100000 in
theorem impl_compareNames.calls (k : Nat) (a0 : ByteArray) (a1 : ByteArray) (r : Int) (w : World) (h : impl_compareNames.f k a0 a1 = some r) :
 Calls Tryz.prog 132 #[.string a0, .string a1] w fun e w' => e = .returned (.int .i64 r) ∧ Below w.heap.size w w' := by
 have HB := a0_ (Below.refl w.heap.size w)
 have H := h
 clear h
 unfold impl_compareNames.f at H
 obtain ⟨t378, A30, H⟩ := Option.bind_eq_some_iff.mp H
 have A3 := a0_ A30
 clear A30
 obtain ⟨t381, A40, H⟩ := Option.bind_eq_some_iff.mp H
 have A4 := a0_ A40
 clear A40
 obtain ⟨t384, A50, H⟩ := Option.bind_eq_some_iff.mp H
 have A5 := a0_ A50
 clear A50
 obtain ⟨t385, A60, H⟩ := Option.bind_eq_some_iff.mp H
 have A6 := a0_ A60
 clear A60
 obtain ⟨t386, A70, H⟩ := Option.bind_eq_some_iff.mp H
 have A7 := a0_ A70
 clear A70
 obtain rfl := Option.some.inj H
 go_enter Tryz.func132, Tryz.ntmps132
 go_wp2_with (first | ((with_reducible refine gate_callee (f := 144) rfl ?_); refine goesL_ (some 8) rfl rfl Tryz.func144 (by kernel_rfl) rfl #[.string a0] rfl argsS_ ?_; (with_reducible refine (impl_labelsOf.calls a0 t378 _ A3.out).mono ?_); rintro e w8 ⟨v379, rfl, ho0, hb⟩; refine ⟨_, rfl, ?_⟩; have HO380 := a0_ (Kd.R_lower ho0 (below_size bq0_)); replace HB := a0_ (below_step bq0_ hb); clear hb; (try clear ho0)) | ((with_reducible refine gate_callee (f := 144) rfl ?_); refine goesL_ (some 10) rfl rfl Tryz.func144 (by kernel_rfl) rfl #[.string a1] rfl argsS_ ?_; (with_reducible refine (impl_labelsOf.calls a1 t381 _ A4.out).mono ?_); rintro e w9 ⟨v382, rfl, ho0, hb⟩; refine ⟨_, rfl, ?_⟩; have n0_ := a0_ (Kd.R_elder' (kR_ HO380.out) (Kd.R_base ho0) hb); have n1_ := a0_ (Kd.R_lower (Kd.R_new' ho0 (Kd.R_lt (kR_ HO380.out))) (below_size bq0_)); have n2_ := a0_ (below_step bq0_ hb); clear HO380; clear HB; have HO380 := n0_; have HO383 := n1_; have HB := n2_; clear n0_ n1_ n2_; clear hb; (try clear ho0); obtain ⟨Ao10, co10, eo10⟩ := Kd.R_slice HO380.out; subst eo10) | ((with_reducible refine gate_callee (f := 177) rfl ?_); refine goesL_ (some 12) rfl rfl Tryz.func177 (by kernel_rfl) rfl #[.slice Ao10 t378.length co10] rfl argsS_ ?_; (with_reducible refine (slices_Reverse_string_string.calls k (fun k_ => some k_ = (.slice Ao10 t378.length co10 : Value).ownBlock) (.slice Ao10 t378.length co10) t378 t384 w _ ?side1 ?side2 A5.out).mono ?_); (case side1 => exact bq2_); (case side2 => exact Kd.R_tight rfl HO380.out); rintro e w11 ⟨rfl, hy0, hb, hkp⟩; refine ⟨_, rfl, ?_⟩; replace HO380 := a0_ (Kd.R_reok rfl hy0 (fun k_ e_ => HO380.out.1 k_ e_)); replace HO383 := a0_ (Kd.R_mono (ok' := fun k_ => nw_ k_ Ao10 t378.length co10) (Kd.R_keptB (HO383.out) hkp (fun k_ hk_ hs_ => (hk_.2) hs_)) (fun k_ hk_ => hk_.1.2)); replace HB := a0_ (hb); clear hb; (try clear hkp); (try clear hy0); obtain ⟨Ao12, co12, eo12⟩ := Kd.R_slice HO383.out; subst eo12) | ((with_reducible refine gate_callee (f := 177) rfl ?_); refine goesL_ (some 14) rfl rfl Tryz.func177 (by kernel_rfl) rfl #[.slice Ao12 t381.length co12] rfl argsS_ ?_; (with_reducible refine (slices_Reverse_string_string.calls k (fun k_ => some k_ = (.slice Ao12 t381.length co12 : Value).ownBlock) (.slice Ao12 t381.length co12) t381 t385 w _ ?side1 ?side2 A6.out).mono ?_); (case side1 => exact bq2_); (case side2 => exact Kd.R_tight rfl HO383.out); rintro e w13 ⟨rfl, hy0, hb, hkp⟩; refine ⟨_, rfl, ?_⟩; replace HO380 := a0_ (Kd.R_mono (ok' := fun k_ => nw_ k_ Ao12 t381.length co12) (Kd.R_keptB (HO380.out) hkp (fun k_ hk_ hs_ => (hk_.2) hs_)) (fun k_ hk_ => hk_.1.2)); replace HO383 := a0_ (Kd.R_reok rfl hy0 (fun k_ e_ => HO383.out.1 k_ e_)); replace HB := a0_ (hb); clear hb; (try clear hkp); (try clear hy0)) | ((with_reducible refine gate_callee (f := 178) rfl ?_); refine goesL_ (some 17) rfl rfl Tryz.func178 (by kernel_rfl) rfl #[.slice Ao10 t384.length co10, .slice Ao12 t385.length co12] rfl (by (try simp only [List.map_toArray, List.map_cons, List.map_nil]); first | done | (rw [show t384.length = t378.length from (Kd.R_reads' HO380.out).1.symm, show t385.length = t381.length from (Kd.R_reads' HO383.out).1.symm] <;> rfl) | rfl | (simp only [List.length_drop, List.length_take]; rfl)) ?_; (with_reducible refine (slices_Compare_string_string.calls k _ _ t384 _ _ t385 t386 _ ?side1 ?side2 ?side3 ?side4 A7.out).mono ?_); (case side1 => exact kD_ (Kd.R_reads' HO380.out).2.2); (case side2 => rw [show t384.length = t378.length from (Kd.R_reads' HO380.out).1.symm]; exact (Kd.R_reads' HO380.out).2.1); (case side3 => exact kD_ (Kd.R_reads' HO383.out).2.2); (case side4 => rw [show t385.length = t381.length from (Kd.R_reads' HO383.out).1.symm]; exact (Kd.R_reads' HO383.out).2.1); rintro e w' ⟨rfl, ⟨nd, rfl⟩⟩; refine ⟨_, rfl, ?_⟩))
 go_ret
 exact ⟨rr_, bq0_⟩
mutual
def spec_l3Bytes.l0 : Nat → ByteArray → List ByteArray → List ByteArray → Int → Int → Option (ByteArray × Bool)
 | 0, _, _, _, _, _ => none
 | k + 1, x6, x7, x19, x20, x21 => if x21 < x20 then (if 0 ≤ x21 then (if x21 < (x19.length : Int) then ((spec_l1Int.f k (rdOf ByteArray.empty x19 x21)).bind fun t165 => ((spec_l1In.f t165 0 255).bind fun t166 => (if t166 = true then ((spec_l3Number.f k t165 1).bind fun t167 => (if x6.size + t167.size ≤ 9223372036854775807 then (spec_l3Bytes.l0 k (x6 ++ t167) x7 x19 x20 (wrap64 (x21 + 1))) else (none))) else (some ((⟨#[]⟩ : ByteArray), false))))) else (none)) else (none)) else (some (x6, ((x7.length : Int) == 4)))
def spec_l3Bytes.j1 : Nat → ByteArray → Int → Bool → Option (ByteArray × Bool)
 | 0, _, _, _ => none
 | k + 1, x1, x14, x39 => if x39 = true then ((spec_l3Target.f k x1).bind fun t168 => (if t168 = true then ((spec_l2Bytes.f k x1).bind fun t169 => (some (t169, true))) else (some ((⟨#[]⟩ : ByteArray), false)))) else (if x14 = 6 then ((spec_l1Int.f k x1).bind fun t170 => ((spec_l3Number.f k t170 4).bind fun t171 => ((spec_l1In.f t170 0 4294967295).bind fun t172 => (some (t171, t172))))) else (if x14 = 15 then ((spec_l1Split.f k x1 32).bind fun t173 => (if (t173.length : Int) = 2 then (if 0 < (t173.length : Int) then ((spec_l1Int.f k (rdOf ByteArray.empty t173 0)).bind fun t177 => ((spec_l1In.f t177 0 65535).bind fun t178 => (if t178 = true then (if 1 < (t173.length : Int) then ((spec_l3Target.f k (rdOf ByteArray.empty t173 1)).bind fun t180 => (spec_l3Bytes.j2 k t173 (!t180))) else (none)) else (spec_l3Bytes.j2 k t173 true)))) else (none)) else (spec_l3Bytes.j2 k t173 true))) else (if x14 = 16 then (spec_l3Bytes.l1 k x1 0) else (some ((⟨#[]⟩ : ByteArray), false)))))
def spec_l3Bytes.j2 : Nat → List ByteArray → Bool → Option (ByteArray × Bool)
 | 0, _, _ => none
 | k + 1, x12, x76 => if x76 = true then (some ((⟨#[]⟩ : ByteArray), false)) else (if 0 < (x12.length : Int) then ((spec_l1Int.f k (rdOf ByteArray.empty x12 0)).bind fun t182 => ((spec_l3Number.f k t182 2).bind fun t183 => (if 1 < (x12.length : Int) then ((spec_l2Bytes.f k (rdOf ByteArray.empty x12 1)).bind fun t185 => (if t183.size + t185.size ≤ 9223372036854775807 then (some (t183 ++ t185, true)) else (none))) else (none)))) else (none))
def spec_l3Bytes.l1 : Nat → ByteArray → Int → Option (ByteArray × Bool)
 | 0, _, _ => none
 | k + 1, x1, x13 => if x13 < (x1.size : Int) then (if 0 ≤ x13 then (if (bt x1 x13) < 32 then (some ((⟨#[]⟩ : ByteArray), false)) else (if (bt x1 x13) > 126 then (some ((⟨#[]⟩ : ByteArray), false)) else (spec_l3Bytes.l1 k x1 (wrap64 (x13 + 1))))) else (none)) else ((some (([((x1.size : Int)) % 256] : List Int) : List Int)).bind fun y186 => (if (strOfNums y186).size + x1.size ≤ 9223372036854775807 then (some ((strOfNums y186) ++ x1, decide ((x1.size : Int) ≤ 30))) else (none)))
end
def spec_l3Bytes.f (k : Nat) (a0 : Int) (a1 : ByteArray) : Option (ByteArray × Bool) := if a0 = 1 then ((spec_l1Split.f k a1 46).bind fun t161 => (spec_l3Bytes.l0 k (⟨#[]⟩ : ByteArray) t161 t161 (t161.length : Int) 0)) else (if a0 = 2 then (spec_l3Bytes.j1 k a1 a0 (a0 == 2)) else (spec_l3Bytes.j1 k a1 a0 (a0 == 5)))
theorem spec_l3Bytes.mono_l : ∀ k, (∀ y0 y1 y2 y3 y4, LeO (spec_l3Bytes.l0 k y0 y1 y2 y3 y4) (spec_l3Bytes.l0 (k + 1) y0 y1 y2 y3 y4)) ∧ (∀ y0 y1 y2, LeO (spec_l3Bytes.j1 k y0 y1 y2) (spec_l3Bytes.j1 (k + 1) y0 y1 y2)) ∧ (∀ y0 y1, LeO (spec_l3Bytes.j2 k y0 y1) (spec_l3Bytes.j2 (k + 1) y0 y1)) ∧ (∀ y0 y1, LeO (spec_l3Bytes.l1 k y0 y1) (spec_l3Bytes.l1 (k + 1) y0 y1))
 | 0 => ⟨fun _ _ _ _ _ r h => by simp [spec_l3Bytes.l0] at h, fun _ _ _ r h => by simp [spec_l3Bytes.j1] at h, fun _ _ r h => by simp [spec_l3Bytes.j2] at h, fun _ _ r h => by simp [spec_l3Bytes.l1] at h⟩
 | k + 1 => by
  obtain ⟨ih0, ih1, ih2, ih3⟩ := spec_l3Bytes.mono_l k
  refine ⟨?_, ?_, ?_, ?_⟩
  · intro y0 y1 y2 y3 y4
    unfold spec_l3Bytes.l0
    repeat' first
    | (with_reducible exact ih0 _ _ _ _ _)
    | (with_reducible exact ih1 _ _ _)
    | (with_reducible exact ih2 _ _)
    | (with_reducible exact ih3 _ _)
    | (with_reducible exact spec_l1Int.mono _ _)
    | (with_reducible exact spec_l1Split.mono _ _ _)
    | (with_reducible exact spec_l2Bytes.mono _ _)
    | (with_reducible exact spec_l3Number.mono _ _ _)
    | (with_reducible exact spec_l3Target.mono _ _)
    | (with_reducible exact LeO.refl _)
    | (with_reducible exact LeO.none _)
    | (with_reducible refine LeO.ite ?_ ?_)
    | (with_reducible refine LeO.bind ?_ (fun _ => ?_))
    | exact ih0 _ _ _ _ _
    | exact ih1 _ _ _
    | exact ih2 _ _
    | exact ih3 _ _
    | exact spec_l1Int.mono _ _
    | exact spec_l1Split.mono _ _ _
    | exact spec_l2Bytes.mono _ _
    | exact spec_l3Number.mono _ _ _
    | exact spec_l3Target.mono _ _
    | exact LeO.none _
    | refine LeO.ite ?_ ?_
    | refine LeO.bind ?_ (fun _ => ?_)
  · intro y0 y1 y2
    unfold spec_l3Bytes.j1
    repeat' first
    | (with_reducible exact ih0 _ _ _ _ _)
    | (with_reducible exact ih1 _ _ _)
    | (with_reducible exact ih2 _ _)
    | (with_reducible exact ih3 _ _)
    | (with_reducible exact spec_l1Int.mono _ _)
    | (with_reducible exact spec_l1Split.mono _ _ _)
    | (with_reducible exact spec_l2Bytes.mono _ _)
    | (with_reducible exact spec_l3Number.mono _ _ _)
    | (with_reducible exact spec_l3Target.mono _ _)
    | (with_reducible exact LeO.refl _)
    | (with_reducible exact LeO.none _)
    | (with_reducible refine LeO.ite ?_ ?_)
    | (with_reducible refine LeO.bind ?_ (fun _ => ?_))
    | exact ih0 _ _ _ _ _
    | exact ih1 _ _ _
    | exact ih2 _ _
    | exact ih3 _ _
    | exact spec_l1Int.mono _ _
    | exact spec_l1Split.mono _ _ _
    | exact spec_l2Bytes.mono _ _
    | exact spec_l3Number.mono _ _ _
    | exact spec_l3Target.mono _ _
    | exact LeO.none _
    | refine LeO.ite ?_ ?_
    | refine LeO.bind ?_ (fun _ => ?_)
  · intro y0 y1
    unfold spec_l3Bytes.j2
    repeat' first
    | (with_reducible exact ih0 _ _ _ _ _)
    | (with_reducible exact ih1 _ _ _)
    | (with_reducible exact ih2 _ _)
    | (with_reducible exact ih3 _ _)
    | (with_reducible exact spec_l1Int.mono _ _)
    | (with_reducible exact spec_l1Split.mono _ _ _)
    | (with_reducible exact spec_l2Bytes.mono _ _)
    | (with_reducible exact spec_l3Number.mono _ _ _)
    | (with_reducible exact spec_l3Target.mono _ _)
    | (with_reducible exact LeO.refl _)
    | (with_reducible exact LeO.none _)
    | (with_reducible refine LeO.ite ?_ ?_)
    | (with_reducible refine LeO.bind ?_ (fun _ => ?_))
    | exact ih0 _ _ _ _ _
    | exact ih1 _ _ _
    | exact ih2 _ _
    | exact ih3 _ _
    | exact spec_l1Int.mono _ _
    | exact spec_l1Split.mono _ _ _
    | exact spec_l2Bytes.mono _ _
    | exact spec_l3Number.mono _ _ _
    | exact spec_l3Target.mono _ _
    | exact LeO.none _
    | refine LeO.ite ?_ ?_
    | refine LeO.bind ?_ (fun _ => ?_)
  · intro y0 y1
    unfold spec_l3Bytes.l1
    repeat' first
    | (with_reducible exact ih0 _ _ _ _ _)
    | (with_reducible exact ih1 _ _ _)
    | (with_reducible exact ih2 _ _)
    | (with_reducible exact ih3 _ _)
    | (with_reducible exact spec_l1Int.mono _ _)
    | (with_reducible exact spec_l1Split.mono _ _ _)
    | (with_reducible exact spec_l2Bytes.mono _ _)
    | (with_reducible exact spec_l3Number.mono _ _ _)
    | (with_reducible exact spec_l3Target.mono _ _)
    | (with_reducible exact LeO.refl _)
    | (with_reducible exact LeO.none _)
    | (with_reducible refine LeO.ite ?_ ?_)
    | (with_reducible refine LeO.bind ?_ (fun _ => ?_))
    | exact ih0 _ _ _ _ _
    | exact ih1 _ _ _
    | exact ih2 _ _
    | exact ih3 _ _
    | exact spec_l1Int.mono _ _
    | exact spec_l1Split.mono _ _ _
    | exact spec_l2Bytes.mono _ _
    | exact spec_l3Number.mono _ _ _
    | exact spec_l3Target.mono _ _
    | exact LeO.none _
    | refine LeO.ite ?_ ?_
    | refine LeO.bind ?_ (fun _ => ?_)
theorem spec_l3Bytes.mono : ∀ a0 a1 k, LeO (spec_l3Bytes.f k a0 a1) (spec_l3Bytes.f (k + 1) a0 a1) := by
 intro a0 a1 k
 obtain ⟨ih0, ih1, ih2, ih3⟩ := spec_l3Bytes.mono_l k
 unfold spec_l3Bytes.f
 repeat' first
  | (with_reducible exact ih0 _ _ _ _ _)
  | (with_reducible exact ih1 _ _ _)
  | (with_reducible exact ih2 _ _)
  | (with_reducible exact ih3 _ _)
  | (with_reducible exact spec_l1Int.mono _ _)
  | (with_reducible exact spec_l1Split.mono _ _ _)
  | (with_reducible exact spec_l2Bytes.mono _ _)
  | (with_reducible exact spec_l3Number.mono _ _ _)
  | (with_reducible exact spec_l3Target.mono _ _)
  | (with_reducible exact LeO.refl _)
  | (with_reducible exact LeO.none _)
  | (with_reducible refine LeO.ite ?_ ?_)
  | (with_reducible refine LeO.bind ?_ (fun _ => ?_))
  | exact ih0 _ _ _ _ _
  | exact ih1 _ _ _
  | exact ih2 _ _
  | exact ih3 _ _
  | exact spec_l1Int.mono _ _
  | exact spec_l1Split.mono _ _ _
  | exact spec_l2Bytes.mono _ _
  | exact spec_l3Number.mono _ _ _
  | exact spec_l3Target.mono _ _
  | exact LeO.none _
  | refine LeO.ite ?_ ?_
  | refine LeO.bind ?_ (fun _ => ?_)
def spec_l3Bytes.T26 : Bool × List (List Nat × List Nat) := (true, [([], []), ([0], [0]), ([1], [1]), ([2], [2]), ([3, 3], [3]), ([], []), ([5], [5]), ([6], [6]), ([7, 4], [7]), ([4, 8], [4, 8]), ([9, 8, 0, 1, 2, 3, 4, 5, 6, 7, 8, 9], [9]), ([10, 0, 1, 2, 3, 4, 5, 6, 7, 8, 9, 10], [])])
def spec_l3Bytes.B26 : List Nat := [0, 1, 3, 7, 15, 0, 32, 96, 255, 511, 1023, 2047]
theorem spec_l3Bytes.tab26 : rtab .any (opsOf Tryz.f55 26) = spec_l3Bytes.T26 := by kernel_rfl
theorem spec_l3Bytes.bits26 : waitsOk spec_l3Bytes.T26.2 spec_l3Bytes.B26 = true := by kernel_rfl
set_option maxHeartbeats 8000000 in
set_option maxRecDepth 100000 in
theorem spec_l3Bytes.calls (k : Nat) (a0 : Int) (a1 : ByteArray) (r1 : ByteArray) (r2 : Bool) (w : World) (h : spec_l3Bytes.f k a0 a1 = some (r1, r2)) :
 Calls Tryz.prog 55 #[.int .i64 a0, .string a1] w fun e w' => e = .returned (.tuple #[.string r1, .bool r2]) ∧ Below w.heap.size w w' := by
 have HB := a0_ (Below.refl w.heap.size w)
 have H := h
 clear h
 unfold spec_l3Bytes.f at H
 by_cases c3 : a0 = 1
 case pos =>
  rw [if_pos c3] at H
  have c3b0 := beq_iff_eq.mpr c3
  have c3b1 := bne_eq_false_iff_eq.mpr c3
  clear c3
  obtain ⟨t161, A40, H⟩ := Option.bind_eq_some_iff.mp H
  have A4 := a0_ A40
  clear A40
  have H' := a0_ H
  clear H
  go_enter Tryz.func55, Tryz.ntmps55
  go_wp2_with (first | ((with_reducible refine gate_callee (f := 116) rfl ?_); refine goesL_ (some 18) rfl rfl Tryz.func116 (by kernel_rfl) rfl #[.string a1, .int .u8 46] rfl argsS_ ?_; (with_reducible refine (spec_l1Split.calls k a1 46 t161 _ A4.out).mono ?_); rintro e w5 ⟨v162, rfl, ho0, hb⟩; refine ⟨_, rfl, ?_⟩; have HO163 := a0_ (Kd.R_lower ho0 (below_size bq0_)); replace HB := a0_ (below_step bq0_ hb); clear hb; (try clear ho0); obtain ⟨Ao6, co6, eo6⟩ := Kd.R_slice HO163.out; subst eo6))
  go_loopg [6, 21] k (fun kq v6 v21 w' => ∃ (x6_1 : ByteArray) (x21_1 : Int), v6 = .string x6_1 ∧ v21 = .int .i64 x21_1 ∧ Aside0 (spec_l3Bytes.l0 kq x6_1 t161 t161 (t161.length : Int) x21_1 = some (r1, r2)) ∧ Aside0 (kq ≤ k) ∧ Aside0 (Kd.R Kd.string 9 w' w.heap.size (fun _ => True) (.slice Ao6 t161.length co6) t161) ∧ Aside0 (Kd.R Kd.string 9 w' w.heap.size (fun _ => True) (.slice Ao6 t161.length co6) t161) ∧ Aside0 (Below w.heap.size w w'))
  case atStart => exact ⟨((⟨#[]⟩ : ByteArray)), (0), rs_, rs_, H', ⟨Nat.le_refl _⟩, ⟨by (with_reducible repeat (first | apply Kd.R_alloc | apply Kd.R_drewN | apply Kd.R_drew)); exact HO163.out⟩, ⟨by (with_reducible repeat (first | apply Kd.R_alloc | apply Kd.R_drewN | apply Kd.R_drew)); exact HO163.out⟩, ⟨bq0_⟩⟩
  case round =>
   clear H'
   try clear c3
   try clear c3b0
   try clear c3b1
   obtain ⟨x6_1, x21_1, rfl, rfl, HA, HK1, HO_7, HO_19, HB⟩ := hrel
   cases gk with
   | zero => exact absurd HA.out (by simp [spec_l3Bytes.l0])
   | succ k1 =>
    have H := HA.out
    clear HA
    simp only [spec_l3Bytes.l0] at H
    by_cases c7 : x21_1 < (t161.length : Int)
    case neg =>
     rw [if_neg c7] at H
     have c7b0 := decide_eq_false c7
     clear c7
     simp only [Option.some.injEq, Prod.mk.injEq] at H
     obtain ⟨rfl, rfl⟩ := H
     go_wp2
     go_ret2
     exact ⟨rr_, bq0_⟩
    rw [if_pos c7] at H
    have c7b0 := decide_eq_true c7
    clear c7
    by_cases c8 : 0 ≤ x21_1
    case neg =>
     rw [if_neg c8] at H
     exact absurd H (by simp)
    rw [if_pos c8] at H
    have c8b0 := decide_eq_true c8
    clear c8
    by_cases c9 : x21_1 < (t161.length : Int)
    case neg =>
     rw [if_neg c9] at H
     exact absurd H (by simp)
    rw [if_pos c9] at H
    have c9b0 := decide_eq_true c9
    clear c9
    obtain ⟨t165, A100, H⟩ := Option.bind_eq_some_iff.mp H
    have A10 := a0_ A100
    clear A100
    obtain ⟨t166, A110, H⟩ := Option.bind_eq_some_iff.mp H
    have A11 := a0_ A110
    clear A110
    by_cases c12 : t166 = true
    case neg =>
     replace c12 := Bool.eq_false_iff.mpr c12
     subst c12
     rw [if_neg (show ¬ (false = true) by decide)] at H
     simp only [Option.some.injEq, Prod.mk.injEq] at H
     obtain ⟨rfl, rfl⟩ := H
     have p164 : 0 ≤ (x21_1 : Int) := dec_
     have q164 : x21_1 < (t161.length : Int) := dec_
     obtain ⟨ad164, e164, hx164_0⟩ := Kd.at_string (Kd.R_reads' HO_19.out).2.2 x21_1 p164 q164
     cases e164
     replace p164 := eq_true p164
     replace q164 := eq_true q164
     go_wp2_with (first | ((with_reducible refine gate_callee (f := 117) rfl ?_); refine goesL_ (some 26) rfl rfl Tryz.func117 (by kernel_rfl) rfl #[.string (rdOf ByteArray.empty t161 x21_1)] rfl argsS_ ?_; (with_reducible refine (spec_l1Int.calls k1 (rdOf ByteArray.empty t161 x21_1) t165 _ A10.out).mono ?_); rintro e w' ⟨rfl, ⟨nd, rfl⟩⟩; refine ⟨_, rfl, ?_⟩) | ((with_reducible refine gate_callee (f := 102) rfl ?_); refine goesL_ (some 28) rfl rfl Tryz.func102 (by kernel_rfl) rfl #[.int .i64 t165, .int .i64 0, .int .i64 255] rfl argsS_ ?_; (with_reducible refine (spec_l1In.calls t165 0 255 false _ A11.out).mono ?_); rintro e w' ⟨rfl, ⟨nd, rfl⟩⟩; refine ⟨_, rfl, ?_⟩))
     go_ret2
     exact ⟨rr_, bq0_⟩
    subst c12
    rw [if_pos rfl] at H
    obtain ⟨t167, A130, H⟩ := Option.bind_eq_some_iff.mp H
    have A13 := a0_ A130
    clear A130
    by_cases c14 : x6_1.size + t167.size ≤ 9223372036854775807
    case neg =>
     rw [if_neg c14] at H
     exact absurd H (by simp)
    rw [if_pos c14] at H
    have c14b0 := eq_true c14
    have c14b1 := decide_eq_true c14
    try have c14b2 : (9223372036854775807 < x6_1.size + t167.size) = False := eq_false (Nat.not_lt.2 c14)
    have H' := a0_ H
    clear H
    have p164 : 0 ≤ (x21_1 : Int) := dec_
    have q164 : x21_1 < (t161.length : Int) := dec_
    obtain ⟨ad164, e164, hx164_0⟩ := Kd.at_string (Kd.R_reads' HO_19.out).2.2 x21_1 p164 q164
    cases e164
    replace p164 := eq_true p164
    replace q164 := eq_true q164
    go_wp2_with (first | ((with_reducible refine gate_callee (f := 117) rfl ?_); refine goesL_ (some 26) rfl rfl Tryz.func117 (by kernel_rfl) rfl #[.string (rdOf ByteArray.empty t161 x21_1)] rfl argsS_ ?_; (with_reducible refine (spec_l1Int.calls k1 (rdOf ByteArray.empty t161 x21_1) t165 _ A10.out).mono ?_); rintro e w' ⟨rfl, ⟨nd, rfl⟩⟩; refine ⟨_, rfl, ?_⟩) | ((with_reducible refine gate_callee (f := 102) rfl ?_); refine goesL_ (some 28) rfl rfl Tryz.func102 (by kernel_rfl) rfl #[.int .i64 t165, .int .i64 0, .int .i64 255] rfl argsS_ ?_; (with_reducible refine (spec_l1In.calls t165 0 255 true _ A11.out).mono ?_); rintro e w' ⟨rfl, ⟨nd, rfl⟩⟩; refine ⟨_, rfl, ?_⟩) | ((with_reducible refine gate_callee (f := 118) rfl ?_); refine goesL_ (some 32) rfl rfl Tryz.func118 (by kernel_rfl) rfl #[.int .i64 t165, .int .i64 1] rfl argsS_ ?_; (with_reducible refine (spec_l3Number.calls k1 t165 1 t167 _ A13.out).mono ?_); rintro e w15 ⟨rfl, hb⟩; refine ⟨_, rfl, ?_⟩; replace HO_7 := a0_ (Kd.R_below (kR_ HO_7.out) hb); replace HO_19 := a0_ (Kd.R_below (kR_ HO_19.out) hb); replace HB := a0_ (below_step bq0_ hb); clear hb))
    go_roundg k1
    case measure => have := HK1.out; omega
    case rel => exact ⟨(x6_1 ++ t167), (wrap64 (x21_1 + 1)), rs_, rs_, H', ⟨by have := HK1.out; omega⟩, ⟨by (with_reducible repeat (first | apply Kd.R_alloc | apply Kd.R_drewN | apply Kd.R_drew)); exact HO_7.out⟩, ⟨by (with_reducible repeat (first | apply Kd.R_alloc | apply Kd.R_drewN | apply Kd.R_drew)); exact HO_19.out⟩, ⟨bq0_⟩⟩
 rw [if_neg c3] at H
 have c3b0 := beq_eq_false_iff_ne.mpr c3
 have c3b1 := bne_iff_ne.mpr c3
 have HC16 := a0_ H
 clear H
 go_enter Tryz.func55, Tryz.ntmps55
 go_upto_if 39 with (fail)
 go_cut [39] (fun v39 wc => ∃ (kq : Nat) (x39_15 : Bool), v39 = .bool x39_15 ∧ Aside0 (spec_l3Bytes.j1 kq a1 a0 x39_15 = some (r1, r2)) ∧ Aside0 (kq ≤ k) ∧ Aside0 (Below w.heap.size w wc))
 case first =>
  have H := HC16.out
  clear HC16
  by_cases c17 : a0 = 2
  case neg =>
   rw [if_neg c17] at H
   have c17b0 := beq_eq_false_iff_ne.mpr c17
   have c17b1 := bne_iff_ne.mpr c17
   (first | rw [c17b0] | (simp only [i64_w, i32_w]; rw [c17b0]) | skip)
   have H' := a0_ H
   clear H
   go_wp2
   go_meet
   case rel => exact ⟨_, ((a0 == 5)), rs_, H', ⟨by first | omega | exact Nat.le_refl _⟩, ⟨bq0_⟩⟩
  rw [if_pos c17] at H
  have c17b0 := beq_iff_eq.mpr c17
  have c17b1 := bne_eq_false_iff_eq.mpr c17
  clear c17
  (first | rw [c17b0] | (simp only [i64_w, i32_w]; rw [c17b0]) | skip)
  have H' := a0_ H
  clear H
  go_wp2
  go_meet
  case rel => exact ⟨_, ((a0 == 2)), rs_, H', ⟨by first | omega | exact Nat.le_refl _⟩, ⟨bq0_⟩⟩
 case rest =>
  clear HC16
  try clear c3
  try clear c3b0
  try clear c3b1
  obtain ⟨kq, x39_15, rfl, HA, HJ15, HB⟩ := hcut
  cases kq with
  | zero => exact absurd HA.out (by simp [spec_l3Bytes.j1])
  | succ kj15 =>
   have H := HA.out
   clear HA
   simp only [spec_l3Bytes.j1] at H
   by_cases c18 : x39_15 = true
   case pos =>
    subst c18
    rw [if_pos rfl] at H
    obtain ⟨t168, A190, H⟩ := Option.bind_eq_some_iff.mp H
    have A19 := a0_ A190
    clear A190
    by_cases c20 : t168 = true
    case neg =>
     replace c20 := Bool.eq_false_iff.mpr c20
     subst c20
     rw [if_neg (show ¬ (false = true) by decide)] at H
     simp only [Option.some.injEq, Prod.mk.injEq] at H
     obtain ⟨rfl, rfl⟩ := H
     go_wp2_with (first | ((with_reducible refine gate_callee (f := 119) rfl ?_); refine goesL_ (some 43) rfl rfl Tryz.func119 (by kernel_rfl) rfl #[.string a1] rfl argsS_ ?_; (with_reducible refine (spec_l3Target.calls kj15 a1 false _ A19.out).mono ?_); rintro e w24 ⟨rfl, hb⟩; refine ⟨_, rfl, ?_⟩; replace HB := a0_ (below_step bq0_ hb); clear hb))
     go_ret2
     exact ⟨rr_, bq0_⟩
    subst c20
    rw [if_pos rfl] at H
    obtain ⟨t169, A210, H⟩ := Option.bind_eq_some_iff.mp H
    have A21 := a0_ A210
    clear A210
    simp only [Option.some.injEq, Prod.mk.injEq] at H
    obtain ⟨rfl, rfl⟩ := H
    go_wp2_with (first | ((with_reducible refine gate_callee (f := 119) rfl ?_); refine goesL_ (some 43) rfl rfl Tryz.func119 (by kernel_rfl) rfl #[.string a1] rfl argsS_ ?_; (with_reducible refine (spec_l3Target.calls kj15 a1 true _ A19.out).mono ?_); rintro e w22 ⟨rfl, hb⟩; refine ⟨_, rfl, ?_⟩; replace HB := a0_ (below_step bq0_ hb); clear hb) | ((with_reducible refine gate_callee (f := 120) rfl ?_); refine goesL_ (some 46) rfl rfl Tryz.func120 (by kernel_rfl) rfl #[.string a1] rfl argsS_ ?_; (with_reducible refine (spec_l2Bytes.calls kj15 a1 t169 _ A21.out).mono ?_); rintro e w23 ⟨rfl, hb⟩; refine ⟨_, rfl, ?_⟩; replace HB := a0_ (below_step bq0_ hb); clear hb))
    go_ret2
    exact ⟨rr_, bq0_⟩
   replace c18 := Bool.eq_false_iff.mpr c18
   subst c18
   rw [if_neg (show ¬ (false = true) by decide)] at H
   by_cases c25 : a0 = 6
   case pos =>
    rw [if_pos c25] at H
    have c25b0 := beq_iff_eq.mpr c25
    have c25b1 := bne_eq_false_iff_eq.mpr c25
    clear c25
    obtain ⟨t170, A260, H⟩ := Option.bind_eq_some_iff.mp H
    have A26 := a0_ A260
    clear A260
    obtain ⟨t171, A270, H⟩ := Option.bind_eq_some_iff.mp H
    have A27 := a0_ A270
    clear A270
    obtain ⟨t172, A280, H⟩ := Option.bind_eq_some_iff.mp H
    have A28 := a0_ A280
    clear A280
    simp only [Option.some.injEq, Prod.mk.injEq] at H
    obtain ⟨rfl, rfl⟩ := H
    go_wp2_with (first | ((with_reducible refine gate_callee (f := 117) rfl ?_); refine goesL_ (some 50) rfl rfl Tryz.func117 (by kernel_rfl) rfl #[.string a1] rfl argsS_ ?_; (with_reducible refine (spec_l1Int.calls kj15 a1 t170 _ A26.out).mono ?_); rintro e w' ⟨rfl, ⟨nd, rfl⟩⟩; refine ⟨_, rfl, ?_⟩) | ((with_reducible refine gate_callee (f := 118) rfl ?_); refine goesL_ (some 52) rfl rfl Tryz.func118 (by kernel_rfl) rfl #[.int .i64 t170, .int .i64 4] rfl argsS_ ?_; (with_reducible refine (spec_l3Number.calls kj15 t170 4 t171 _ A27.out).mono ?_); rintro e w29 ⟨rfl, hb⟩; refine ⟨_, rfl, ?_⟩; replace HB := a0_ (below_step bq0_ hb); clear hb) | ((with_reducible refine gate_callee (f := 102) rfl ?_); refine goesL_ (some 54) rfl rfl Tryz.func102 (by kernel_rfl) rfl #[.int .i64 t170, .int .i64 0, .int .i64 4294967295] rfl argsS_ ?_; (with_reducible refine (spec_l1In.calls t170 0 4294967295 t172 _ A28.out).mono ?_); rintro e w' ⟨rfl, ⟨nd, rfl⟩⟩; refine ⟨_, rfl, ?_⟩))
    go_ret2
    exact ⟨rr_, bq0_⟩
   rw [if_neg c25] at H
   have c25b0 := beq_eq_false_iff_ne.mpr c25
   have c25b1 := bne_iff_ne.mpr c25
   by_cases c30 : a0 = 15
   case neg =>
    rw [if_neg c30] at H
    have c30b0 := beq_eq_false_iff_ne.mpr c30
    have c30b1 := bne_iff_ne.mpr c30
    by_cases c56 : a0 = 16
    case neg =>
     rw [if_neg c56] at H
     have c56b0 := beq_eq_false_iff_ne.mpr c56
     have c56b1 := bne_iff_ne.mpr c56
     simp only [Option.some.injEq, Prod.mk.injEq] at H
     obtain ⟨rfl, rfl⟩ := H
     go_wp2
     go_ret2
     exact ⟨rr_, bq0_⟩
    rw [if_pos c56] at H
    have c56b0 := beq_iff_eq.mpr c56
    have c56b1 := bne_eq_false_iff_eq.mpr c56
    clear c56
    have H' := a0_ H
    clear H
    go_wp2
    go_loopg [13] kj15 (fun kq v13 w' => ∃ (x13_2 : Int), v13 = .int .i64 x13_2 ∧ Aside0 (spec_l3Bytes.l1 kq a1 x13_2 = some (r1, r2)) ∧ Aside0 (kq ≤ kj15) ∧ Aside0 (Below w.heap.size w w'))
    case atStart => exact ⟨(0), rs_, H', ⟨Nat.le_refl _⟩, ⟨bq0_⟩⟩
    case round =>
     clear H'
     try clear c1
     try clear p1
     try clear q1
     try clear hx1
     try clear p2
     try clear c3
     try clear c3b0
     try clear c3b1
     try clear c5
     try clear p6
     try clear c7
     try clear c7b0
     try clear c8
     try clear c8b0
     try clear c9
     try clear c9b0
     try clear c10
     try clear c11
     try clear c12
     try clear c14
     try clear c14b0
     try clear c14b1
     try clear c14b2
     try clear p16
     try clear q16
     try clear hx16
     try clear c17
     try clear c17b0
     try clear c17b1
     try clear c18
     try clear c25
     try clear c25b0
     try clear c25b1
     try clear c30
     try clear c30b0
     try clear c30b1
     try clear c56
     try clear c56b0
     try clear c56b1
     try clear hx164_0
     try clear p1
     try clear p16
     try clear p164
     try clear p2
     try clear p6
     try clear q1
     try clear q16
     try clear q164
     obtain ⟨x13_2, rfl, HA, HK2, HB⟩ := hrel
     cases gk with
     | zero => exact absurd HA.out (by simp [spec_l3Bytes.l1])
     | succ k2 =>
      have H := HA.out
      clear HA
      simp only [spec_l3Bytes.l1] at H
      by_cases c57 : x13_2 < (a1.size : Int)
      case neg =>
       rw [if_neg c57] at H
       have c57b0 := decide_eq_false c57
       clear c57
       obtain ⟨y186, hy186⟩ : ∃ y_ : List Int, y_ = (([((a1.size : Int)) % 256] : List Int)) := ⟨_, rfl⟩
       replace H : (if (strOfNums y186).size + a1.size ≤ 9223372036854775807 then (some ((strOfNums y186) ++ a1, decide ((a1.size : Int) ≤ 30))) else (none)) = some (r1, r2) := by first | (rw [hy186]; with_reducible exact H) | (have H2_ := (Option.bind_some _ _).symm.trans H; rw [hy186]; with_reducible exact H2_) | (have H2_ := (Option.bind_some _ _).symm.trans H; with_reducible exact H2_) | with_reducible exact H | (rw [hy186]; exact H) | exact H
       have Ny186 := a0_ hy186
       clear hy186
       by_cases c63 : (strOfNums y186).size + a1.size ≤ 9223372036854775807
       case neg =>
        rw [if_neg c63] at H
        exact absurd H (by simp)
       rw [if_pos c63] at H
       have c63b0 := eq_true c63
       have c63b1 := decide_eq_true c63
       try have c63b2 : (9223372036854775807 < (strOfNums y186).size + a1.size) = False := eq_false (Nat.not_lt.2 c63)
       simp only [Option.some.injEq, Prod.mk.injEq] at H
       obtain ⟨rfl, rfl⟩ := H
       go_wp2_with (first | ((with_reducible refine gate_dst (N := 108) rfl ?_); refine Kd.R_lit (Kd.int .u8) _ 5 ?hg (N := 108) ?hd (xs := ([((a1.size : Int)) % 256] : List Int)) (inner := [.int .u8 (((a1.size : Int)) % 256)]) (ok := fun _ => True) (okp := fun _ => True) ?hr ?hp (fun _ hk => hk) trivial (Below.refl _ _) (Nat.le_refl _) (by simp) ?_; (case hd => rfl); (case hg => rfl); (case hr => first | (go_simp; done) | (go_simp; rfl)); (case hp => exact (Reps.one (show Kd.M (Kd.int .u8) _ _ _ (((a1.size : Int)) % 256) [.int .u8 (((a1.size : Int)) % 256)] from rfl) (Reps.none _ _))); intro v187 w64 ho65 hb hg_ hnew_; clear hg_ hnew_; (first | rw [← Ny186.out] at ho65 | (simp only [Int.reduceToNat] at ho65; rw [← Ny186.out] at ho65)); have HO188 := a0_ (Kd.R_lower ho65 (below_size bq0_)); replace HB := a0_ (below_step bq0_ hb); clear hb ho65; have hcv66 := own_string (P := Tryz.prog) Tryz.underlying43 Tryz.underlying5 Tryz.underlying9 (Kd.own_of_R HO188.out)))
       go_ret2
       exact ⟨rr_, bq0_⟩
      rw [if_pos c57] at H
      have c57b0 := decide_eq_true c57
      clear c57
      by_cases c58 : 0 ≤ x13_2
      case neg =>
       rw [if_neg c58] at H
       exact absurd H (by simp)
      rw [if_pos c58] at H
      have c58b0 := decide_eq_true c58
      clear c58
      by_cases c60 : (bt a1 x13_2) < 32
      case pos =>
       rw [if_pos c60] at H
       have c60b0 := decide_eq_true c60
       clear c60
       simp only [Option.some.injEq, Prod.mk.injEq] at H
       obtain ⟨rfl, rfl⟩ := H
       have p59 : 0 ≤ (x13_2 : Int) := dec_
       have q59 : x13_2 < (a1.size : Int) := dec_
       have hx59 := bt_at a1 x13_2
       replace p59 := eq_true p59
       replace q59 := eq_true q59
       go_wp2
       go_ret2
       exact ⟨rr_, bq0_⟩
      rw [if_neg c60] at H
      have c60b0 := decide_eq_false c60
      clear c60
      by_cases c62 : (bt a1 x13_2) > 126
      case pos =>
       rw [if_pos c62] at H
       have c62b0 := decide_eq_true c62
       clear c62
       simp only [Option.some.injEq, Prod.mk.injEq] at H
       obtain ⟨rfl, rfl⟩ := H
       have p59 : 0 ≤ (x13_2 : Int) := dec_
       have q59 : x13_2 < (a1.size : Int) := dec_
       have hx59 := bt_at a1 x13_2
       replace p59 := eq_true p59
       replace q59 := eq_true q59
       have p61 : 0 ≤ (x13_2 : Int) := dec_
       have q61 : x13_2 < (a1.size : Int) := dec_
       have hx61 := bt_at a1 x13_2
       replace p61 := eq_true p61
       replace q61 := eq_true q61
       go_wp2
       go_ret2
       exact ⟨rr_, bq0_⟩
      rw [if_neg c62] at H
      have c62b0 := decide_eq_false c62
      clear c62
      have H' := a0_ H
      clear H
      have p59 : 0 ≤ (x13_2 : Int) := dec_
      have q59 : x13_2 < (a1.size : Int) := dec_
      have hx59 := bt_at a1 x13_2
      replace p59 := eq_true p59
      replace q59 := eq_true q59
      have p61 : 0 ≤ (x13_2 : Int) := dec_
      have q61 : x13_2 < (a1.size : Int) := dec_
      have hx61 := bt_at a1 x13_2
      replace p61 := eq_true p61
      replace q61 := eq_true q61
      go_wp2
      go_roundg k2
      case measure => have := HJ15.out; have := HK2.out; omega
      case rel => exact ⟨(wrap64 (x13_2 + 1)), rs_, H', ⟨by have := HJ15.out; have := HK2.out; omega⟩, ⟨bq0_⟩⟩
   rw [if_pos c30] at H
   have c30b0 := beq_iff_eq.mpr c30
   have c30b1 := bne_eq_false_iff_eq.mpr c30
   clear c30
   obtain ⟨t173, A310, H⟩ := Option.bind_eq_some_iff.mp H
   have A31 := a0_ A310
   clear A310
   have HC32 := a0_ H
   clear H
   go_upto_region 24 with (first | ((with_reducible refine gate_callee (f := 116) rfl ?_); refine goesL_ (some 58) rfl rfl Tryz.func116 (by kernel_rfl) rfl #[.string a1, .int .u8 32] rfl argsS_ ?_; (with_reducible refine (spec_l1Split.calls kj15 a1 32 t173 _ A31.out).mono ?_); rintro e w33 ⟨v174, rfl, ho0, hb⟩; refine ⟨_, rfl, ?_⟩; have HO175 := a0_ (Kd.R_lower ho0 (below_size bq0_)); replace HB := a0_ (below_step bq0_ hb); clear hb; (try clear ho0)))
   (try simp only [Act.put, List.setIfInBounds_toArray, List.set_cons_zero, List.set_cons_succ])
   go_cut [76] (fun v76 wc => ∃ (kq : Nat) (x76_31 : Bool), v76 = .bool x76_31 ∧ Aside0 (spec_l3Bytes.j2 kq t173 x76_31 = some (r1, r2)) ∧ Aside0 (kq ≤ kj15) ∧ Aside0 (Kd.R Kd.string 9 wc w.heap.size (fun _ => True) v174 t173) ∧ Aside0 (Below w.heap.size w wc))
   case first =>
    have H := HC32.out
    clear HC32
    by_cases c34 : (t173.length : Int) = 2
    case neg =>
     rw [if_neg c34] at H
     have c34b0 := beq_eq_false_iff_ne.mpr c34
     have c34b1 := bne_iff_ne.mpr c34
     (first | rw [c34b0] | (simp only [i64_w, i32_w]; rw [c34b0]) | skip)
     have H' := a0_ H
     clear H
     obtain ⟨Ao44, co44, eo44⟩ := Kd.R_slice HO175.out
     subst eo44
     go_wp2
     go_meet
     case rel => exact ⟨_, (true), rs_, H', ⟨by have := HJ15.out; first | omega | exact Nat.le_refl _⟩, ⟨by (with_reducible repeat (first | apply Kd.R_alloc | apply Kd.R_drewN | apply Kd.R_drew)); exact HO175.out⟩, ⟨bq0_⟩⟩
    rw [if_pos c34] at H
    have c34b0 := beq_iff_eq.mpr c34
    have c34b1 := bne_eq_false_iff_eq.mpr c34
    clear c34
    (first | rw [c34b0] | (simp only [i64_w, i32_w]; rw [c34b0]) | skip)
    by_cases c35 : 0 < (t173.length : Int)
    case neg =>
     rw [if_neg c35] at H
     exact absurd H (by simp)
    rw [if_pos c35] at H
    have c35b0 := decide_eq_true c35
    have c35b1 : decide (0 < t173.length) = true := decide_eq_true (by omega)
    clear c35
    obtain ⟨t177, A360, H⟩ := Option.bind_eq_some_iff.mp H
    have A36 := a0_ A360
    clear A360
    obtain ⟨t178, A370, H⟩ := Option.bind_eq_some_iff.mp H
    have A37 := a0_ A370
    clear A370
    by_cases c38 : t178 = true
    case neg =>
     replace c38 := Bool.eq_false_iff.mpr c38
     subst c38
     rw [if_neg (show ¬ (false = true) by decide)] at H
     have H' := a0_ H
     clear H
     obtain ⟨Ao43, co43, eo43⟩ := Kd.R_slice HO175.out
     subst eo43
     have p176 : 0 ≤ (0 : Int) := (by omega)
     have q176 : 0 < (t173.length : Int) := dec_
     obtain ⟨ad176, e176, hx176_0⟩ := Kd.at_string (Kd.R_reads' HO175.out).2.2 0 p176 q176
     cases e176
     have qi176 : (0 < t173.length) = True := eq_true (by omega)
     (try rw [show ((0 : Int)).toNat = 0 from rfl] at hx176_0)
     (try rw [Addr.add_zero'] at hx176_0)
     replace p176 := eq_true p176
     replace q176 := eq_true q176
     go_wp2_with (first | (go_at_call 117; (with_reducible refine (spec_l1Int.calls kj15 (rdOf ByteArray.empty t173 0) t177 _ A36.out).mono ?_); rintro e w' ⟨rfl, ⟨nd, rfl⟩⟩) | (go_at_call 102; (with_reducible refine (spec_l1In.calls t177 0 65535 false _ A37.out).mono ?_); rintro e w' ⟨rfl, ⟨nd, rfl⟩⟩))
     go_meet
     case rel => exact ⟨_, (true), rs_, H', ⟨by have := HJ15.out; first | omega | exact Nat.le_refl _⟩, ⟨by (with_reducible repeat (first | apply Kd.R_alloc | apply Kd.R_drewN | apply Kd.R_drew)); exact HO175.out⟩, ⟨bq0_⟩⟩
    subst c38
    rw [if_pos rfl] at H
    by_cases c39 : 1 < (t173.length : Int)
    case neg =>
     rw [if_neg c39] at H
     exact absurd H (by simp)
    rw [if_pos c39] at H
    have c39b0 := decide_eq_true c39
    have c39b1 : decide (1 < t173.length) = true := decide_eq_true (by omega)
    clear c39
    obtain ⟨t180, A400, H⟩ := Option.bind_eq_some_iff.mp H
    have A40 := a0_ A400
    clear A400
    have H' := a0_ H
    clear H
    obtain ⟨Ao41, co41, eo41⟩ := Kd.R_slice HO175.out
    subst eo41
    have p176 : 0 ≤ (0 : Int) := (by omega)
    have q176 : 0 < (t173.length : Int) := dec_
    obtain ⟨ad176, e176, hx176_0⟩ := Kd.at_string (Kd.R_reads' HO175.out).2.2 0 p176 q176
    cases e176
    have qi176 : (0 < t173.length) = True := eq_true (by omega)
    (try rw [show ((0 : Int)).toNat = 0 from rfl] at hx176_0)
    (try rw [Addr.add_zero'] at hx176_0)
    replace p176 := eq_true p176
    replace q176 := eq_true q176
    go_wp2_with (first | (go_at_call 117; (with_reducible refine (spec_l1Int.calls kj15 (rdOf ByteArray.empty t173 0) t177 _ A36.out).mono ?_); rintro e w' ⟨rfl, ⟨nd, rfl⟩⟩) | (go_at_call 102; (with_reducible refine (spec_l1In.calls t177 0 65535 true _ A37.out).mono ?_); rintro e w' ⟨rfl, ⟨nd, rfl⟩⟩; have p179 : 0 ≤ (1 : Int) := (by omega); have q179 : 1 < (t173.length : Int) := dec_; obtain ⟨ad179, e179, hx179_0⟩ := Kd.at_string (Kd.R_reads' HO175.out).2.2 1 p179 q179; obtain rfl : ad176 = ad179 := (by injection e179); (try simp only [show (1 : Int).toNat = 1 from rfl, Nat.reduceMul, Nat.reduceEqDiff, Go.Addr.add, ↓reduceIte] at hx179_0); have qi179 : (1 < t173.length) = True := eq_true (by omega); (try rw [show ((1 : Int)).toNat = 1 from rfl] at hx179_0); replace p179 := eq_true p179; replace q179 := eq_true q179) | (go_at_call 119; (with_reducible refine (spec_l3Target.calls kj15 (rdOf ByteArray.empty t173 1) t180 _ A40.out).mono ?_); rintro e w42 ⟨rfl, hb⟩; replace HO175 := a0_ (Kd.R_below (kR_ HO175.out) hb); replace HB := a0_ (below_step bq0_ hb); clear hb))
    go_meet
    case rel => exact ⟨_, (!t180), rs_, H', ⟨by have := HJ15.out; first | omega | exact Nat.le_refl _⟩, ⟨by (with_reducible repeat (first | apply Kd.R_alloc | apply Kd.R_drewN | apply Kd.R_drew)); exact HO175.out⟩, ⟨bq0_⟩⟩
   case rest =>
    clear HC32
    try clear c1
    try clear p1
    try clear q1
    try clear hx1
    try clear p2
    try clear c3
    try clear c3b0
    try clear c3b1
    try clear c5
    try clear p6
    try clear c7
    try clear c7b0
    try clear c8
    try clear c8b0
    try clear c9
    try clear c9b0
    try clear c10
    try clear c11
    try clear c12
    try clear c14
    try clear c14b0
    try clear c14b1
    try clear c14b2
    try clear p16
    try clear q16
    try clear hx16
    try clear c17
    try clear c17b0
    try clear c17b1
    try clear c18
    try clear c25
    try clear c25b0
    try clear c25b1
    try clear c30
    try clear c30b0
    try clear c30b1
    try clear hx164_0
    try clear p1
    try clear p16
    try clear p164
    try clear p2
    try clear p6
    try clear q1
    try clear q16
    try clear q164
    obtain ⟨kq, x76_31, rfl, HA, HJ31, HO_12, HB⟩ := hcut
    cases kq with
    | zero => exact absurd HA.out (by simp [spec_l3Bytes.j2])
    | succ kj31 =>
     have H := HA.out
     clear HA
     simp only [spec_l3Bytes.j2] at H
     by_cases c45 : x76_31 = true
     case pos =>
      subst c45
      rw [if_pos rfl] at H
      simp only [Option.some.injEq, Prod.mk.injEq] at H
      obtain ⟨rfl, rfl⟩ := H
      go_wp2
      go_ret2
      exact ⟨rr_, bq0_⟩
     replace c45 := Bool.eq_false_iff.mpr c45
     subst c45
     rw [if_neg (show ¬ (false = true) by decide)] at H
     by_cases c46 : 0 < (t173.length : Int)
     case neg =>
      rw [if_neg c46] at H
      exact absurd H (by simp)
     rw [if_pos c46] at H
     have c46b0 := decide_eq_true c46
     have c46b1 : decide (0 < t173.length) = true := decide_eq_true (by omega)
     clear c46
     obtain ⟨t182, A470, H⟩ := Option.bind_eq_some_iff.mp H
     have A47 := a0_ A470
     clear A470
     obtain ⟨t183, A480, H⟩ := Option.bind_eq_some_iff.mp H
     have A48 := a0_ A480
     clear A480
     by_cases c49 : 1 < (t173.length : Int)
     case neg =>
      rw [if_neg c49] at H
      exact absurd H (by simp)
     rw [if_pos c49] at H
     have c49b0 := decide_eq_true c49
     have c49b1 : decide (1 < t173.length) = true := decide_eq_true (by omega)
     clear c49
     obtain ⟨t185, A500, H⟩ := Option.bind_eq_some_iff.mp H
     have A50 := a0_ A500
     clear A500
     by_cases c51 : t183.size + t185.size ≤ 9223372036854775807
     case neg =>
      rw [if_neg c51] at H
      exact absurd H (by simp)
     rw [if_pos c51] at H
     have c51b0 := eq_true c51
     have c51b1 := decide_eq_true c51
     try have c51b2 : (9223372036854775807 < t183.size + t185.size) = False := eq_false (Nat.not_lt.2 c51)
     simp only [Option.some.injEq, Prod.mk.injEq] at H
     obtain ⟨rfl, rfl⟩ := H
     try go_wp2
     replace HO_12 := a0_ (Kd.R_drew HO_12.out)
     replace HB := a0_ (below_drew1 HB.out)
     obtain ⟨Ao53, co53, eo53⟩ := Kd.R_slice HO_12.out
     (first | subst eo53 | (injection eo53 with f1_ f2_ f3_; have f4_ := f1_.symm; have f5_ := f3_.symm; clear f1_ f2_ f3_; subst f4_; subst f5_))
     have p181 : 0 ≤ (0 : Int) := (by omega)
     have q181 : 0 < (t173.length : Int) := dec_
     obtain ⟨ad181, e181, hx181_0⟩ := Kd.at_string (Kd.R_reads' HO_12.out).2.2 0 p181 q181
     cases e181
     have qi181 : (0 < t173.length) = True := eq_true (by omega)
     (try rw [show ((0 : Int)).toNat = 0 from rfl] at hx181_0)
     (try rw [Addr.add_zero'] at hx181_0)
     replace p181 := eq_true p181
     replace q181 := eq_true q181
     have p184 : 0 ≤ (1 : Int) := (by omega)
     have q184 : 1 < (t173.length : Int) := dec_
     obtain ⟨ad184, e184, hx184_0⟩ := Kd.at_string (Kd.R_reads' HO_12.out).2.2 1 p184 q184
     obtain rfl : ad181 = ad184 := (by injection e184)
     (try simp only [show (1 : Int).toNat = 1 from rfl, Nat.reduceMul, Nat.reduceEqDiff, Go.Addr.add, ↓reduceIte] at hx184_0)
     have qi184 : (1 < t173.length) = True := eq_true (by omega)
     (try rw [show ((1 : Int)).toNat = 1 from rfl] at hx184_0)
     replace p184 := eq_true p184
     replace q184 := eq_true q184
     refine start_ (n := 12) (S := fun w' => w'.cell? ad181 = some (.string (rdOf ByteArray.empty t173 0)) ∧ w'.cell? ⟨ad181.block, ad181.off + 1, none⟩ = some (.string (rdOf ByteArray.empty t173 1))) (ds := []) #[false, false, false, false, false, false, false, false, false, false, false, false] (by kernel_rfl) rfl rfl ⟨hx181_0, hx184_0⟩ (fun hHeld => ?_); refine with_tabW spec_l3Bytes.tab26 spec_l3Bytes.bits26 (fun HT_ HW_ => ?_)
     generalize wc.drew = w52 at HO_12 HB hx181_0 hx184_0 hHeld ⊢
     refine pureS_ 0 (some 77) ?_
     refine pureS_ 1 (some 78) ?_
     refine pureS_ 5 (some 82) ?_
     refine pureS_ 6 (some 83) ?_
     refine takeS_ 2 (some 79) ?_
     refine takeS_ 7 (some 84) ?_
     refine oneS_ 3 (some 80) (fun K hK => ?_)
     refine goes_ Tryz.func117 (by kernel_rfl) rfl #[.string (rdOf ByteArray.empty t173 0)] (by rfl) rfl rfl argsS_ ?_
     with_reducible refine (spec_l1Int.calls kj31 (rdOf ByteArray.empty t173 0) t182 _ A47.out).mono ?_
     rintro e w' ⟨rfl, ⟨nd, rfl⟩⟩
     refine ⟨_, rfl, ?_⟩
     refine hK.out _ _ ⟨hHeld.1, hHeld.2⟩ (fun hHeld => ?_)
     clear hK K
     refine normS_ ?_
     refine oneS_ 4 (some 81) (fun K hK => ?_)
     refine goes_ Tryz.func118 (by kernel_rfl) rfl #[.int .i64 t182, .int .i64 2] (by rfl) rfl rfl argsS_ ?_
     with_reducible refine (spec_l3Number.calls kj31 t182 2 t183 _ A48.out).mono ?_
     rintro e w54 ⟨rfl, hb⟩
     have HS0_ := (hb.cell (World.block_lt_of_cell? _ _ (hHeld.1))).trans (hHeld.1)
     have HS1_ := (hb.cell (World.block_lt_of_cell? _ _ (hHeld.2))).trans (hHeld.2)
     refine ⟨_, rfl, ?_⟩
     replace HO_12 := a0_ (Kd.R_below (kR_ HO_12.out) hb)
     replace HB := a0_ (below_step bq0_ hb)
     (try clear hb)
     (try clear hb2)
     (try clear hk)
     (try clear hi)
     refine hK.out _ _ ⟨HS0_, HS1_⟩ (fun hHeld => ?_)
     clear hK K
     refine normS_ ?_
     refine oneS_ 8 (some 85) (fun K hK => ?_)
     refine goes_ Tryz.func120 (by kernel_rfl) rfl #[.string (rdOf ByteArray.empty t173 1)] (by rfl) rfl rfl argsS_ ?_
     with_reducible refine (spec_l2Bytes.calls kj31 (rdOf ByteArray.empty t173 1) t185 _ A50.out).mono ?_
     rintro e w55 ⟨rfl, hb⟩
     have HS0_ := (hb.cell (World.block_lt_of_cell? _ _ (hHeld.1))).trans (hHeld.1)
     have HS1_ := (hb.cell (World.block_lt_of_cell? _ _ (hHeld.2))).trans (hHeld.2)
     refine ⟨_, rfl, ?_⟩
     replace HO_12 := a0_ (Kd.R_below (kR_ HO_12.out) hb)
     replace HB := a0_ (below_step bq0_ hb)
     (try clear hb)
     (try clear hb2)
     (try clear hk)
     (try clear hi)
     refine hK.out _ _ ⟨HS0_, HS1_⟩ (fun hHeld => ?_)
     clear hK K
     refine normS_ ?_
     refine pureS_ 9 (some 86) ?_
     refine pureS_ 10 (some 4) ?_
     refine pureS_ 11 (some 5) ?_
     refine done_ (done_of HT_.out (by kernel_rfl)) ?_
     try go_wp2
     go_ret2
     exact ⟨rr_, bq0_⟩
def impl_isTarget.f (a0 : ByteArray) : Option (Bool) := if a0.toList = ([] : List UInt8) then (some false) else ((impl_GoodName.f a0).bind fun t242 => (if t242 = true then ((strings_Contains.f a0 (⟨#[42]⟩ : ByteArray)).bind fun t243 => (some (!t243))) else (some false)))
set_option maxHeartbeats 8000000 in
set_option maxRecDepth 100000 in
theorem impl_isTarget.calls (a0 : ByteArray) (r : Bool) (w : World) (h : impl_isTarget.f a0 = some r) :
 Calls Tryz.prog 90 #[.string a0] w fun e w' => e = .returned (.bool r) ∧ Below w.heap.size w w' := by
 have HB := a0_ (Below.refl w.heap.size w)
 have H := h
 clear h
 unfold impl_isTarget.f at H
 by_cases c2 : a0.toList = ([] : List UInt8)
 case pos =>
  rw [if_pos c2] at H
  have c2b0 := beq_iff_eq.mpr c2
  have c2b1 := bne_eq_false_iff_eq.mpr c2
  clear c2
  obtain rfl := Option.some.inj H
  go_enter Tryz.func90, Tryz.ntmps90
  go_wp2
  go_ret
  exact ⟨rr_, bq0_⟩
 rw [if_neg c2] at H
 have c2b0 := beq_eq_false_iff_ne.mpr c2
 have c2b1 := bne_iff_ne.mpr c2
 obtain ⟨t242, A30, H⟩ := Option.bind_eq_some_iff.mp H
 have A3 := a0_ A30
 clear A30
 by_cases c4 : t242 = true
 case neg =>
  replace c4 := Bool.eq_false_iff.mpr c4
  subst c4
  rw [if_neg (show ¬ (false = true) by decide)] at H
  obtain rfl := Option.some.inj H
  go_enter Tryz.func90, Tryz.ntmps90
  go_wp2_with (first | (go_at_call 83; (with_reducible refine (impl_GoodName.calls a0 false _ A3.out).mono ?_); rintro e w7 ⟨rfl, hb⟩; replace HB := a0_ (below_step bq0_ hb); clear hb))
  go_ret
  exact ⟨rr_, bq0_⟩
 subst c4
 rw [if_pos rfl] at H
 obtain ⟨t243, A50, H⟩ := Option.bind_eq_some_iff.mp H
 have A5 := a0_ A50
 clear A50
 obtain rfl := Option.some.inj H
 go_enter Tryz.func90, Tryz.ntmps90
 go_wp2_with (first | (go_at_call 83; (with_reducible refine (impl_GoodName.calls a0 true _ A3.out).mono ?_); rintro e w6 ⟨rfl, hb⟩; replace HB := a0_ (below_step bq0_ hb); clear hb) | (go_at_call 151; (with_reducible refine (strings_Contains.calls a0 (⟨#[42]⟩ : ByteArray) t243 _ A5.out).mono ?_); rintro e w' ⟨rfl, ⟨nd, rfl⟩⟩))
 go_ret
 exact ⟨rr_, bq0_⟩
end Go.Proofs.YtiegkjimpclmaaaGreatDoor.P
