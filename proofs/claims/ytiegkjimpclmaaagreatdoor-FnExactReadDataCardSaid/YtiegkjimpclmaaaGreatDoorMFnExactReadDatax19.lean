/- FnExactReadData: part 20 of 26 of my texts for this claim, joined; the theorem stands in the last. Conditions: none beyond the statement's. -/
import Derived.Test.YtiegkjimpclmaaaGreatDoorMFnExactReadDatax0
import Derived.Test.YtiegkjimpclmaaaGreatDoorMFnExactReadDatax11
import Derived.Test.YtiegkjimpclmaaaGreatDoorMFnExactReadDatax18
import Derived.Test.YtiegkjimpclmaaaGreatDoorMFnExactReadDatax12
import Derived.Test.YtiegkjimpclmaaaGreatDoorMFnExactReadDatax6
import Derived.Test.YtiegkjimpclmaaaGreatDoorMFnExactReadDatax15
import Derived.Test.YtiegkjimpclmaaaGreatDoorMFnExactReadDatax16
import Derived.Test.YtiegkjimpclmaaaGreatDoorMFnExactReadDatax7
-- F3
-- By my own call of the kit's print (wip/tools/pp.py).
namespace Go.Proofs.YtiegkjimpclmaaaGreatDoor.P
open Go.RowKit Go.Proofs.YtiegkjimpclmaaaGreatDoorW.PrintWords Go.Proofs.YtiegkjimpclmaaaGreatDoorW.PrintLast Go.Proofs.YtiegkjimpclmaaaGreatDoorW.PrintMore
attribute [local go_sem] max2_int min2_int max_two min_two max_three min_three max_four min_four
set_option linter.unusedVariables false
set_option linter.unusedSimpArgs false

/-! ### laws_FnExactReadData: function 3 -/
def laws_FnExactReadData.f (k : Nat) (a0 : Int) (a1 : ByteArray) : Option (Bool) := if (a1.size : Int) > 1048576 then (some true) else ((spec_ReadData.f k a0 a1).bind fun bt298 => ((impl_ReadData.f k a0 a1).bind fun bt300 => (if bt300.1.toList = bt298.1.toList then (if (bt300.2 != bt298.2) = true then (some false) else (some true)) else (some false))))
theorem laws_FnExactReadData.mono : ∀ a0 a1 k, LeO (laws_FnExactReadData.f k a0 a1) (laws_FnExactReadData.f (k + 1) a0 a1) := by
  intro a0 a1 k
  unfold laws_FnExactReadData.f
  repeat' first
      | (with_reducible exact impl_ReadData.mono _ _ _)
      | (with_reducible exact spec_ReadData.mono _ _ _)
      | (with_reducible exact LeO.refl _)
      | (with_reducible exact LeO.none _)
      | (with_reducible refine LeO.ite ?_ ?_)
      | (with_reducible refine LeO.bind ?_ (fun _ => ?_))
      | exact impl_ReadData.mono _ _ _
      | exact spec_ReadData.mono _ _ _
      | exact LeO.none _
      | refine LeO.ite ?_ ?_
      | refine LeO.bind ?_ (fun _ => ?_)
set_option maxHeartbeats 8000000 in
set_option maxRecDepth 100000 in
theorem laws_FnExactReadData.calls (k : Nat) (a0 : Int) (a1 : ByteArray) (r : Bool) (w : World) (h : laws_FnExactReadData.f k a0 a1 = some r) (hv_ : Vars w := by first | assumption | (refine Vars.below (Aside0.out (by assumption)) ?_; repeat (first | (with_reducible first | exact Below.refl _ _ | exact Aside0.out (by assumption) | apply below_alloc | apply pw_below_drewN | apply below_drew1 | refine below_set ?_ (Aside0.out (by assumption))) | exact Aside0.out (by assumption)))) :
    Calls Tryz.prog 3 #[.int .i64 a0, .string a1] w fun e w' => e = .returned (.bool r) ∧ Below w.heap.size w w' := by
  have HV_ := Aside0.mk hv_
  clear hv_
  have HB := Aside0.mk (Below.refl w.heap.size w)
  have H : (if (a1.size : Int) > 1048576 then (some true) else ((spec_ReadData.f k a0 a1).bind fun bt298 => ((impl_ReadData.f k a0 a1).bind fun bt300 => (if bt300.1.toList = bt298.1.toList then (if (bt300.2 != bt298.2) = true then (some false) else (some true)) else (some false))))) = some r := h
  clear h
  by_cases c3 : (a1.size : Int) > 1048576
  · rw [if_pos c3] at H
    have c3b0 : decide (1048576 < (a1.size : Int)) = true := decide_eq_true c3
    have c3b1 : decide (1048576 < a1.size) = true := decide_eq_true (by omega)
    clear c3
    obtain rfl := Option.some.inj H
    go_enter Tryz.func3, Tryz.ntmps3
    go_wp2
    go_ret
    exact ⟨by first | rfl | (simp [errW_none, errW_some] <;> rfl) | (simp [*, errW_none, errW_some] <;> rfl), by repeat (first | (with_reducible first | exact HB.out | apply below_alloc | apply pw_below_drewN | apply below_drew1) | exact HB.out)⟩
  · rw [if_neg c3] at H
    have c3b0 : decide (1048576 < (a1.size : Int)) = false := decide_eq_false c3
    have c3b1 : decide (1048576 < a1.size) = false := decide_eq_false (by omega)
    clear c3
    replace H := Option.bind_eq_some_iff.mp H
    obtain ⟨⟨t298, t299⟩, A40, H⟩ := H
    replace H : ((impl_ReadData.f k a0 a1).bind fun bt300 => (if bt300.1.toList = t298.toList then (if (bt300.2 != t299) = true then (some false) else (some true)) else (some false))) = some r := H
    have A4 := Aside0.mk A40
    clear A40
    replace H := Option.bind_eq_some_iff.mp H
    obtain ⟨⟨t300, t301⟩, A50, H⟩ := H
    replace H : (if t300.toList = t298.toList then (if (t301 != t299) = true then (some false) else (some true)) else (some false)) = some r := H
    have A5 := Aside0.mk A50
    clear A50
    by_cases c6 : t300.toList = t298.toList
    · rw [if_pos c6] at H
      have c6b0 : (t300.toList == t298.toList) = true := beq_iff_eq.mpr c6
      have c6b1 : (t300.toList != t298.toList) = false := bne_eq_false_iff_eq.mpr c6
      clear c6
      by_cases c7 : (t301 != t299) = true
      · rw [if_pos c7] at H
        have c7b0 : (t301 != t299) = true := c7
        (try (have c7b1 : decide (t301 = t299) = false := by simpa using c7))
        (try (have c7b2 : (t301 == t299) = false := by simpa using c7))
        (try (have c7b3 : ¬ (t301 = t299) := by simpa using c7))
        clear c7
        obtain rfl := Option.some.inj H
        go_enter Tryz.func3, Tryz.ntmps3
        go_wp2_with (first | ((with_reducible refine gate_callee (f := 10) rfl ?_); refine goesL_ (some 15) rfl rfl Tryz.func10 (by kernel_rfl) rfl #[.int .i64 a0, .string a1] rfl (by (try simp only [List.map_toArray, List.map_cons, List.map_nil]); first | done | rfl | (simp only [List.length_drop, List.length_take]; rfl)) ?_; (with_reducible refine (spec_ReadData.calls k a0 a1 t298 t299 _ A4.out).mono ?_); rintro e w8 ⟨rfl, hb⟩; refine ⟨_, rfl, ?_⟩; have n0_ := Aside0.mk (below_step bq0_ hb); clear HB; have HB := n0_; clear n0_; (try clear hb); (try clear hb2); (try clear hk); (try clear hi)) | ((with_reducible refine gate_callee (f := 11) rfl ?_); refine goesL_ (some 21) rfl rfl Tryz.func11 (by kernel_rfl) rfl #[.int .i64 a0, .string a1] rfl (by (try simp only [List.map_toArray, List.map_cons, List.map_nil]); first | done | rfl | (simp only [List.length_drop, List.length_take]; rfl)) ?_; (with_reducible refine (impl_ReadData.calls k a0 a1 t300 t301 _ A5.out).mono ?_); rintro e w9 ⟨rfl, hb⟩; refine ⟨_, rfl, ?_⟩; have n0_ := Aside0.mk (below_step bq0_ hb); clear HB; have HB := n0_; clear n0_; (try clear hb); (try clear hb2); (try clear hk); (try clear hi)))
        go_ret
        exact ⟨by first | rfl | (simp [errW_none, errW_some] <;> rfl) | (simp [*, errW_none, errW_some] <;> rfl), by repeat (first | (with_reducible first | exact HB.out | apply below_alloc | apply pw_below_drewN | apply below_drew1) | exact HB.out)⟩
      · rw [if_neg c7] at H
        have c7b0 : (t301 != t299) = false := by simpa using c7
        (try (have c7b1 : decide (t301 = t299) = true := by simpa using c7))
        (try (have c7b2 : (t301 == t299) = true := by simpa using c7))
        clear c7
        obtain rfl := Option.some.inj H
        go_enter Tryz.func3, Tryz.ntmps3
        go_wp2_with (first | ((with_reducible refine gate_callee (f := 10) rfl ?_); refine goesL_ (some 15) rfl rfl Tryz.func10 (by kernel_rfl) rfl #[.int .i64 a0, .string a1] rfl (by (try simp only [List.map_toArray, List.map_cons, List.map_nil]); first | done | rfl | (simp only [List.length_drop, List.length_take]; rfl)) ?_; (with_reducible refine (spec_ReadData.calls k a0 a1 t298 t299 _ A4.out).mono ?_); rintro e w10 ⟨rfl, hb⟩; refine ⟨_, rfl, ?_⟩; have n0_ := Aside0.mk (below_step bq0_ hb); clear HB; have HB := n0_; clear n0_; (try clear hb); (try clear hb2); (try clear hk); (try clear hi)) | ((with_reducible refine gate_callee (f := 11) rfl ?_); refine goesL_ (some 21) rfl rfl Tryz.func11 (by kernel_rfl) rfl #[.int .i64 a0, .string a1] rfl (by (try simp only [List.map_toArray, List.map_cons, List.map_nil]); first | done | rfl | (simp only [List.length_drop, List.length_take]; rfl)) ?_; (with_reducible refine (impl_ReadData.calls k a0 a1 t300 t301 _ A5.out).mono ?_); rintro e w11 ⟨rfl, hb⟩; refine ⟨_, rfl, ?_⟩; have n0_ := Aside0.mk (below_step bq0_ hb); clear HB; have HB := n0_; clear n0_; (try clear hb); (try clear hb2); (try clear hk); (try clear hi)))
        go_ret
        exact ⟨by first | rfl | (simp [errW_none, errW_some] <;> rfl) | (simp [*, errW_none, errW_some] <;> rfl), by repeat (first | (with_reducible first | exact HB.out | apply below_alloc | apply pw_below_drewN | apply below_drew1) | exact HB.out)⟩
    · rw [if_neg c6] at H
      have c6b0 : (t300.toList == t298.toList) = false := beq_eq_false_iff_ne.mpr c6
      have c6b1 : (t300.toList != t298.toList) = true := bne_iff_ne.mpr c6
      obtain rfl := Option.some.inj H
      go_enter Tryz.func3, Tryz.ntmps3
      go_wp2_with (first | ((with_reducible refine gate_callee (f := 10) rfl ?_); refine goesL_ (some 15) rfl rfl Tryz.func10 (by kernel_rfl) rfl #[.int .i64 a0, .string a1] rfl (by (try simp only [List.map_toArray, List.map_cons, List.map_nil]); first | done | rfl | (simp only [List.length_drop, List.length_take]; rfl)) ?_; (with_reducible refine (spec_ReadData.calls k a0 a1 t298 t299 _ A4.out).mono ?_); rintro e w12 ⟨rfl, hb⟩; refine ⟨_, rfl, ?_⟩; have n0_ := Aside0.mk (below_step bq0_ hb); clear HB; have HB := n0_; clear n0_; (try clear hb); (try clear hb2); (try clear hk); (try clear hi)) | ((with_reducible refine gate_callee (f := 11) rfl ?_); refine goesL_ (some 21) rfl rfl Tryz.func11 (by kernel_rfl) rfl #[.int .i64 a0, .string a1] rfl (by (try simp only [List.map_toArray, List.map_cons, List.map_nil]); first | done | rfl | (simp only [List.length_drop, List.length_take]; rfl)) ?_; (with_reducible refine (impl_ReadData.calls k a0 a1 t300 t301 _ A5.out).mono ?_); rintro e w13 ⟨rfl, hb⟩; refine ⟨_, rfl, ?_⟩; have n0_ := Aside0.mk (below_step bq0_ hb); clear HB; have HB := n0_; clear n0_; (try clear hb); (try clear hb2); (try clear hk); (try clear hi)))
      go_ret
      exact ⟨by first | rfl | (simp [errW_none, errW_some] <;> rfl) | (simp [*, errW_none, errW_some] <;> rfl), by repeat (first | (with_reducible first | exact HB.out | apply below_alloc | apply pw_below_drewN | apply below_drew1) | exact HB.out)⟩

/-- THE ONE PURE STATEMENT of laws_FnExactReadData: yours. -/
def laws_FnExactReadData.Pure : Prop := ∀ (a0 : Int) (a1 : ByteArray), (Lit.int .i64 a0).wf = true → a1.size ≤ 140737488351232 → ∃ k, laws_FnExactReadData.f k a0 a1 = some true
theorem laws_FnExactReadData.walk (P : laws_FnExactReadData.Pure) (a0 : Int) (a1 : ByteArray) (w : World) (w0 : (Lit.int .i64 a0).wf = true) (w1 : a1.size ≤ 140737488351232) (hv_ : Vars w) :
    Calls Tryz.prog 3 #[.int .i64 a0, .string a1] w fun e w' => e = .returned (.bool true) ∧ Below w.heap.size w w' := by
  obtain ⟨k, h⟩ := P a0 a1 w0 w1
  refine (laws_FnExactReadData.calls k a0 a1 true w h).mono ?_
  rintro e w' ⟨rfl, hd⟩
  exact ⟨rfl, hd⟩

end Go.Proofs.YtiegkjimpclmaaaGreatDoor.P

-- PureTakeI
/- The steps of impl.takeName and spec.l2Take, one equation each. Conditions: the text is short. -/
namespace Go.Proofs.YtiegkjimpclmaaaGreatDoor.Pure
open Go.RowKit Go.Proofs.YtiegkjimpclmaaaGreatDoor.P Go.Proofs.YtiegkjimpclmaaaGreatDoorW.PrintWords Go.Proofs.YtiegkjimpclmaaaGreatDoorW.PrintLast
set_option linter.unusedVariables false
set_option linter.unusedSimpArgs false
set_option linter.unusedSectionVars false

theorem bt_mkB (x : List UInt8) (i : Nat) (h : i < x.length) : bt (mkB x) (i : Int) = ((x[i]).toNat : Int) := by
  rw [bt_list _ i (by rw [mkB_data]; exact h)]
  have : ∀ (l : List UInt8) (hl : l = x) (h1 : i < l.length), l[i] = x[i] := by rintro l rfl h1; rfl
  rw [this _ (mkB_data x)]
def failI : ByteArray × List Int × Int × Bool := ((⟨#[]⟩ : ByteArray), ([] : List Int), 0, false)
def failS : ByteArray × Int × List Int × Bool := ((⟨#[]⟩ : ByteArray), 0, ([] : List Int), false)
/-- The byte at a place. -/
def byteAt (s : ByteArray) (a : Nat) : Nat := (bt s (a : Int)).toNat
theorem byteAt_bt (s : ByteArray) (a : Nat) : bt s (a : Int) = (byteAt s a : Int) := by
  have := bt_range s (a : Int)
  unfold byteAt
  omega
theorem byteAt_lt (s : ByteArray) (a : Nat) : byteAt s a ≤ 255 := by
  have := bt_range s (a : Int)
  unfold byteAt
  omega
theorem wN (n : Nat) (h : n < 4611686018427387904) : wrap64 (n : Int) = (n : Int) := by unfold wrap64; omega
def endOf (e : Int) (x : Nat) : Int := if e < 0 then (x : Int) else e
def plc (e : Int) (l : List Int) (a : Nat) : List Int := if e < 0 then l ++ [(a : Int)] else l
def ptrOf (s : ByteArray) (a : Nat) : Nat := (byteAt s a - 192) * 256 + byteAt s (a + 1)

section
variable (s : ByteArray) (hs : s.size ≤ 600)
include hs

theorem impl_out (k a : Nat) (L : List ByteArray) (p : List Int) (le e : Int) (h : s.size ≤ a ∨ 8 < L.length) : impl_takeName.l0 (k + 2) s (a : Int) L p le e = some failI := by
  have hj : impl_takeName.l0 (k + 2) s (a : Int) L p le e = impl_takeName.j1 (k + 1) s (a : Int) L p le e false := by
    conv => lhs; unfold impl_takeName.l0
    by_cases h1 : (a : Int) < (s.size : Int)
    · rw [if_pos h1, decide_eq_false (by omega)]
    · rw [if_neg h1]
  rw [hj]
  unfold impl_takeName.j1
  rw [if_neg (by simp)]
  rfl
theorem impl_in (k a : Nat) (L : List ByteArray) (p : List Int) (le e : Int) (h1 : a < s.size) (h2 : L.length ≤ 8) : impl_takeName.l0 (k + 2) s (a : Int) L p le e = impl_takeName.j1 (k + 1) s (a : Int) L p le e true := by
  conv => lhs; unfold impl_takeName.l0
  rw [if_pos (by omega), decide_eq_true (by omega)]
theorem impl_end (k a : Nat) (L : List ByteArray) (p : List Int) (le e : Int) (h1 : a < s.size) (h2 : L.length ≤ 8) (hv : byteAt s a = 0) :
    impl_takeName.l0 (k + 2) s (a : Int) L p le e = some ((nameR L).1, p, endOf e (a + 1), (nameR L).2) := by
  rw [impl_in s hs k a L p le e h1 h2]
  unfold impl_takeName.j1 endOf impl_NameOf.f
  rw [if_pos rfl, if_pos (by omega), if_pos (by omega), byteAt_bt, wN _ (by have := byteAt_lt s a; omega), hv, if_pos (by rfl), w64n (by omega)]
  by_cases he : e < 0
  · rw [if_pos he, if_pos he]; rfl
  · rw [if_neg he, if_neg he]; rfl
theorem impl_ptr_out (k a : Nat) (L : List ByteArray) (p : List Int) (le e : Int) (h1 : a < s.size) (h2 : L.length ≤ 8) (hv : 192 ≤ byteAt s a) (h3 : s.size ≤ a + 1) :
    impl_takeName.l0 (k + 2) s (a : Int) L p le e = some failI := by
  rw [impl_in s hs k a L p le e h1 h2]
  unfold impl_takeName.j1
  rw [if_pos rfl, if_pos (by omega), if_pos (by omega), byteAt_bt, wN _ (by have := byteAt_lt s a; omega), if_neg (by omega), if_pos (by omega), w64n (by omega), if_pos (by omega)]
  rfl
theorem impl_ptr (k a : Nat) (L : List ByteArray) (p : List Int) (le e : Int) (h1 : a < s.size) (h2 : L.length ≤ 8) (hv : 192 ≤ byteAt s a) (h3 : a + 1 < s.size) :
    impl_takeName.l0 (k + 2) s (a : Int) L p le e = if ((ptrOf s a : Nat) : Int) ≥ le then some failI else impl_takeName.l0 k s ((ptrOf s a : Nat) : Int) L p ((ptrOf s a : Nat) : Int) (endOf e (a + 2)) := by
  rw [impl_in s hs k a L p le e h1 h2]
  have b1 := byteAt_lt s a
  have b2 := byteAt_lt s (a + 1)
  have hw2 : wrap64 ((a : Int) + 2) = ((a + 2 : Nat) : Int) := by unfold wrap64; omega
  have hp : wrap64 ((wrap64 ((Int.tmod (byteAt s a : Int) 64) * 256)) + (byteAt s (a + 1) : Int)) = ((ptrOf s a : Nat) : Int) := by
    unfold ptrOf
    rw [Int.tmod_eq_emod_of_nonneg (by omega)]
    unfold wrap64
    omega
  conv => lhs; unfold impl_takeName.j1
  rw [if_pos rfl, if_pos (by omega), if_pos (by omega), byteAt_bt, wN _ (by omega), if_neg (by omega), if_pos (by omega), w64n (by omega), if_neg (by omega), byteAt_bt, wN (byteAt s (a + 1)) (by omega), hp, hw2]
  unfold endOf
  by_cases he : e < 0
  · rw [if_pos he, if_pos he, if_pos (by omega), if_pos (by omega)]; rfl
  · rw [if_neg he, if_neg he, if_pos (by omega), if_pos (by omega)]; rfl
theorem impl_lab_out (k a : Nat) (L : List ByteArray) (p : List Int) (le e : Int) (h1 : a < s.size) (h2 : L.length ≤ 8) (hv : 0 < byteAt s a) (hv2 : byteAt s a < 192) (h3 : 64 ≤ byteAt s a ∨ s.size < a + 1 + byteAt s a) :
    impl_takeName.l0 (k + 3) s (a : Int) L p le e = some failI := by
  rw [impl_in s hs (k + 1) a L p le e h1 h2]
  have b1 := byteAt_lt s a
  have hw2 : wrap64 (((a + 1 : Nat) : Int) + (byteAt s a : Int)) = ((a + 1 + byteAt s a : Nat) : Int) := by unfold wrap64; omega
  have hj : impl_takeName.j1 (k + 2) s (a : Int) L p le e true = impl_takeName.j2 (k + 1) s (a : Int) L p le e (byteAt s a : Int) true := by
    conv => lhs; unfold impl_takeName.j1
    rw [if_pos rfl, if_pos (by omega), if_pos (by omega), byteAt_bt, wN _ (by omega), if_neg (by omega), if_neg (by omega)]
    by_cases h64 : (byteAt s a : Int) ≥ 64
    · rw [if_pos h64]
    · rw [if_neg h64, w64n (by omega), hw2, decide_eq_true (by omega)]
  rw [hj]
  unfold impl_takeName.j2
  rw [if_pos rfl]
  rfl
theorem impl_lab (k a : Nat) (L : List ByteArray) (p : List Int) (le e : Int) (h1 : a < s.size) (h2 : L.length ≤ 8) (hp : p.length < 17592186044416) (hv : 0 < byteAt s a) (hv2 : byteAt s a < 64) (h3 : a + 1 + byteAt s a ≤ s.size) :
    impl_takeName.l0 (k + 3) s (a : Int) L p le e = impl_takeName.l0 k s ((a + 1 + byteAt s a : Nat) : Int) (L ++ [mkB (((s.data.toList.drop (a + 1)).take (byteAt s a)).map lowB)]) (plc e p a) le e := by
  rw [impl_in s hs (k + 1) a L p le e h1 h2]
  have hw2 : wrap64 (((a + 1 : Nat) : Int) + (byteAt s a : Int)) = ((a + 1 + byteAt s a : Nat) : Int) := by unfold wrap64; omega
  have hw3 : wrap64 ((a : Int) + (wrap64 (1 + (byteAt s a : Int)))) = ((a + 1 + byteAt s a : Nat) : Int) := by unfold wrap64; omega
  have hj : impl_takeName.j1 (k + 2) s (a : Int) L p le e true = impl_takeName.j2 (k + 1) s (a : Int) L p le e (byteAt s a : Int) false := by
    conv => lhs; unfold impl_takeName.j1
    rw [if_pos rfl, if_pos (by omega), if_pos (by omega), byteAt_bt, wN _ (by omega), if_neg (by omega), if_neg (by omega), if_neg (by omega), w64n (by omega), hw2, decide_eq_false (by omega)]
  rw [hj]
  have hsm : impl_small.f (s.extract (a + 1) (a + 1 + byteAt s a)) = some (mkB (((s.data.toList.drop (a + 1)).take (byteAt s a)).map lowB)) := by
    unfold impl_small.f
    rw [if_pos (by rw [ext_mkB, mkB_size, List.length_take]; omega), ext_mkB, mkB_data, show a + 1 + byteAt s a - (a + 1) = byteAt s a by omega]
  conv => lhs; unfold impl_takeName.j2
  unfold plc
  rw [if_neg (by simp), w64n (by omega), hw2, hw3, Int.toNat_natCast, Int.toNat_natCast, hsm]
  simp only [Option.bind_some]
  by_cases he : e < 0
  · rw [if_pos he, if_pos he, if_pos hp, if_pos (by omega), if_pos (by omega), if_pos (by omega), if_pos (by omega)]
  · rw [if_neg he, if_neg he, if_pos (by omega), if_pos (by omega), if_pos (by omega), if_pos (by omega)]

theorem spec_out (k a : Nat) (L : List ByteArray) (p : List Int) (le e : Int) (h : s.size ≤ a ∨ 8 < L.length) : spec_l2Take.l0 (k + 1) s (a : Int) L p le e = some failS := by
  conv => lhs; unfold spec_l2Take.l0
  by_cases h1 : (L.length : Int) ≤ 8
  · rw [if_pos h1, if_pos (by omega)]; rfl
  · rw [if_neg h1]; rfl
theorem spec_ptr_out (k a : Nat) (L : List ByteArray) (p : List Int) (le e : Int) (h1 : a < s.size) (h2 : L.length ≤ 8) (hv : 192 ≤ byteAt s a) (h3 : s.size ≤ a + 1) :
    spec_l2Take.l0 (k + 1) s (a : Int) L p le e = some failS := by
  conv => lhs; unfold spec_l2Take.l0
  rw [if_pos (by omega), if_neg (by omega), if_pos (by omega), if_pos (by omega), byteAt_bt, wN _ (by have := byteAt_lt s a; omega), if_pos (by omega), w64n (by omega), if_pos (by omega)]
  rfl
theorem spec_ptr (k a : Nat) (L : List ByteArray) (p : List Int) (le e : Int) (h1 : a < s.size) (h2 : L.length ≤ 8) (hv : 192 ≤ byteAt s a) (h3 : a + 1 < s.size) :
    spec_l2Take.l0 (k + 1) s (a : Int) L p le e = if ((ptrOf s a : Nat) : Int) ≥ le then some failS else spec_l2Take.l0 k s ((ptrOf s a : Nat) : Int) L p ((ptrOf s a : Nat) : Int) (endOf e (a + 2)) := by
  have b1 := byteAt_lt s a
  have b2 := byteAt_lt s (a + 1)
  have hw2 : wrap64 ((a : Int) + 2) = ((a + 2 : Nat) : Int) := by unfold wrap64; omega
  have hp : wrap64 ((wrap64 ((wrap64 ((byteAt s a : Int) - 192)) * 256)) + (byteAt s (a + 1) : Int)) = ((ptrOf s a : Nat) : Int) := by
    unfold ptrOf
    unfold wrap64
    omega
  conv => lhs; unfold spec_l2Take.l0
  rw [if_pos (by omega), if_neg (by omega), if_pos (by omega), if_pos (by omega), byteAt_bt, wN _ (by omega), if_pos (by omega), w64n (by omega), if_neg (by omega), byteAt_bt, wN (byteAt s (a + 1)) (by omega), hp, hw2]
  unfold endOf
  by_cases he : e < 0
  · rw [if_pos he, if_pos he, if_pos (by omega), if_pos (by omega)]; rfl
  · rw [if_neg he, if_neg he, if_pos (by omega), if_pos (by omega)]; rfl
theorem spec_lab_out (k a : Nat) (L : List ByteArray) (p : List Int) (le e : Int) (h1 : a < s.size) (h2 : L.length ≤ 8) (hv : 0 < byteAt s a) (hv2 : byteAt s a < 192) (h3 : 20 < byteAt s a ∨ s.size < a + 1 + byteAt s a) :
    spec_l2Take.l0 (k + 2) s (a : Int) L p le e = some failS := by
  have b1 := byteAt_lt s a
  have hw2 : wrap64 (((a + 1 : Nat) : Int) + (byteAt s a : Int)) = ((a + 1 + byteAt s a : Nat) : Int) := by unfold wrap64; omega
  have hj : spec_l2Take.l0 (k + 2) s (a : Int) L p le e = spec_l2Take.j1 (k + 1) s (a : Int) L p le e (byteAt s a : Int) true := by
    conv => lhs; unfold spec_l2Take.l0
    rw [if_pos (by omega), if_neg (by omega), if_pos (by omega), if_pos (by omega), byteAt_bt, wN _ (by omega), if_neg (by omega), if_neg (by omega)]
    by_cases h20 : (byteAt s a : Int) > 20
    · rw [if_pos h20]
    · rw [if_neg h20, w64n (by omega), hw2, decide_eq_true (by omega)]
  rw [hj]
  unfold spec_l2Take.j1
  rw [if_pos rfl]
  rfl
/-- The label that stands at a place. -/
def rawL (s : ByteArray) (a : Nat) : List UInt8 := (s.data.toList.drop (a + 1)).take (byteAt s a)
omit hs in
theorem dots_step (a : Nat) (L : List ByteArray) (p : List Int) (le e : Int) (x : List UInt8) (hx : x.length ≤ 1000) (i : Nat) (hi : i < x.length) (k : Nat) :
    spec_l2Take.l1 (k + 1) s (a : Int) L p le e (x.length : Int) (mkB x) (i : Int) = if x[i] = 46 then some failS else spec_l2Take.l1 k s (a : Int) L p le e (x.length : Int) (mkB x) ((i + 1 : Nat) : Int) := by
  conv => lhs; unfold spec_l2Take.l1
  rw [if_pos (by omega), if_pos (by omega), if_pos (by rw [mkB_size]; omega), bt_mkB x i hi, w64n (by omega)]
  generalize x[i] = c
  by_cases h : c = 46
  · rw [if_pos h, if_pos (by rw [h]; rfl)]; rfl
  · rw [if_neg h, if_neg (by intro e; apply h; apply UInt8.toNat_inj.1; simpa using Int.ofNat.inj e)]
omit hs in
theorem dots_none (a : Nat) (L : List ByteArray) (p : List Int) (le e : Int) (x : List UInt8) (hx : x.length ≤ 1000) (hL : L.length ≤ 8) : ∀ (m i : Nat), i + m = x.length → (∀ y ∈ x.drop i, y ≠ 46) →
    ∀ r, Ev (fun k => spec_l2Take.l0 k s (wrap64 ((a : Int) + (wrap64 (1 + (x.length : Int))))) (L ++ [mkB x]) p le e) r → Ev (fun k => spec_l2Take.l1 k s (a : Int) L p le e (x.length : Int) (mkB x) (i : Int)) r
  | 0, i, him, hd, r, hr => by
    refine Ev.step (fun k => ?_) hr
    show spec_l2Take.l1 (k + 1) s (a : Int) L p le e (x.length : Int) (mkB x) (i : Int) = _
    conv => lhs; unfold spec_l2Take.l1
    rw [if_neg (by omega), if_pos (by omega)]
  | m + 1, i, him, hd, r, hr => by
    rw [List.drop_eq_getElem_cons (by omega)] at hd
    exact Ev.step (fun k => by rw [dots_step s a L p le e x hx i (by omega), if_neg (hd _ List.mem_cons_self)]) (dots_none a L p le e x hx hL m (i + 1) (by omega) (fun y hy => hd y (List.mem_cons_of_mem _ hy)) r hr)
omit hs in
theorem dots_some (a : Nat) (L : List ByteArray) (p : List Int) (le e : Int) (x : List UInt8) (hx : x.length ≤ 1000) (hL : L.length ≤ 8) : ∀ (m i : Nat), i + m = x.length → (∃ y ∈ x.drop i, y = 46) →
    Ev (fun k => spec_l2Take.l1 k s (a : Int) L p le e (x.length : Int) (mkB x) (i : Int)) failS
  | 0, i, him, ⟨y, hy, _⟩ => by
    rw [List.drop_of_length_le (by omega)] at hy
    cases hy
  | m + 1, i, him, hd => by
    by_cases h : x[i]'(by omega) = 46
    · exact Ev.step (f := fun _ => some failS) (fun k => by rw [dots_step s a L p le e x hx i (by omega), if_pos h]) (Ev.now _)
    · rw [List.drop_eq_getElem_cons (by omega)] at hd
      obtain ⟨y, hy, e1⟩ := hd
      rcases List.mem_cons.1 hy with rfl | hy
      · exact absurd e1 h
      · exact Ev.step (fun k => by rw [dots_step s a L p le e x hx i (by omega), if_neg h]) (dots_some a L p le e x hx hL m (i + 1) (by omega) ⟨y, hy, e1⟩)
theorem spec_lab (a : Nat) (L : List ByteArray) (p : List Int) (le e : Int) (h1 : a < s.size) (h2 : L.length ≤ 8) (hp : p.length < 17592186044416) (hv : 0 < byteAt s a) (hv2 : byteAt s a ≤ 20) (h3 : a + 1 + byteAt s a ≤ s.size) :
    Ev (fun k => spec_l2Take.l0 k s (a : Int) L p le e) failS ∧ (∃ y ∈ rawL s a, y = 46) ∨
    ((∀ y ∈ rawL s a, y ≠ 46) ∧ ∀ r, Ev (fun k => spec_l2Take.l0 k s ((a + 1 + byteAt s a : Nat) : Int) (L ++ [mkB (rawL s a)]) (plc e p a) le e) r → Ev (fun k => spec_l2Take.l0 k s (a : Int) L p le e) r) := by
  have hw2 : wrap64 (((a + 1 : Nat) : Int) + (byteAt s a : Int)) = ((a + 1 + byteAt s a : Nat) : Int) := by unfold wrap64; omega
  have hw3 : wrap64 ((a : Int) + (wrap64 (1 + (byteAt s a : Int)))) = ((a + 1 + byteAt s a : Nat) : Int) := by unfold wrap64; omega
  have hlen : (rawL s a).length = byteAt s a := by unfold rawL; rw [List.length_take, List.length_drop, ← size_len]; omega
  have hstep : ∀ k, spec_l2Take.l0 (k + 3) s (a : Int) L p le e = spec_l2Take.l1 k s (a : Int) L (plc e p a) le e ((rawL s a).length : Int) (mkB (rawL s a)) 0 := by
    intro k
    have hj : spec_l2Take.l0 (k + 3) s (a : Int) L p le e = spec_l2Take.j1 (k + 2) s (a : Int) L p le e (byteAt s a : Int) false := by
      conv => lhs; unfold spec_l2Take.l0
      rw [if_pos (by omega), if_neg (by omega), if_pos (by omega), if_pos (by omega), byteAt_bt, wN _ (by omega), if_neg (by omega), if_neg (by omega), if_neg (by omega), w64n (by omega), hw2, decide_eq_false (by omega)]
    have hj2 : spec_l2Take.j1 (k + 2) s (a : Int) L p le e (byteAt s a : Int) false = spec_l2Take.j2 (k + 1) s (a : Int) L (plc e p a) le e (byteAt s a : Int) := by
      conv => lhs; unfold spec_l2Take.j1
      unfold plc
      rw [if_neg (by simp)]
      by_cases he : e < 0
      · rw [if_pos he, if_pos he, if_pos hp]
      · rw [if_neg he, if_neg he]
    rw [hj, hj2]
    conv => lhs; unfold spec_l2Take.j2
    rw [w64n (by omega), hw2, if_pos (by omega), if_pos (by omega), if_pos (by omega), Int.toNat_natCast, Int.toNat_natCast, ext_mkB, hlen, show a + 1 + byteAt s a - (a + 1) = byteAt s a by omega]
    rfl
  have lift : ∀ r, Ev (fun k => spec_l2Take.l1 k s (a : Int) L (plc e p a) le e ((rawL s a).length : Int) (mkB (rawL s a)) ((0 : Nat) : Int)) r → Ev (fun k => spec_l2Take.l0 k s (a : Int) L p le e) r := by
    intro r hr
    obtain ⟨K, hK⟩ := hr
    exact ⟨K + 3, fun k hk => by
      obtain ⟨j, rfl⟩ : ∃ j, k = j + 3 := ⟨k - 3, by omega⟩
      show spec_l2Take.l0 (j + 3) s (a : Int) L p le e = _
      rw [hstep]
      exact hK j (by omega)⟩
  by_cases hd : ∃ y ∈ rawL s a, y = 46
  · exact .inl ⟨lift _ (dots_some s a L (plc e p a) le e (rawL s a) (by omega) h2 (rawL s a).length 0 (by omega) hd), hd⟩
  · have hd' : ∀ y ∈ rawL s a, y ≠ 46 := fun y hy e1 => hd ⟨y, hy, e1⟩
    refine .inr ⟨hd', fun r hr => lift r (dots_none s a L (plc e p a) le e (rawL s a) (by omega) h2 (rawL s a).length 0 (by omega) hd' r ?_)⟩
    rw [hlen, hw3]
    exact hr
end
end Go.Proofs.YtiegkjimpclmaaaGreatDoor.Pure
