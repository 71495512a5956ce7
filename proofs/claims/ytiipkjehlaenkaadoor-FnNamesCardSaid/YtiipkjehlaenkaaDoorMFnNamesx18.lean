/- FnNames: part 19 of 25 of my texts for this claim, joined; the theorem stands in the last. Conditions: none beyond the statement's. -/
import Derived.Test.YtiipkjehlaenkaaDoorMFnNamesx0
import Derived.Test.YtiipkjehlaenkaaDoorMFnNamesx7
import Derived.Test.YtiipkjehlaenkaaDoorMFnNamesx10
import Derived.Test.YtiipkjehlaenkaaDoorMFnNamesx9
import Derived.Test.YtiipkjehlaenkaaDoorMFnNamesx17
-- F75
-- By my own call of the kit's print (wip/tools/pp.py).
namespace Go.Proofs.YtiipkjehlaenkaaDoor.P
open Go.RowKit Go.Proofs.YtiipkjehlaenkaaDoorW.PrintWords Go.Proofs.YtiipkjehlaenkaaDoorW.PrintLast Go.Proofs.YtiipkjehlaenkaaDoorW.PrintMore
attribute [local go_sem] max2_int min2_int max_two min_two max_three min_three max_four min_four
set_option linter.unusedVariables false
set_option linter.unusedSimpArgs false

/-! ### spec_l1Cur_one: function 75 -/
def spec_l1Cur_one.f (s0_0 : List Int) (s0_1 : Int) (s0_2 : Int) (a1 : Int) : Option (Bool × Int × Int) := (spec_l1Cur_pick.f s0_0 s0_1 s0_2 a1).bind fun bt202 => (some ((bt202.1 == 0), bt202.2.1, bt202.2.2))
set_option maxHeartbeats 8000000 in
set_option maxRecDepth 100000 in
theorem spec_l1Cur_one.calls (g : Nat) (s0_0 : List Int) (s0_1 : Int) (s0_2 : Int) (a1 : Int) (r1 : Bool) (r2 : Int) (r3 : Int) (w0 w : World) (hI : IsS57 w0 w g s0_0 s0_1 s0_2) (hB : Below w0.heap.size w0 w) (h : spec_l1Cur_one.f s0_0 s0_1 s0_2 a1 = some (r1, r2, r3)) :
    Calls Tryd.prog 75 #[.pointer (some ⟨g, 0, none⟩), .int .i64 a1] w fun e w' => e = .returned (.bool r1) ∧ IsS57 w0 w' g s0_0 r2 r3 ∧ Below w0.heap.size w0 w' ∧ KeepBut w w' g none := by
  have HI0 := Aside0.mk hI
  have HK := Aside0.mk (KeepBut.refl w g none)
  have HL := Aside0.mk hB.size
  clear hI
  have HW0 := Aside0.mk hB.size
  have HB := Aside0.mk hB
  clear hB
  have H : ((spec_l1Cur_pick.f s0_0 s0_1 s0_2 a1).bind fun bt202 => (some ((bt202.1 == 0), bt202.2.1, bt202.2.2))) = some (r1, r2, r3) := h
  clear h
  replace H := Option.bind_eq_some_iff.mp H
  obtain ⟨⟨t202, t203, t204⟩, A30, H⟩ := H
  replace H : (some ((t202 == 0), t203, t204)) = some (r1, r2, r3) := H
  have A3 := Aside0.mk A30
  clear A30
  simp only [Option.some.injEq, Prod.mk.injEq] at H
  obtain ⟨rfl, rfl, rfl⟩ := H
  go_enter Tryd.func75, Tryd.ntmps75
  go_wp2_with (first | ((with_reducible refine gate_callee (f := 62) rfl ?_); refine goesL_ (some 7) rfl rfl Tryd.func62 (by kernel_rfl) rfl #[.pointer (some ⟨g, 0, none⟩), .int .i64 a1] rfl (by (try simp only [List.map_toArray, List.map_cons, List.map_nil]); first | done | rfl | (simp only [List.length_drop, List.length_take]; rfl)) ?_; (with_reducible refine (spec_l1Cur_pick.calls g s0_0 s0_1 s0_2 a1 t202 t203 t204 w0 _ ?side1 ?side2 A3.out).mono ?_); (case side1 => repeat (first | (with_reducible first | exact HI0.out | apply IsS57.alloc | apply IsS57.drewN | apply IsS57.drew | apply IsS57.set_1 | apply IsS57.set_2) | exact HI0.out)); (case side2 => repeat (first | (with_reducible first | exact HB.out | apply below_alloc | apply pw_below_drewN | apply below_drew1 | refine below_set ?_ (IsS57.ge HI0.out)) | exact HB.out)); rintro e w4 ⟨rfl, hi, hb, hk⟩; refine ⟨_, rfl, ?_⟩; have n0_ := Aside0.mk (KeepBut.trans (by repeat (first | (with_reducible first | exact HK.out | apply KeepBut.set_ | apply keep_drewN | apply keep_drew | apply keep_alloc) | exact HK.out)) hk (.inl rfl)); have n1_ := Aside0.mk (hb); have n2_ := Aside0.mk (hi); clear HK; clear HB; clear HI0; have HK := n0_; have HB := n1_; have HI0 := n2_; clear n0_ n1_ n2_; (try clear hb); (try clear hb2); (try clear hk); (try clear hi)))
  go_ret
  exact ⟨by first | rfl | (simp [errW_none, errW_some] <;> rfl) | (simp [*, errW_none, errW_some] <;> rfl), by repeat (first | (with_reducible first | exact HI0.out | apply IsS57.alloc | apply IsS57.drewN | apply IsS57.drew | apply IsS57.set_1 | apply IsS57.set_2) | exact HI0.out), by repeat (first | (with_reducible first | exact HB.out | apply below_alloc | apply pw_below_drewN | apply below_drew1 | refine below_set ?_ (IsS57.ge HI0.out)) | exact HB.out), by repeat (first | (with_reducible first | exact HK.out | apply KeepBut.set_ | apply keep_drewN | apply keep_drew | apply keep_alloc) | exact HK.out)⟩

end Go.Proofs.YtiipkjehlaenkaaDoor.P

-- F43
-- By my own call of the kit's print (wip/tools/pp.py).
namespace Go.Proofs.YtiipkjehlaenkaaDoor.P
open Go.RowKit Go.Proofs.YtiipkjehlaenkaaDoorW.PrintWords Go.Proofs.YtiipkjehlaenkaaDoorW.PrintLast Go.Proofs.YtiipkjehlaenkaaDoorW.PrintMore
attribute [local go_sem] max2_int min2_int max_two min_two max_three min_three max_four min_four
set_option linter.unusedVariables false
set_option linter.unusedSimpArgs false

/-! ### spec_DrawIsBelow: function 43 -/
def spec_DrawIsBelow.f (k : Nat) (l0 : List Int) : Option (ByteArray × ByteArray) := (spec_l1Cur_name.f k l0 0 0).bind fun bt206 => ((spec_l1Cur_one.f l0 bt206.2.1 bt206.2.2 3).bind fun bt209 => (if bt209.1 = true then ((spec_l1Parent.f k bt206.1).bind fun t212 => (some (bt206.1, t212))) else ((spec_l1Cur_name.f k l0 bt209.2.1 bt209.2.2).bind fun bt213 => (some (bt206.1, bt213.1)))))
theorem spec_DrawIsBelow.mono : ∀ a0 k, LeO (spec_DrawIsBelow.f k a0) (spec_DrawIsBelow.f (k + 1) a0) := by
  intro a0 k
  unfold spec_DrawIsBelow.f
  repeat' first
      | (with_reducible exact spec_l1Cur_name.mono _ _ _ _)
      | (with_reducible exact spec_l1Parent.mono _ _)
      | (with_reducible exact LeO.refl _)
      | (with_reducible exact LeO.none _)
      | (with_reducible refine LeO.ite ?_ ?_)
      | (with_reducible refine LeO.bind ?_ (fun _ => ?_))
      | exact spec_l1Cur_name.mono _ _ _ _
      | exact spec_l1Parent.mono _ _
      | exact LeO.none _
      | refine LeO.ite ?_ ?_
      | refine LeO.bind ?_ (fun _ => ?_)
set_option maxHeartbeats 8000000 in
set_option maxRecDepth 100000 in
theorem spec_DrawIsBelow.calls (k : Nat) (A0 : Option Addr) (c0 : Nat) (l0 : List Int) (r1 : ByteArray) (r2 : ByteArray) (w : World) (hr0 : Kd.C (Kd.int .u8) w A0 l0.length l0) (hc0 : l0.length ≤ c0) (h : spec_DrawIsBelow.f k l0 = some (r1, r2)) :
    Calls Tryd.prog 43 #[.slice A0 l0.length c0] w fun e w' => e = .returned (.tuple #[.string r1, .string r2]) ∧ Below w.heap.size w w' := by
  have hu57 := Tryd.underlying57
  have HR0 := Aside0.mk hr0
  have HC0 := Aside0.mk hc0
  clear hr0 hc0
  have HB := Aside0.mk (Below.refl w.heap.size w)
  have H : ((spec_l1Cur_name.f k l0 0 0).bind fun bt206 => ((spec_l1Cur_one.f l0 bt206.2.1 bt206.2.2 3).bind fun bt209 => (if bt209.1 = true then ((spec_l1Parent.f k bt206.1).bind fun t212 => (some (bt206.1, t212))) else ((spec_l1Cur_name.f k l0 bt209.2.1 bt209.2.2).bind fun bt213 => (some (bt206.1, bt213.1)))))) = some (r1, r2) := h
  clear h
  replace H := Option.bind_eq_some_iff.mp H
  obtain ⟨⟨t206, t207, t208⟩, A20, H⟩ := H
  replace H : ((spec_l1Cur_one.f l0 t207 t208 3).bind fun bt209 => (if bt209.1 = true then ((spec_l1Parent.f k t206).bind fun t212 => (some (t206, t212))) else ((spec_l1Cur_name.f k l0 bt209.2.1 bt209.2.2).bind fun bt213 => (some (t206, bt213.1))))) = some (r1, r2) := H
  have A2 := Aside0.mk A20
  clear A20
  replace H := Option.bind_eq_some_iff.mp H
  obtain ⟨⟨t209, t210, t211⟩, A30, H⟩ := H
  replace H : (if t209 = true then ((spec_l1Parent.f k t206).bind fun t212 => (some (t206, t212))) else ((spec_l1Cur_name.f k l0 t210 t211).bind fun bt213 => (some (t206, bt213.1)))) = some (r1, r2) := H
  have A3 := Aside0.mk A30
  clear A30
  by_cases c4 : t209 = true
  · subst c4
    have H1 : ((spec_l1Parent.f k t206).bind fun t212 => (some (t206, t212))) = some (r1, r2) := by rw [if_pos rfl] at H; exact H
    clear H
    have H := H1
    clear H1
    replace H := Option.bind_eq_some_iff.mp H
    obtain ⟨t212, A50, H⟩ := H
    replace H : (some (t206, t212)) = some (r1, r2) := H
    have A5 := Aside0.mk A50
    clear A50
    simp only [Option.some.injEq, Prod.mk.injEq] at H
    obtain ⟨rfl, rfl⟩ := H
    go_enter Tryd.func43, Tryd.ntmps43
    go_wp2_with (first | ((with_reducible refine gate_dst (N := 8) rfl ?_); refine box_event ?hg (N := 8) ?hd (cs := #[.slice A0 l0.length c0, .int .i64 0, .int .u64 0]) (t := 57) ?hr ?_; (case hd => rfl); (case hg => rfl); (case hr => first | (go_simp; done) | (go_simp; rfl)); intro gb205 hg w6 hbox hb; have n0_ := Aside0.mk (below_step (by repeat (first | (with_reducible first | exact HB.out | apply below_alloc | apply pw_below_drewN | apply below_drew1) | exact HB.out)) hb); have n1_ := Aside0.mk ((⟨A0, c0, hbox, (by rw [hg]; exact (below_size (by repeat (first | (with_reducible first | exact HB.out | apply below_alloc | apply pw_below_drewN | apply below_drew1) | exact HB.out)))), HR0.out⟩ : IsS57 w w6 gb205 l0 0 0)); clear HB; have HB := n0_; have HI205 := n1_; clear n0_ n1_; clear hb hbox hg) | ((with_reducible refine gate_callee (f := 74) rfl ?_); refine goesL_ (some 10) rfl rfl Tryd.func74 (by kernel_rfl) rfl #[.pointer (some ⟨gb205, 0, none⟩)] rfl (by (try simp only [List.map_toArray, List.map_cons, List.map_nil]); first | done | rfl | (simp only [List.length_drop, List.length_take]; rfl)) ?_; (with_reducible refine (spec_l1Cur_name.calls k gb205 l0 0 0 t206 t207 t208 w _ ?side1 ?side2 A2.out).mono ?_); (case side1 => repeat (first | (with_reducible first | exact HI205.out | apply IsS57.alloc | apply IsS57.drewN | apply IsS57.drew | apply IsS57.set_1 | apply IsS57.set_2) | exact HI205.out)); (case side2 => repeat (first | (with_reducible first | exact HB.out | apply below_alloc | apply pw_below_drewN | apply below_drew1 | refine below_set ?_ (IsS57.ge HI205.out)) | exact HB.out)); rintro e w7 ⟨rfl, hi, hb, hk⟩; refine ⟨_, rfl, ?_⟩; have n0_ := Aside0.mk (hb); have n1_ := Aside0.mk (hi); clear HB; clear HI205; have HB := n0_; have HI205 := n1_; clear n0_ n1_; (try clear hb); (try clear hb2); (try clear hk); (try clear hi)) | ((with_reducible refine gate_callee (f := 75) rfl ?_); refine goesL_ (some 12) rfl rfl Tryd.func75 (by kernel_rfl) rfl #[.pointer (some ⟨gb205, 0, none⟩), .int .i64 3] rfl (by (try simp only [List.map_toArray, List.map_cons, List.map_nil]); first | done | rfl | (simp only [List.length_drop, List.length_take]; rfl)) ?_; (with_reducible refine (spec_l1Cur_one.calls gb205 l0 t207 t208 3 true t210 t211 w _ ?side1 ?side2 A3.out).mono ?_); (case side1 => repeat (first | (with_reducible first | exact HI205.out | apply IsS57.alloc | apply IsS57.drewN | apply IsS57.drew | apply IsS57.set_1 | apply IsS57.set_2) | exact HI205.out)); (case side2 => repeat (first | (with_reducible first | exact HB.out | apply below_alloc | apply pw_below_drewN | apply below_drew1 | refine below_set ?_ (IsS57.ge HI205.out)) | exact HB.out)); rintro e w8 ⟨rfl, hi, hb, hk⟩; refine ⟨_, rfl, ?_⟩; have n0_ := Aside0.mk (hb); have n1_ := Aside0.mk (hi); clear HB; clear HI205; have HB := n0_; have HI205 := n1_; clear n0_ n1_; (try clear hb); (try clear hb2); (try clear hk); (try clear hi)) | ((with_reducible refine gate_callee (f := 58) rfl ?_); refine goesL_ (some 15) rfl rfl Tryd.func58 (by kernel_rfl) rfl #[.string t206] rfl (by (try simp only [List.map_toArray, List.map_cons, List.map_nil]); first | done | rfl | (simp only [List.length_drop, List.length_take]; rfl)) ?_; (with_reducible refine (spec_l1Parent.calls k t206 t212 _ A5.out).mono ?_); rintro e w' ⟨rfl, ⟨nd, rfl⟩⟩; refine ⟨_, rfl, ?_⟩))
    go_ret2
    exact ⟨by first | rfl | (simp [errW_none, errW_some] <;> rfl) | (simp [*, errW_none, errW_some] <;> rfl), by repeat (first | (with_reducible first | exact HB.out | apply below_alloc | apply pw_below_drewN | apply below_drew1 | refine below_set ?_ (IsS57.ge HI205.out)) | exact HB.out)⟩
  · replace c4 := Bool.eq_false_iff.mpr c4
    subst c4
    have H1 : ((spec_l1Cur_name.f k l0 t210 t211).bind fun bt213 => (some (t206, bt213.1))) = some (r1, r2) := by rw [if_neg (show ¬ (false = true) by decide)] at H; exact H
    clear H
    have H := H1
    clear H1
    replace H := Option.bind_eq_some_iff.mp H
    obtain ⟨⟨t213, t214, t215⟩, A90, H⟩ := H
    replace H : (some (t206, t213)) = some (r1, r2) := H
    have A9 := Aside0.mk A90
    clear A90
    simp only [Option.some.injEq, Prod.mk.injEq] at H
    obtain ⟨rfl, rfl⟩ := H
    go_enter Tryd.func43, Tryd.ntmps43
    go_wp2_with (first | ((with_reducible refine gate_dst (N := 8) rfl ?_); refine box_event ?hg (N := 8) ?hd (cs := #[.slice A0 l0.length c0, .int .i64 0, .int .u64 0]) (t := 57) ?hr ?_; (case hd => rfl); (case hg => rfl); (case hr => first | (go_simp; done) | (go_simp; rfl)); intro gb205 hg w10 hbox hb; have n0_ := Aside0.mk (below_step (by repeat (first | (with_reducible first | exact HB.out | apply below_alloc | apply pw_below_drewN | apply below_drew1) | exact HB.out)) hb); have n1_ := Aside0.mk ((⟨A0, c0, hbox, (by rw [hg]; exact (below_size (by repeat (first | (with_reducible first | exact HB.out | apply below_alloc | apply pw_below_drewN | apply below_drew1) | exact HB.out)))), HR0.out⟩ : IsS57 w w10 gb205 l0 0 0)); clear HB; have HB := n0_; have HI205 := n1_; clear n0_ n1_; clear hb hbox hg) | ((with_reducible refine gate_callee (f := 74) rfl ?_); refine goesL_ (some 10) rfl rfl Tryd.func74 (by kernel_rfl) rfl #[.pointer (some ⟨gb205, 0, none⟩)] rfl (by (try simp only [List.map_toArray, List.map_cons, List.map_nil]); first | done | rfl | (simp only [List.length_drop, List.length_take]; rfl)) ?_; (with_reducible refine (spec_l1Cur_name.calls k gb205 l0 0 0 t206 t207 t208 w _ ?side1 ?side2 A2.out).mono ?_); (case side1 => repeat (first | (with_reducible first | exact HI205.out | apply IsS57.alloc | apply IsS57.drewN | apply IsS57.drew | apply IsS57.set_1 | apply IsS57.set_2) | exact HI205.out)); (case side2 => repeat (first | (with_reducible first | exact HB.out | apply below_alloc | apply pw_below_drewN | apply below_drew1 | refine below_set ?_ (IsS57.ge HI205.out)) | exact HB.out)); rintro e w11 ⟨rfl, hi, hb, hk⟩; refine ⟨_, rfl, ?_⟩; have n0_ := Aside0.mk (hb); have n1_ := Aside0.mk (hi); clear HB; clear HI205; have HB := n0_; have HI205 := n1_; clear n0_ n1_; (try clear hb); (try clear hb2); (try clear hk); (try clear hi)) | ((with_reducible refine gate_callee (f := 75) rfl ?_); refine goesL_ (some 12) rfl rfl Tryd.func75 (by kernel_rfl) rfl #[.pointer (some ⟨gb205, 0, none⟩), .int .i64 3] rfl (by (try simp only [List.map_toArray, List.map_cons, List.map_nil]); first | done | rfl | (simp only [List.length_drop, List.length_take]; rfl)) ?_; (with_reducible refine (spec_l1Cur_one.calls gb205 l0 t207 t208 3 false t210 t211 w _ ?side1 ?side2 A3.out).mono ?_); (case side1 => repeat (first | (with_reducible first | exact HI205.out | apply IsS57.alloc | apply IsS57.drewN | apply IsS57.drew | apply IsS57.set_1 | apply IsS57.set_2) | exact HI205.out)); (case side2 => repeat (first | (with_reducible first | exact HB.out | apply below_alloc | apply pw_below_drewN | apply below_drew1 | refine below_set ?_ (IsS57.ge HI205.out)) | exact HB.out)); rintro e w12 ⟨rfl, hi, hb, hk⟩; refine ⟨_, rfl, ?_⟩; have n0_ := Aside0.mk (hb); have n1_ := Aside0.mk (hi); clear HB; clear HI205; have HB := n0_; have HI205 := n1_; clear n0_ n1_; (try clear hb); (try clear hb2); (try clear hk); (try clear hi)) | ((with_reducible refine gate_callee (f := 74) rfl ?_); refine goesL_ (some 18) rfl rfl Tryd.func74 (by kernel_rfl) rfl #[.pointer (some ⟨gb205, 0, none⟩)] rfl (by (try simp only [List.map_toArray, List.map_cons, List.map_nil]); first | done | rfl | (simp only [List.length_drop, List.length_take]; rfl)) ?_; (with_reducible refine (spec_l1Cur_name.calls k gb205 l0 t210 t211 t213 t214 t215 w _ ?side1 ?side2 A9.out).mono ?_); (case side1 => repeat (first | (with_reducible first | exact HI205.out | apply IsS57.alloc | apply IsS57.drewN | apply IsS57.drew | apply IsS57.set_1 | apply IsS57.set_2) | exact HI205.out)); (case side2 => repeat (first | (with_reducible first | exact HB.out | apply below_alloc | apply pw_below_drewN | apply below_drew1 | refine below_set ?_ (IsS57.ge HI205.out)) | exact HB.out)); rintro e w13 ⟨rfl, hi, hb, hk⟩; refine ⟨_, rfl, ?_⟩; have n0_ := Aside0.mk (hb); have n1_ := Aside0.mk (hi); clear HB; clear HI205; have HB := n0_; have HI205 := n1_; clear n0_ n1_; (try clear hb); (try clear hb2); (try clear hk); (try clear hi)))
    go_ret2
    exact ⟨by first | rfl | (simp [errW_none, errW_some] <;> rfl) | (simp [*, errW_none, errW_some] <;> rfl), by repeat (first | (with_reducible first | exact HB.out | apply below_alloc | apply pw_below_drewN | apply below_drew1 | refine below_set ?_ (IsS57.ge HI205.out)) | exact HB.out)⟩

end Go.Proofs.YtiipkjehlaenkaaDoor.P

-- F11
-- By my own call of the kit's print (wip/tools/pp.py).
namespace Go.Proofs.YtiipkjehlaenkaaDoor.P
open Go.RowKit Go.Proofs.YtiipkjehlaenkaaDoorW.PrintWords Go.Proofs.YtiipkjehlaenkaaDoorW.PrintLast Go.Proofs.YtiipkjehlaenkaaDoorW.PrintMore
attribute [local go_sem] max2_int min2_int max_two min_two max_three min_three max_four min_four
set_option linter.unusedVariables false
set_option linter.unusedSimpArgs false

/-! ### spec_DrawCommonOf: function 11 -/
def spec_DrawCommonOf.f (k : Nat) (l0 : List Int) : Option (ByteArray × ByteArray) := (spec_DrawIsBelow.f k l0).bind fun bt216 => (some (bt216.1, bt216.2))
theorem spec_DrawCommonOf.mono : ∀ a0 k, LeO (spec_DrawCommonOf.f k a0) (spec_DrawCommonOf.f (k + 1) a0) := by
  intro a0 k
  unfold spec_DrawCommonOf.f
  repeat' first
      | (with_reducible exact spec_DrawIsBelow.mono _ _)
      | (with_reducible exact LeO.refl _)
      | (with_reducible exact LeO.none _)
      | (with_reducible refine LeO.ite ?_ ?_)
      | (with_reducible refine LeO.bind ?_ (fun _ => ?_))
      | exact spec_DrawIsBelow.mono _ _
      | exact LeO.none _
      | refine LeO.ite ?_ ?_
      | refine LeO.bind ?_ (fun _ => ?_)
set_option maxHeartbeats 8000000 in
set_option maxRecDepth 100000 in
theorem spec_DrawCommonOf.calls (k : Nat) (A0 : Option Addr) (c0 : Nat) (l0 : List Int) (r1 : ByteArray) (r2 : ByteArray) (w : World) (hr0 : Kd.C (Kd.int .u8) w A0 l0.length l0) (hc0 : l0.length ≤ c0) (h : spec_DrawCommonOf.f k l0 = some (r1, r2)) :
    Calls Tryd.prog 11 #[.slice A0 l0.length c0] w fun e w' => e = .returned (.tuple #[.string r1, .string r2]) ∧ Below w.heap.size w w' := by
  have HR0 := Aside0.mk hr0
  have HC0 := Aside0.mk hc0
  clear hr0 hc0
  have HB := Aside0.mk (Below.refl w.heap.size w)
  have H : ((spec_DrawIsBelow.f k l0).bind fun bt216 => (some (bt216.1, bt216.2))) = some (r1, r2) := h
  clear h
  replace H := Option.bind_eq_some_iff.mp H
  obtain ⟨⟨t216, t217⟩, A20, H⟩ := H
  replace H : (some (t216, t217)) = some (r1, r2) := H
  have A2 := Aside0.mk A20
  clear A20
  simp only [Option.some.injEq, Prod.mk.injEq] at H
  obtain ⟨rfl, rfl⟩ := H
  go_enter Tryd.func11, Tryd.ntmps11
  go_wp2_with (first | ((with_reducible refine gate_callee (f := 43) rfl ?_); refine goesL_ (some 5) rfl rfl Tryd.func43 (by kernel_rfl) rfl #[.slice A0 l0.length c0] rfl (by (try simp only [List.map_toArray, List.map_cons, List.map_nil]); first | done | rfl | (simp only [List.length_drop, List.length_take]; rfl)) ?_; (with_reducible refine (spec_DrawIsBelow.calls k _ _ l0 t216 t217 _ ?side1 ?side2 A2.out).mono ?_); (case side1 => repeat (first | exact HR0.out | (with_reducible refine Kd.C_alloc ?_ _) | (with_reducible refine Kd.C_drewN ?_ _) | (with_reducible refine Kd.C_drew ?_))); (case side2 => exact HC0.out); rintro e w3 ⟨rfl, hb⟩; refine ⟨_, rfl, ?_⟩; have n0_ := Aside0.mk (below_step (by repeat (first | (with_reducible first | exact HB.out | apply below_alloc | apply pw_below_drewN | apply below_drew1) | exact HB.out)) hb); clear HB; have HB := n0_; clear n0_; (try clear hb); (try clear hb2); (try clear hk); (try clear hi)))
  go_ret2
  exact ⟨by first | rfl | (simp [errW_none, errW_some] <;> rfl) | (simp [*, errW_none, errW_some] <;> rfl), by repeat (first | (with_reducible first | exact HB.out | apply below_alloc | apply pw_below_drewN | apply below_drew1) | exact HB.out)⟩

end Go.Proofs.YtiipkjehlaenkaaDoor.P

-- PureDraw
/- The drawn names: each draw answers, with a short text. Conditions: the bytes are bytes. -/
namespace Go.Proofs.YtiipkjehlaenkaaDoor.Pure
open Go.RowKit Go.Proofs.YtiipkjehlaenkaaDoor.P Go.Proofs.YtiipkjehlaenkaaDoorW.PrintWords Go.Proofs.YtiipkjehlaenkaaDoorW.PrintLast
set_option linter.unusedVariables false
set_option linter.unusedSimpArgs false

theorem of_some {l : List Int} (hl : Bytes l) {at_ sd : Int} {n : Nat} (hc : Cur at_ n) (hn : n < 4611686018427387000) (zs : List ByteArray) (hz : 0 < zs.length) :
    ∃ x at2 sd2, spec_l1Cur_of.f l at_ sd zs = some (x, at2, sd2) ∧ x ∈ zs ∧ Cur at2 (n + 2) := by
  unfold spec_l1Cur_of.f
  obtain ⟨i, at2, sd2, e, hi, hc2⟩ := pick_some hl hc (by omega) (sd := sd) (zs.length : Int)
  rw [e]
  simp only [Option.bind_some]
  have hlt : i < (zs.length : Int) := by omega
  rw [if_pos hi.1, if_pos hlt]
  refine ⟨_, _, _, rfl, ?_, hc2⟩
  have h2 : i.toNat < zs.length := by omega
  rw [rdOf, List.getD_eq_getElem?_getD, List.getElem?_eq_getElem h2]
  exact List.getElem_mem h2
theorem size_le {zs : List ByteArray} {n : Nat} (h : zs.all (fun x => decide (x.size ≤ n)) = true) {x : ByteArray} (hx : x ∈ zs) : x.size ≤ n := by
  have := List.all_eq_true.1 h x hx
  simpa using this
theorem name_loop {l : List Int} (hl : Bytes l) : ∀ (m : Nat) (at_ sd : Int) (n : Nat) (acc : ByteArray), Cur at_ n → n + 2 * m < 4611686018427387000 → acc.size + 4 * m ≤ 1000 → m ≤ 10 →
    ∃ s at2 sd2, spec_l1Cur_name.l0 (m + 1) acc (m : Int) l at_ sd = some (s, at2, sd2) ∧ s.size ≤ acc.size + 4 * m ∧ Cur at2 (n + 2 * m)
  | 0, at_, sd, n, acc, hc, hn, ha, hm => ⟨acc, at_, sd, by unfold spec_l1Cur_name.l0; rw [if_neg (by omega)], by omega, by simpa using hc⟩
  | m + 1, at_, sd, n, acc, hc, hn, ha, hm => by
    obtain ⟨x, at2, sd2, e, hx, hc2⟩ := of_some hl hc (by omega) (sd := sd) ([(⟨#[97]⟩ : ByteArray), (⟨#[98]⟩ : ByteArray), (⟨#[119, 119, 119]⟩ : ByteArray), (⟨#[115, 117, 98]⟩ : ByteArray), (⟨#[42]⟩ : ByteArray), (⟨#[120, 49]⟩ : ByteArray), (⟨#[110, 115]⟩ : ByteArray)] : List ByteArray) (by decide)
    have hsz : x.size ≤ 3 := size_le (by decide) hx
    have h46 : (⟨#[46]⟩ : ByteArray).size = 1 := rfl
    obtain ⟨s, at3, sd3, f, hs, hc3⟩ := name_loop hl m at2 sd2 (n + 2) ((x ++ (⟨#[46]⟩ : ByteArray)) ++ acc) hc2 (by omega) (by rw [ByteArray.size_append, ByteArray.size_append, h46]; omega) (by omega)
    refine ⟨s, at3, sd3, ?_, ?_, ?_⟩
    · conv => lhs; unfold spec_l1Cur_name.l0
      rw [if_pos (by omega), e, Option.bind_some]
      dsimp only
      rw [if_pos (by omega), if_pos (by rw [ByteArray.size_append, h46]; omega), show wrap64 (((m + 1 : Nat) : Int) - 1) = (m : Int) by unfold wrap64; omega]
      exact f
    · rw [ByteArray.size_append, ByteArray.size_append, h46] at hs
      omega
    · rw [show n + 2 * (m + 1) = n + 2 + 2 * m by omega]
      exact hc3
theorem name_some {l : List Int} (hl : Bytes l) {at_ sd : Int} {n : Nat} (hc : Cur at_ n) (hn : n < 4611686018427380000) :
    ∃ s at2 sd2, Ev (fun k => spec_l1Cur_name.f k l at_ sd) (s, at2, sd2) ∧ s.size ≤ 60 ∧ Cur at2 (n + 20) := by
  have up : ∀ {a : Int} {p q : Nat}, Cur a p → p ≤ q → Cur a q := fun h k => ⟨h.1, by have := h.2; omega⟩
  obtain ⟨i, at2, sd2, e, hi, hc2⟩ := pick_some hl hc (by omega) (sd := sd) 40
  by_cases h0 : i = 0
  · obtain ⟨x, at3, sd3, e3, hx, hc3⟩ := of_some hl hc2 (by omega) (sd := sd2) ([(⟨#[]⟩ : ByteArray), (⟨#[46]⟩ : ByteArray), (⟨#[97, 46, 46, 98]⟩ : ByteArray), (⟨#[65]⟩ : ByteArray), (⟨#[97, 46]⟩ : ByteArray), (⟨#[97, 42]⟩ : ByteArray), (⟨#[97, 46, 98, 46, 99, 46, 100, 46, 101, 46, 102, 46, 103, 46, 104]⟩ : ByteArray), (⟨#[97, 46, 98, 46, 99, 46, 100, 46, 101, 46, 102, 46, 103, 46, 104, 46, 105]⟩ : ByteArray), (⟨#[97, 98, 99, 100, 101, 102, 103, 104, 105, 106, 107, 108, 109, 110, 111, 112, 113, 114, 115, 116]⟩ : ByteArray), (⟨#[97, 98, 99, 100, 101, 102, 103, 104, 105, 106, 107, 108, 109, 110, 111, 112, 113, 114, 115, 116, 117]⟩ : ByteArray)] : List ByteArray) (by decide)
    refine ⟨x, at3, sd3, Ev.congr (fun k => ?_) (Ev.now _), size_le (by decide) hx, up hc3 (by omega)⟩
    unfold spec_l1Cur_name.f
    rw [e]
    simp only [Option.bind_some]
    rw [if_pos h0, e3]
    rfl
  · by_cases h1 : i = 1
    · obtain ⟨x, at3, sd3, e3, hx, hc3⟩ := of_some hl hc2 (by omega) (sd := sd2) ([(⟨#[]⟩ : ByteArray), (⟨#[99, 111, 109]⟩ : ByteArray)] : List ByteArray) (by decide)
      refine ⟨x, at3, sd3, Ev.congr (fun k => ?_) (Ev.now _), size_le (by decide) hx, up hc3 (by omega)⟩
      unfold spec_l1Cur_name.f
      rw [e]
      simp only [Option.bind_some]
      rw [if_neg h0, if_pos h1, e3]
      rfl
    · obtain ⟨x, at3, sd3, e3, hx, hc3⟩ := of_some hl hc2 (by omega) (sd := sd2) ([(⟨#[101, 120]⟩ : ByteArray), (⟨#[99, 111, 109]⟩ : ByteArray), (⟨#[101, 120, 46, 99, 111, 109]⟩ : ByteArray), (⟨#[101, 120, 46, 99, 111, 109]⟩ : ByteArray), (⟨#[101, 120, 46, 99, 111, 109]⟩ : ByteArray)] : List ByteArray) (by decide)
      have hsz : x.size ≤ 6 := size_le (by decide) hx
      obtain ⟨j, at4, sd4, e4, hj, hc4⟩ := pick_some hl hc3 (by omega) (sd := sd3) 3
      obtain ⟨m, rfl⟩ : ∃ m : Nat, j = (m : Int) := ⟨j.toNat, by omega⟩
      obtain ⟨s, at5, sd5, e5, hs, hc5⟩ := name_loop hl m at4 sd4 _ x hc4 (by omega) (by omega) (by omega)
      refine ⟨s, at5, sd5, Ev.of (fun k => spec_l1Cur_name.mono _ _ _ _) (k := m + 1) ?_, by omega, up hc5 (by omega)⟩
      unfold spec_l1Cur_name.f
      rw [e]
      simp only [Option.bind_some]
      rw [if_neg h0, if_neg h1, e3]
      simp only [Option.bind_some]
      rw [e4]
      simp only [Option.bind_some]
      exact e5
theorem below_draw {l : List Int} (hl : Bytes l) : ∃ a b, Ev (fun k => spec_DrawIsBelow.f k l) (a, b) ∧ a.size ≤ 60 ∧ b.size ≤ 60 := by
  obtain ⟨a, at2, sd2, e, ha, hc2⟩ := name_some hl (at_ := 0) (sd := 0) (n := 0) ⟨by omega, by omega⟩ (by omega)
  obtain ⟨i, at3, sd3, e3, hi, hc3⟩ := pick_some hl hc2 (by omega) (sd := sd2) 3
  have h3 : spec_l1Cur_one.f l at2 sd2 3 = some ((i == 0), at3, sd3) := by
    unfold spec_l1Cur_one.f
    rw [e3]
    rfl
  obtain ⟨b, at4, sd4, e4, hb, hc4⟩ := name_some hl hc3 (by omega) (sd := sd3)
  by_cases h0 : (i == 0) = true
  · refine ⟨a, mkB (parL a.data.toList), Ev.congr (fun k => rfl) (Ev.bind e ?_), ha, by rw [mkB_size]; have := parL_len a.data.toList; rw [← size_len] at this; omega⟩
    simp only [h3, Option.bind_some, if_pos h0]
    exact Ev.bind (specParent_ev a (by omega)) (Ev.now _)
  · refine ⟨a, b, Ev.congr (fun k => rfl) (Ev.bind e ?_), ha, hb⟩
    simp only [h3, Option.bind_some, if_neg h0]
    exact Ev.bind e4 (Ev.now _)
theorem common_draw {l : List Int} (hl : Bytes l) : ∃ a b, Ev (fun k => spec_DrawCommonOf.f k l) (a, b) ∧ a.size ≤ 60 ∧ b.size ≤ 60 := by
  obtain ⟨a, b, e, ha, hb⟩ := below_draw hl
  exact ⟨a, b, Ev.congr (fun k => rfl) (Ev.bind e (Ev.now _)), ha, hb⟩
end Go.Proofs.YtiipkjehlaenkaaDoor.Pure
