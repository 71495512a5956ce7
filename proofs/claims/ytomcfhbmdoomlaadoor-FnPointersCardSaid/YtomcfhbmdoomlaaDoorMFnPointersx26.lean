/- FnPointers: part 27 of 27 of my texts for this claim, joined; the theorem stands in the last. Conditions: none beyond the statement's. -/
import Derived.Test.YtomcfhbmdoomlaaDoorMFnPointersx2
import Derived.Test.YtomcfhbmdoomlaaDoorMFnPointersx7
import Derived.Test.YtomcfhbmdoomlaaDoorMFnPointersx9
import Derived.Test.YtomcfhbmdoomlaaDoorMFnPointersx21
import Derived.Test.YtomcfhbmdoomlaaDoorMFnPointersx24
import Derived.Test.YtomcfhbmdoomlaaDoorMFnPointersx25
import Derived.Test.YtomcfhbmdoomlaaDoorMFnPointersx20
import Derived.SizedLaws
import Derived.ChangeSlices
import Derived.Test.YtomcfhbmdoomlaaDoorCards
import Derived.Test.YtomcfhbmdoomlaaDoorTie
import Derived.Deep.DeepHandedRow
import Derived.WalkKit
import Derived.ProofKit
import Derived.OpenShut
import Derived.ShutString
import Derived.ChangeOld
import Derived.Below
-- F3
-- By my own call of the kit's print (wip/tools/pp.py).
namespace Go.Proofs.YtomcfhbmdoomlaaDoor.P
open Go.RowKit Go.Proofs.YtomcfhbmdoomlaaDoorW.PrintWords Go.Proofs.YtomcfhbmdoomlaaDoorW.PrintLast Go.Proofs.YtomcfhbmdoomlaaDoorW.PrintMore
attribute [local go_sem] max2_int min2_int max_two min_two max_three min_three max_four min_four
set_option linter.unusedVariables false
set_option linter.unusedSimpArgs false

/-! ### laws_FnExactTakeName: function 3 -/
def laws_FnExactTakeName.f (k : Nat) (a0 : ByteArray) (a1 : Int) : Option (Bool) := if (a0.size : Int) > 1048576 then (some true) else ((spec_TakeName.f k a0 a1).bind fun bt172 => ((impl_TakeName.f k a0 a1).bind fun bt175 => (if bt175.1.toList = bt172.1.toList then (if bt175.2.1 = bt172.2.1 then (if (bt175.2.2 != bt172.2.2) = true then (some false) else (some true)) else (some false)) else (some false))))
theorem laws_FnExactTakeName.mono : ∀ a0 a1 k, LeO (laws_FnExactTakeName.f k a0 a1) (laws_FnExactTakeName.f (k + 1) a0 a1) := by
  intro a0 a1 k
  unfold laws_FnExactTakeName.f
  repeat' first
      | (with_reducible exact impl_TakeName.mono _ _ _)
      | (with_reducible exact spec_TakeName.mono _ _ _)
      | (with_reducible exact LeO.refl _)
      | (with_reducible exact LeO.none _)
      | (with_reducible refine LeO.ite ?_ ?_)
      | (with_reducible refine LeO.bind ?_ (fun _ => ?_))
      | exact impl_TakeName.mono _ _ _
      | exact spec_TakeName.mono _ _ _
      | exact LeO.none _
      | refine LeO.ite ?_ ?_
      | refine LeO.bind ?_ (fun _ => ?_)
set_option maxHeartbeats 8000000 in
set_option maxRecDepth 100000 in
theorem laws_FnExactTakeName.calls (k : Nat) (a0 : ByteArray) (a1 : Int) (r : Bool) (w : World) (h : laws_FnExactTakeName.f k a0 a1 = some r) :
    Calls Tryd.prog 3 #[.string a0, .int .i64 a1] w fun e w' => e = .returned (.bool r) ∧ Below w.heap.size w w' := by
  have HB := Aside0.mk (Below.refl w.heap.size w)
  have H : (if (a0.size : Int) > 1048576 then (some true) else ((spec_TakeName.f k a0 a1).bind fun bt172 => ((impl_TakeName.f k a0 a1).bind fun bt175 => (if bt175.1.toList = bt172.1.toList then (if bt175.2.1 = bt172.2.1 then (if (bt175.2.2 != bt172.2.2) = true then (some false) else (some true)) else (some false)) else (some false))))) = some r := h
  clear h
  by_cases c3 : (a0.size : Int) > 1048576
  · rw [if_pos c3] at H
    have c3b0 : decide (1048576 < (a0.size : Int)) = true := decide_eq_true c3
    have c3b1 : decide (1048576 < a0.size) = true := decide_eq_true (by omega)
    clear c3
    obtain rfl := Option.some.inj H
    go_enter Tryd.func3, Tryd.ntmps3
    go_wp2
    go_ret
    exact ⟨by first | rfl | (simp [errW_none, errW_some] <;> rfl) | (simp [*, errW_none, errW_some] <;> rfl), by repeat (first | (with_reducible first | exact HB.out | apply below_alloc | apply pw_below_drewN | apply below_drew1) | exact HB.out)⟩
  · rw [if_neg c3] at H
    have c3b0 : decide (1048576 < (a0.size : Int)) = false := decide_eq_false c3
    have c3b1 : decide (1048576 < a0.size) = false := decide_eq_false (by omega)
    clear c3
    replace H := Option.bind_eq_some_iff.mp H
    obtain ⟨⟨t172, t173, t174⟩, A40, H⟩ := H
    replace H : ((impl_TakeName.f k a0 a1).bind fun bt175 => (if bt175.1.toList = t172.toList then (if bt175.2.1 = t173 then (if (bt175.2.2 != t174) = true then (some false) else (some true)) else (some false)) else (some false))) = some r := H
    have A4 := Aside0.mk A40
    clear A40
    replace H := Option.bind_eq_some_iff.mp H
    obtain ⟨⟨t175, t176, t177⟩, A50, H⟩ := H
    replace H : (if t175.toList = t172.toList then (if t176 = t173 then (if (t177 != t174) = true then (some false) else (some true)) else (some false)) else (some false)) = some r := H
    have A5 := Aside0.mk A50
    clear A50
    by_cases c6 : t175.toList = t172.toList
    · rw [if_pos c6] at H
      have c6b0 : (t175.toList == t172.toList) = true := beq_iff_eq.mpr c6
      have c6b1 : (t175.toList != t172.toList) = false := bne_eq_false_iff_eq.mpr c6
      clear c6
      by_cases c7 : t176 = t173
      · rw [if_pos c7] at H
        have c7b0 : (t176 == t173) = true := beq_iff_eq.mpr c7
        have c7b1 : (t176 != t173) = false := bne_eq_false_iff_eq.mpr c7
        clear c7
        by_cases c8 : (t177 != t174) = true
        · rw [if_pos c8] at H
          have c8b0 : (t177 != t174) = true := c8
          (try (have c8b1 : decide (t177 = t174) = false := by simpa using c8))
          (try (have c8b2 : (t177 == t174) = false := by simpa using c8))
          (try (have c8b3 : ¬ (t177 = t174) := by simpa using c8))
          clear c8
          obtain rfl := Option.some.inj H
          go_enter Tryd.func3, Tryd.ntmps3
          go_wp2_with (first | ((with_reducible refine gate_callee (f := 11) rfl ?_); refine goesL_ (some 17) rfl rfl Tryd.func11 (by kernel_rfl) rfl #[.string a0, .int .i64 a1] rfl (by (try simp only [List.map_toArray, List.map_cons, List.map_nil]); first | done | rfl | (simp only [List.length_drop, List.length_take]; rfl)) ?_; (with_reducible refine (spec_TakeName.calls k a0 a1 t172 t173 t174 _ A4.out).mono ?_); rintro e w9 ⟨rfl, hb⟩; refine ⟨_, rfl, ?_⟩; have n0_ := Aside0.mk (below_step (by repeat (first | (with_reducible first | exact HB.out | apply below_alloc | apply pw_below_drewN | apply below_drew1) | exact HB.out)) hb); clear HB; have HB := n0_; clear n0_; (try clear hb); (try clear hb2); (try clear hk); (try clear hi)) | ((with_reducible refine gate_callee (f := 12) rfl ?_); refine goesL_ (some 24) rfl rfl Tryd.func12 (by kernel_rfl) rfl #[.string a0, .int .i64 a1] rfl (by (try simp only [List.map_toArray, List.map_cons, List.map_nil]); first | done | rfl | (simp only [List.length_drop, List.length_take]; rfl)) ?_; (with_reducible refine (impl_TakeName.calls k a0 a1 t175 t176 t177 _ A5.out).mono ?_); rintro e w10 ⟨rfl, hb⟩; refine ⟨_, rfl, ?_⟩; have n0_ := Aside0.mk (below_step (by repeat (first | (with_reducible first | exact HB.out | apply below_alloc | apply pw_below_drewN | apply below_drew1) | exact HB.out)) hb); clear HB; have HB := n0_; clear n0_; (try clear hb); (try clear hb2); (try clear hk); (try clear hi)))
          go_ret
          exact ⟨by first | rfl | (simp [errW_none, errW_some] <;> rfl) | (simp [*, errW_none, errW_some] <;> rfl), by repeat (first | (with_reducible first | exact HB.out | apply below_alloc | apply pw_below_drewN | apply below_drew1) | exact HB.out)⟩
        · rw [if_neg c8] at H
          have c8b0 : (t177 != t174) = false := by simpa using c8
          (try (have c8b1 : decide (t177 = t174) = true := by simpa using c8))
          (try (have c8b2 : (t177 == t174) = true := by simpa using c8))
          clear c8
          obtain rfl := Option.some.inj H
          go_enter Tryd.func3, Tryd.ntmps3
          go_wp2_with (first | ((with_reducible refine gate_callee (f := 11) rfl ?_); refine goesL_ (some 17) rfl rfl Tryd.func11 (by kernel_rfl) rfl #[.string a0, .int .i64 a1] rfl (by (try simp only [List.map_toArray, List.map_cons, List.map_nil]); first | done | rfl | (simp only [List.length_drop, List.length_take]; rfl)) ?_; (with_reducible refine (spec_TakeName.calls k a0 a1 t172 t173 t174 _ A4.out).mono ?_); rintro e w11 ⟨rfl, hb⟩; refine ⟨_, rfl, ?_⟩; have n0_ := Aside0.mk (below_step (by repeat (first | (with_reducible first | exact HB.out | apply below_alloc | apply pw_below_drewN | apply below_drew1) | exact HB.out)) hb); clear HB; have HB := n0_; clear n0_; (try clear hb); (try clear hb2); (try clear hk); (try clear hi)) | ((with_reducible refine gate_callee (f := 12) rfl ?_); refine goesL_ (some 24) rfl rfl Tryd.func12 (by kernel_rfl) rfl #[.string a0, .int .i64 a1] rfl (by (try simp only [List.map_toArray, List.map_cons, List.map_nil]); first | done | rfl | (simp only [List.length_drop, List.length_take]; rfl)) ?_; (with_reducible refine (impl_TakeName.calls k a0 a1 t175 t176 t177 _ A5.out).mono ?_); rintro e w12 ⟨rfl, hb⟩; refine ⟨_, rfl, ?_⟩; have n0_ := Aside0.mk (below_step (by repeat (first | (with_reducible first | exact HB.out | apply below_alloc | apply pw_below_drewN | apply below_drew1) | exact HB.out)) hb); clear HB; have HB := n0_; clear n0_; (try clear hb); (try clear hb2); (try clear hk); (try clear hi)))
          go_ret
          exact ⟨by first | rfl | (simp [errW_none, errW_some] <;> rfl) | (simp [*, errW_none, errW_some] <;> rfl), by repeat (first | (with_reducible first | exact HB.out | apply below_alloc | apply pw_below_drewN | apply below_drew1) | exact HB.out)⟩
      · rw [if_neg c7] at H
        have c7b0 : (t176 == t173) = false := beq_eq_false_iff_ne.mpr c7
        have c7b1 : (t176 != t173) = true := bne_iff_ne.mpr c7
        obtain rfl := Option.some.inj H
        go_enter Tryd.func3, Tryd.ntmps3
        go_wp2_with (first | ((with_reducible refine gate_callee (f := 11) rfl ?_); refine goesL_ (some 17) rfl rfl Tryd.func11 (by kernel_rfl) rfl #[.string a0, .int .i64 a1] rfl (by (try simp only [List.map_toArray, List.map_cons, List.map_nil]); first | done | rfl | (simp only [List.length_drop, List.length_take]; rfl)) ?_; (with_reducible refine (spec_TakeName.calls k a0 a1 t172 t173 t174 _ A4.out).mono ?_); rintro e w13 ⟨rfl, hb⟩; refine ⟨_, rfl, ?_⟩; have n0_ := Aside0.mk (below_step (by repeat (first | (with_reducible first | exact HB.out | apply below_alloc | apply pw_below_drewN | apply below_drew1) | exact HB.out)) hb); clear HB; have HB := n0_; clear n0_; (try clear hb); (try clear hb2); (try clear hk); (try clear hi)) | ((with_reducible refine gate_callee (f := 12) rfl ?_); refine goesL_ (some 24) rfl rfl Tryd.func12 (by kernel_rfl) rfl #[.string a0, .int .i64 a1] rfl (by (try simp only [List.map_toArray, List.map_cons, List.map_nil]); first | done | rfl | (simp only [List.length_drop, List.length_take]; rfl)) ?_; (with_reducible refine (impl_TakeName.calls k a0 a1 t175 t176 t177 _ A5.out).mono ?_); rintro e w14 ⟨rfl, hb⟩; refine ⟨_, rfl, ?_⟩; have n0_ := Aside0.mk (below_step (by repeat (first | (with_reducible first | exact HB.out | apply below_alloc | apply pw_below_drewN | apply below_drew1) | exact HB.out)) hb); clear HB; have HB := n0_; clear n0_; (try clear hb); (try clear hb2); (try clear hk); (try clear hi)))
        go_ret
        exact ⟨by first | rfl | (simp [errW_none, errW_some] <;> rfl) | (simp [*, errW_none, errW_some] <;> rfl), by repeat (first | (with_reducible first | exact HB.out | apply below_alloc | apply pw_below_drewN | apply below_drew1) | exact HB.out)⟩
    · rw [if_neg c6] at H
      have c6b0 : (t175.toList == t172.toList) = false := beq_eq_false_iff_ne.mpr c6
      have c6b1 : (t175.toList != t172.toList) = true := bne_iff_ne.mpr c6
      obtain rfl := Option.some.inj H
      go_enter Tryd.func3, Tryd.ntmps3
      go_wp2_with (first | ((with_reducible refine gate_callee (f := 11) rfl ?_); refine goesL_ (some 17) rfl rfl Tryd.func11 (by kernel_rfl) rfl #[.string a0, .int .i64 a1] rfl (by (try simp only [List.map_toArray, List.map_cons, List.map_nil]); first | done | rfl | (simp only [List.length_drop, List.length_take]; rfl)) ?_; (with_reducible refine (spec_TakeName.calls k a0 a1 t172 t173 t174 _ A4.out).mono ?_); rintro e w15 ⟨rfl, hb⟩; refine ⟨_, rfl, ?_⟩; have n0_ := Aside0.mk (below_step (by repeat (first | (with_reducible first | exact HB.out | apply below_alloc | apply pw_below_drewN | apply below_drew1) | exact HB.out)) hb); clear HB; have HB := n0_; clear n0_; (try clear hb); (try clear hb2); (try clear hk); (try clear hi)) | ((with_reducible refine gate_callee (f := 12) rfl ?_); refine goesL_ (some 24) rfl rfl Tryd.func12 (by kernel_rfl) rfl #[.string a0, .int .i64 a1] rfl (by (try simp only [List.map_toArray, List.map_cons, List.map_nil]); first | done | rfl | (simp only [List.length_drop, List.length_take]; rfl)) ?_; (with_reducible refine (impl_TakeName.calls k a0 a1 t175 t176 t177 _ A5.out).mono ?_); rintro e w16 ⟨rfl, hb⟩; refine ⟨_, rfl, ?_⟩; have n0_ := Aside0.mk (below_step (by repeat (first | (with_reducible first | exact HB.out | apply below_alloc | apply pw_below_drewN | apply below_drew1) | exact HB.out)) hb); clear HB; have HB := n0_; clear n0_; (try clear hb); (try clear hb2); (try clear hk); (try clear hi)))
      go_ret
      exact ⟨by first | rfl | (simp [errW_none, errW_some] <;> rfl) | (simp [*, errW_none, errW_some] <;> rfl), by repeat (first | (with_reducible first | exact HB.out | apply below_alloc | apply pw_below_drewN | apply below_drew1) | exact HB.out)⟩

/-- THE ONE PURE STATEMENT of laws_FnExactTakeName: yours. -/
def laws_FnExactTakeName.Pure : Prop := ∀ (a0 : ByteArray) (a1 : Int), a0.size ≤ 140737488351232 → (Lit.int .i64 a1).wf = true → ∃ k, laws_FnExactTakeName.f k a0 a1 = some true
theorem laws_FnExactTakeName.walk (P : laws_FnExactTakeName.Pure) (a0 : ByteArray) (a1 : Int) (w : World) (w0 : a0.size ≤ 140737488351232) (w1 : (Lit.int .i64 a1).wf = true) :
    Calls Tryd.prog 3 #[.string a0, .int .i64 a1] w fun e w' => e = .returned (.bool true) ∧ Below w.heap.size w w' := by
  obtain ⟨k, h⟩ := P a0 a1 w0 w1
  refine (laws_FnExactTakeName.calls k a0 a1 true w h).mono ?_
  rintro e w' ⟨rfl, hd⟩
  exact ⟨rfl, hd⟩

end Go.Proofs.YtomcfhbmdoomlaaDoor.P

-- PureFnExactTakeName
/- 'laws.FnExactTakeName' returns true: the reference and the program return the same. Conditions: the text's size. -/
namespace Go.Proofs.YtomcfhbmdoomlaaDoor.Pure
open Go.RowKit Go.Proofs.YtomcfhbmdoomlaaDoor.P Go.Proofs.YtomcfhbmdoomlaaDoorW.PrintWords Go.Proofs.YtomcfhbmdoomlaaDoorW.PrintLast
set_option linter.unusedVariables false
set_option linter.unusedSimpArgs false

def failT : ByteArray × Int × Bool := ((⟨#[]⟩ : ByteArray), 0, false)
theorem takename_both (s : ByteArray) (x : Int) (hs : s.size ≤ 1048576) : ∃ r, Ev (fun k => spec_TakeName.f k s x) r ∧ Ev (fun k => impl_TakeName.f k s x) r := by
  have sf : ∀ k, spec_TakeName.j0 (k + 1) s x true = some failT := fun k => rfl
  have jf : ∀ k, impl_TakeName.j0 (k + 1) s x true = some failT := fun k => rfl
  by_cases h6 : (s.size : Int) > 600
  · refine ⟨failT, Ev.of (fun k => spec_TakeName.mono _ _ _) (k := 1) ?_, Ev.of (fun k => impl_TakeName.mono _ _ _) (k := 1) ?_⟩
    · unfold spec_TakeName.f; rw [if_pos h6, sf]
    · unfold impl_TakeName.f; rw [if_pos h6, jf]
  · have hw : wrap64 ((s.size : Int) - 1) = (s.size : Int) - 1 := by unfold wrap64; omega
    have es : ∀ k, spec_TakeName.f k s x = spec_TakeName.j0 k s x (!decide (0 ≤ x ∧ x ≤ (s.size : Int) - 1)) := fun k => by
      unfold spec_TakeName.f; rw [if_neg h6, hw, within_spec]; rfl
    have ei : ∀ k, impl_TakeName.f k s x = impl_TakeName.j0 k s x (!decide (0 ≤ x ∧ x ≤ (s.size : Int))) := fun k => by
      unfold impl_TakeName.f; rw [if_neg h6, within_eq]; rfl
    by_cases hx : 0 ≤ x ∧ x ≤ (s.size : Int)
    · obtain ⟨a, rfl⟩ : ∃ a : Nat, x = (a : Int) := ⟨x.toNat, by omega⟩
      obtain ⟨r, r', g1, g2, g3, g4⟩ := take_both s (by omega) a (by omega)
      have hi : Ev (fun k => impl_TakeName.f k s (a : Int)) (if r'.2.2.2 = true then (r'.1, r'.2.2.1, true) else failT) := by
        refine Ev.congr (fun k => ei k) (Ev.step (f := fun k => (impl_takeName.f k s (a : Int)).bind fun bt166 => (if bt166.2.2.2 = true then (some (bt166.1, bt166.2.2.1, true)) else (some failT))) (fun k => ?_) (Ev.bind g2 ?_))
        · show impl_TakeName.j0 (k + 1) s (a : Int) _ = _
          rw [decide_eq_true hx]
          rfl
        · by_cases hr : r'.2.2.2 = true
          · simp only [if_pos hr]; exact Ev.now _
          · simp only [if_neg hr]; exact Ev.now _
      refine ⟨_, ?_, hi⟩
      by_cases hx2 : 0 ≤ (a : Int) ∧ (a : Int) ≤ (s.size : Int) - 1
      · refine Ev.congr (fun k => es k) (Ev.step (f := fun k => (spec_l2Take.f k s (a : Int)).bind fun bt131 => (if bt131.2.2.2 = true then (some (bt131.1, bt131.2.1, true)) else (some failT))) (fun k => ?_) (Ev.bind g1 ?_))
        · show spec_TakeName.j0 (k + 1) s (a : Int) _ = _
          rw [decide_eq_true hx2]
          rfl
        · by_cases hr : r.2.2.2 = true
          · have q := g4 hr
            rw [g3] at hr
            simp only [g3, if_pos hr, q.1, q.2.1]; exact Ev.now _
          · rw [g3] at hr
            simp only [g3, if_neg hr]; exact Ev.now _
      · have ha : a = s.size := by omega
        have hf : r'.2.2.2 = false := by
          have h1 := (Ev.of (fun k => impl_takeName.mono _ _ _) (k := 2) (r := failI) (g := fun k => impl_takeName.f k s (a : Int)) (by
            unfold impl_takeName.f
            exact impl_out s (by omega) 0 a [] [] _ _ (.inl (by omega))))
          obtain ⟨K1, q1⟩ := h1
          obtain ⟨K2, q2⟩ := g2
          have := (q1 (max K1 K2) (by omega)).symm.trans (q2 (max K1 K2) (by omega))
          rw [← Option.some.inj this]
          rfl
        rw [hf, if_neg (by simp)]
        refine Ev.of (fun k => spec_TakeName.mono _ _ _) (k := 1) ?_
        show spec_TakeName.f 1 s (a : Int) = _
        rw [es, decide_eq_false hx2]
        exact sf 0
    · refine ⟨failT, Ev.of (fun k => spec_TakeName.mono _ _ _) (k := 1) ?_, Ev.of (fun k => impl_TakeName.mono _ _ _) (k := 1) ?_⟩
      · rw [es, decide_eq_false (by omega)]; exact sf 0
      · rw [ei, decide_eq_false hx]; exact jf 0
end Go.Proofs.YtomcfhbmdoomlaaDoor.Pure

-- PureFnPointers
/- 'laws.FnPointers' returns true at every bytes. Conditions: the bytes are bytes. -/
namespace Go.Proofs.YtomcfhbmdoomlaaDoor.Pure
open Go.RowKit Go.Proofs.YtomcfhbmdoomlaaDoor.P Go.Proofs.YtomcfhbmdoomlaaDoorW.PrintWords Go.Proofs.YtomcfhbmdoomlaaDoorW.PrintLast
set_option linter.unusedVariables false
set_option linter.unusedSimpArgs false
theorem implTake_ok {s : ByteArray} (hs : s.size ≤ 600) {a : Nat} (ha : a ≤ s.size) {ls : List ByteArray} {pl : List Int} {en : Nat} (h : Reads s a a ls pl en) (hl : ls.length ≤ 8) (hn : (nameR ls).2 = true) :
    Ev (fun k => impl_TakeName.f k s (a : Int)) ((nameR ls).1, (en : Int), true) := by
  have g := reads_take s hs h [] [] (-1) (by simpa using hl) (by simp)
  rw [if_pos (by decide), if_pos (by decide), List.nil_append, List.nil_append, hn] at g
  refine Ev.congr (f := fun k => impl_TakeName.j0 k s (a : Int) false) (fun k => ?_) (Ev.step (f := fun k => (impl_takeName.f k s (a : Int)).bind fun bt166 => (if bt166.2.2.2 = true then (some (bt166.1, bt166.2.2.1, true)) else (some ((⟨#[]⟩ : ByteArray), 0, false)))) (fun k => rfl) (Ev.bind (a := ((nameR ls).1, pl, (en : Int), true)) (Ev.congr (fun k => rfl) g) ?_))
  · unfold impl_TakeName.f
    rw [if_neg (by omega), within_eq, Option.bind_some, decide_eq_true (by omega)]
    rfl
  · simp only [if_true]
    exact Ev.now _
theorem implTake_is {s : ByteArray} {x : Int} {r : ByteArray × Int × Bool} (h : Ev (fun k => impl_TakeName.f k s x) r) (hr : r.2.2 = true) : goodL r.1.data.toList = true ∧ r.2.1 > x := by
  have e0 : ∀ k, impl_TakeName.j0 (k + 1) s x true = some ((⟨#[]⟩ : ByteArray), 0, false) := fun k => rfl
  by_cases h6 : (s.size : Int) > 600
  · have h2 : Ev (fun k => impl_TakeName.f k s x) ((⟨#[]⟩ : ByteArray), 0, false) := Ev.of (fun k => impl_TakeName.mono _ _ _) (k := 1) (by unfold impl_TakeName.f; rw [if_pos h6]; exact e0 0)
    rw [Ev.unique h h2] at hr
    cases hr
  · by_cases hx : 0 ≤ x ∧ x ≤ (s.size : Int)
    · obtain ⟨a, rfl⟩ : ∃ a : Nat, x = (a : Int) := ⟨x.toNat, by omega⟩
      obtain ⟨K, h⟩ := h
      have h1 : impl_TakeName.f (K + 1) s (a : Int) = some r := h (K + 1) (by omega)
      have e1 : impl_TakeName.f (K + 1) s (a : Int) = (impl_takeName.f K s (a : Int)).bind fun bt166 => (if bt166.2.2.2 = true then (some (bt166.1, bt166.2.2.1, true)) else (some ((⟨#[]⟩ : ByteArray), 0, false))) := by
        unfold impl_TakeName.f
        rw [if_neg h6, within_eq, Option.bind_some, decide_eq_true hx]
        rfl
      rw [e1] at h1
      obtain ⟨t, ht, h1⟩ := Option.bind_eq_some_iff.mp h1
      by_cases hk : t.2.2.2 = true
      · rw [if_pos hk] at h1
        obtain rfl := Option.some.inj h1
        obtain ⟨ls, pl, en, t1, t2, t3, t4, t5⟩ := taken s (by omega) ht hk
        have hb := t1.bound
        refine ⟨(labels_back t3).1, ?_⟩
        show t.2.2.1 > (a : Int)
        rw [t5]
        omega
      · rw [if_neg hk] at h1
        obtain rfl := Option.some.inj h1
        cases hr
    · have h2 : Ev (fun k => impl_TakeName.f k s x) ((⟨#[]⟩ : ByteArray), 0, false) := Ev.of (fun k => impl_TakeName.mono _ _ _) (k := 1) (by unfold impl_TakeName.f; rw [if_neg h6, within_eq, Option.bind_some, decide_eq_false hx]; exact e0 0)
      rw [Ev.unique h h2] at hr
      cases hr
theorem pt_rd (l : List Int) (i : Nat) (h : i < l.length) : rd l (i : Int) = l[i] := by
  unfold rd
  rw [Int.toNat_natCast, List.getD_eq_getElem?_getD, List.getElem?_eq_getElem h]
  rfl
theorem sameI_ev (l : List Int) (hl : l.length ≤ 100000) : Ev (fun k => laws_sameInts.f k l l) true := by
  have loop : ∀ (m i : Nat), i + m = l.length → Ev (fun k => laws_sameInts.l0 k l l (l.length : Int) (i : Int)) true := by
    intro m
    induction m with
    | zero =>
      intro i him
      refine Ev.step (f := fun _ => some true) (fun k => ?_) (Ev.now _)
      show laws_sameInts.l0 (k + 1) l l (l.length : Int) (i : Int) = _
      unfold laws_sameInts.l0
      rw [if_neg (by omega)]
    | succ m ih =>
      intro i him
      refine Ev.step (fun k => ?_) (ih (i + 1) (by omega))
      show laws_sameInts.l0 (k + 1) l l (l.length : Int) (i : Int) = _
      conv => lhs; unfold laws_sameInts.l0
      rw [if_pos (by omega), if_pos (by omega), if_pos (by omega), if_pos (by omega), if_pos rfl, w64n (by omega)]
  exact Ev.congr (fun k => by unfold laws_sameInts.f; rw [if_pos rfl]; rfl) (loop l.length 0 (by omega))
/-- The law's last part: a drawn place. -/
theorem pointers_end (l1 : List Int) (hl1 : Bytes l1) : Ev (fun k => (spec_DrawTakeName.f k l1).bind fun bt507 => ((impl_TakeName.f k bt507.1 bt507.2).bind fun bt509 => ((spec_TakeName.f k bt507.1 bt507.2).bind fun bt512 => (if (bt509.2.2 == bt512.2.2) = true then (if bt509.1.toList = bt512.1.toList then (if bt509.2.1 = bt512.2.1 then (if bt509.2.2 = true then ((impl_GoodName.f bt509.1).bind fun t515 => (if t515 = true then (some (decide (bt509.2.1 > bt507.2))) else (some false))) else (some true)) else (some false)) else (some false)) else (some false))))) true := by
  obtain ⟨s, m, at2, sd2, e, hs, _, hc⟩ := packed_some hl1 (at_ := 0) (sd := 0) (n := 0) ⟨by omega, by omega⟩ (by omega)
  obtain ⟨i, at3, sd3, e3, hi, _⟩ := pick_some hl1 hc (by omega) (sd := sd2) (wrap64 ((s.size : Int) + 2))
  have hd : Ev (fun k => spec_DrawTakeName.f k l1) (s, wrap64 (i - 1)) := Ev.congr (fun k => rfl) (Ev.bind e (by simp only [e3, Option.bind_some]; exact Ev.now _))
  obtain ⟨r, r1, r2⟩ := takename_both s (wrap64 (i - 1)) (by omega)
  refine Ev.bind hd (Ev.bind r2 (Ev.bind r1 ?_))
  simp only [beq_self_eq_true, if_true]
  by_cases hr : r.2.2 = true
  · obtain ⟨g1, g2⟩ := implTake_is r2 hr
    simp only [if_pos hr, impl_GoodName.f, Option.bind_some, g1, if_true, decide_eq_true g2]
    exact Ev.now _
  · simp only [if_neg hr]
    exact Ev.now _
theorem pointers_places (l1 : List Int) (hl1 : Bytes l1) (b : ByteArray) (pl : List Int) (hb : pl.length ≤ 100000) (hp : ∀ x ∈ pl, b.size ≤ 600 ∧ GoodPlace b x) (hw : pl.Pairwise (· < ·)) : ∀ (m i : Nat), i + m = pl.length →
    Ev (fun k => laws_FnPointers.l0 k l1 b pl pl (pl.length : Int) (i : Int)) true
  | 0, i, him => by
    refine Ev.step (fun k => ?_) (pointers_end l1 hl1)
    show laws_FnPointers.l0 (k + 1) l1 b pl pl (pl.length : Int) (i : Int) = _
    conv => lhs; unfold laws_FnPointers.l0
    rw [if_neg (by omega)]
  | m + 1, i, him => by
    have hi : i < pl.length := by omega
    obtain ⟨h6, h0, h1, ls, pl', en, q1, q2, q3⟩ := hp _ (List.getElem_mem hi)
    have ht := implTake_ok h6 (a := (pl[i]).toNat) (by omega) q1 q2 q3
    rw [show (((pl[i]).toNat : Nat) : Int) = pl[i] by omega] at ht
    refine Ev.step (f := fun k => (impl_TakeName.f k b pl[i]).bind fun bt503 => (if bt503.2.2 = true then laws_FnPointers.l0 k l1 b pl pl (pl.length : Int) ((i + 1 : Nat) : Int) else some false)) (fun k => ?_) (Ev.bind ht ?_)
    · show laws_FnPointers.l0 (k + 1) l1 b pl pl (pl.length : Int) (i : Int) = _
      conv => lhs; unfold laws_FnPointers.l0
      rw [if_pos (by omega), if_pos (by omega), if_pos (by omega), pt_rd pl i hi, w64n (by omega)]
      by_cases h : i = 0
      · subst h
        rw [if_neg (show ¬ ((0 : Nat) : Int) > 0 by omega)]
      · have hw1 : wrap64 ((i : Int) - 1) = ((i - 1 : Nat) : Int) := by unfold wrap64; omega
        have hlt : pl[i - 1] < pl[i] := List.pairwise_iff_getElem.1 hw (i - 1) i (by omega) hi (by omega)
        rw [if_pos (show (i : Int) > 0 by omega), hw1, if_pos (by omega), if_pos (by omega), pt_rd pl (i - 1) (by omega), if_neg (by omega)]
    · simp only [if_true]
      exact pointers_places l1 hl1 b pl hb hp hw m (i + 1) (by omega)
theorem FnPointers : laws_FnPointers.Pure := by
  intro l0 l1 _ _ hw0 _ _ hw1
  suffices h : Ev (fun k => laws_FnPointers.f k l0 l1) true from h.rounds
  by_cases h : (wrap64 ((l0.length : Int) + (l1.length : Int))) > 1048576
  · exact Ev.congr (fun k => by unfold laws_FnPointers.f; rw [if_pos h]) (Ev.now true)
  · have hl0 := bytes_of hw0
    have hl1 := bytes_of hw1
    obtain ⟨b, m, at2, sd2, e, hb, _, hc⟩ := packed_some hl0 (at_ := 0) (sd := 0) (n := 0) ⟨by omega, by omega⟩ (by omega)
    obtain ⟨s, at3, sd3, e3, hs, _⟩ := name_some hl0 hc (by omega) (sd := sd2)
    have hd : Ev (fun k => spec_DrawPutName.f k l0) (b, s) := Ev.congr (fun k => rfl) (Ev.bind e (Ev.bind e3 (Ev.now _)))
    obtain ⟨r, r1, r2, r3⟩ := putname_full b s (by omega) (by omega)
    obtain ⟨q, q1, q2, q3, q4, q5⟩ := suffixes_full b (by omega)
    have hj1 : Ev (fun k => laws_FnPointers.j1 k l1 b) true := by
      refine Ev.step (fun k => rfl) (Ev.bind q2 (Ev.bind q1 ?_))
      simp only [bne_self_eq_false, Bool.false_eq_true, if_false]
      refine Ev.bind (sameI_ev q.1 q3) ?_
      refine Ev.step (f := fun k => laws_FnPointers.l0 k l1 b q.1 q.1 (q.1.length : Int) 0) (fun k => rfl) ?_
      exact pointers_places l1 hl1 b q.1 q3 q4 q5 q.1.length 0 (by omega)
    refine Ev.congr (fun k => by unfold laws_FnPointers.f; rw [if_neg h]) (Ev.bind hd (Ev.bind r2 (Ev.bind r1 ?_)))
    simp only [bne_self_eq_false, Bool.false_eq_true, if_false]
    by_cases hr : r.2 = true
    · obtain ⟨h6, hg, hr6, y, pl, hy1, hy2, hy3⟩ := r3 hr
      have hlab := good_all hg
      have hnb := name_back hg
      have ht := implTake_ok hr6 (a := b.size) (by rw [hy1, ByteArray.size_append]; omega) hy2 (by rw [List.length_map]; exact hlab.1) (by rw [hnb])
      rw [hnb] at ht
      obtain ⟨z, z1, _, z3⟩ := nb_both s hg
      have hn : Ev (fun k => impl_NameBytes.f k s) (z ++ (⟨#[0]⟩ : ByteArray), true) := by
        refine Ev.congr (f := fun k => (impl_labelBytes.f k s).bind fun t471 => (if t471.size + 1 ≤ 9223372036854775807 then (some (t471 ++ (⟨#[0]⟩ : ByteArray), true)) else (none))) (fun k => by unfold impl_NameBytes.f impl_GoodName.f; rw [hg]; rfl) (Ev.bind z1 ?_)
        simp only [if_pos (show z.size + 1 ≤ 9223372036854775807 by rw [z3]; split <;> omega)]
        exact Ev.now _
      have hzs : (z ++ (⟨#[0]⟩ : ByteArray)).size = z.size + 1 := by rw [ByteArray.size_append]; rfl
      have hrs : r.1.size = b.size + y.size := by rw [hy1, ByteArray.size_append]
      have hex : (r.1.extract 0 b.size).toList = b.toList := by
        have : r.1.extract 0 b.size = b := by
          rw [ext_mkB, hy1]
          refine ext_data ?_
          rw [mkB_data, List.drop_zero, Nat.sub_zero, show (b ++ y).data.toList = b.data.toList ++ y.data.toList by simp, List.take_append_of_le_length (by rw [← size_len]; omega), size_len, List.take_length]
        rw [this]
      have hwr : wrap64 ((r.1.size : Int) - (b.size : Int)) = (y.size : Int) := by rw [hrs]; unfold wrap64; omega
      have hys : ¬ ((y.size : Int) > ((z ++ (⟨#[0]⟩ : ByteArray)).size : Int)) := by
        rw [hzs, z3]
        split at hy3 <;> split <;> omega
      refine Ev.step (f := fun k => (impl_TakeName.f k r.1 (b.size : Int)).bind fun bt488 => ((impl_NameBytes.f k s).bind fun bt491 => (if bt488.2.2 = true then (if bt488.1.toList = s.toList then (if bt488.2.1 = (r.1.size : Int) then (if 0 ≤ (b.size : Int) then (if (b.size : Int) ≤ (r.1.size : Int) then (if (r.1.extract 0 ((b.size : Int) : Int).toNat).toList = b.toList then (if bt491.2 = true then (if (wrap64 ((r.1.size : Int) - (b.size : Int))) > (bt491.1.size : Int) then (some false) else (laws_FnPointers.j1 k l1 b)) else (some false)) else (some false)) else (none)) else (none)) else (some false)) else (some false)) else (some false)))) (fun k => ?_) (Ev.bind ht (Ev.bind hn ?_))
      · show (if (false = true) then some false else (if r.2 = true then _ else laws_FnPointers.j1 k _ _)) = _
        rw [if_neg (by simp), if_pos hr]
      · simp only [if_true, Int.toNat_natCast, hex, hwr, if_neg hys, if_pos (show (0 : Int) ≤ (b.size : Int) by omega), if_pos (show (b.size : Int) ≤ (r.1.size : Int) by omega)]
        exact hj1
    · refine Ev.step (f := fun k => laws_FnPointers.j1 k l1 b) (fun k => ?_) hj1
      show (if (false = true) then some false else (if r.2 = true then _ else laws_FnPointers.j1 k _ _)) = _
      rw [if_neg (by simp), if_neg hr]
end Go.Proofs.YtomcfhbmdoomlaaDoor.Pure

-- WSized
-- PRINTED BY print.sh 35421559b90ae4d0a3588c463048766b98c2df88dd9212a6774a882060cdf62d: not written by this session
-- PRINTED WORDS (module Derived/Print/Sized.lean): go-gate-2's, for the rows of laws over slices: an AI agent of Go's test side, Tue Nov 17 2026; no person has read it. Lean checks it.
namespace Go.Proofs.YtomcfhbmdoomlaaDoorW.PrintWords
open Go.ChangeShapes Go.WideShapes
/-- A row's slice of whole numbers is no longer than its weight allows. -/
theorem sized_ints {H : Type} {enc : TypeId × Value → H} {P : Program} {W : World} {base : Nat} {spare : Nat → Bool} {held : Bool} {t e : TypeId} {k : IntKind} {a : Option Addr} {len cap : Nat} {d : DataW H} {ps : List MemPlace} {ts : List TypeId} {ds : List (DataW H)} {j : Nat}
    (hsz : (DataW.weightsEach P ts ds).all (· ≤ reachBytes) = true) (ht : ts[j]? = some t) (hd : ds[j]? = some d) (hu : P.underlying t = some (.slice e)) (he : P.underlying e = some (.int k)) (hc : P.cellsOf e = 1) {B : Nat} (hB : P.bytesOf e = B)
    (h : DataW.Trod enc P W base spare held t (.slice a len cap) d ps) : len * B ≤ 140737488351232 := by
  obtain ⟨fuel, hf⟩ := h
  rcases open_ints hu he hc hf with ⟨hcs, _⟩ | ⟨x, l, c, zs, hcs, _, hl, _, hz, hx, _, _⟩
  · simp [Value.cells] at hcs
    obtain ⟨rfl, rfl, rfl⟩ := hcs
    simp
  · simp [Value.cells] at hcs
    obtain ⟨rfl, rfl, rfl⟩ := hcs
    obtain ⟨hx, _⟩ := Prod.mk.inj hx
    subst hx
    have z := sized_slice hsz ht hd hu
    rw [hB] at z
    have hl2 : len ≤ zs.length := by
      rw [hz]
      split
      · exact hl
      · exact Nat.le_refl _
    have h1 : (lits (H := H) k (zs.take len)).length + (lits (H := H) k (zs.drop len)).length = zs.length := by
      simp [lits]
      omega
    rw [h1] at z
    exact Nat.le_trans (Nat.mul_le_mul_right _ hl2) z
end Go.Proofs.YtomcfhbmdoomlaaDoorW.PrintWords

-- LawFnPointers
-- By my own call of the kit's print (wip/tools/pp.py), turned to a card by wip/tools/doorrow.py.
namespace Go.Proofs.YtomcfhbmdoomlaaDoor.fnPointers
open Go.ChangeShapes Go.WideShapes Go.ChangeAt Go.RowKit
open Go.ChangeMaps (open_string shut_string)
set_option linter.unusedVariables false
theorem own : ownKnob Tryd.prog.godebug = none := by kernel_rfl
theorem laidOut : laidOutB Tryd.prog = true := by kernel_rfl
def IsRow (k : IntKind) (w : World) (a : Option Addr) (len cap : Nat) (zs : List Int) : Prop :=
  (a = none ∧ len = 0 ∧ cap = 0 ∧ zs = []) ∨
  ∃ x, a = some x ∧ len ≤ cap ∧ cap ≤ maxLen ∧ zs.length = cap ∧ (∀ i, i < zs.length → w.cell? (x.add i) = some (.int k (zs.getD i 0))) ∧ ∀ n ∈ zs, (Lit.int k n).wf = true
/-- A world for the witness: the settled one, the listed tables holding what the row lists. -/
noncomputable def laidWorld (os : Os) : World :=
  { World.holding Tryd.prog os ⟨#[], #[], []⟩ with heap := (((World.holding Tryd.prog os ⟨#[], #[], []⟩).heap.modify 2 fun
      | .cells _ t frozen => .cells #[.int .u8 128, .int .u8 191, .int .u8 160, .int .u8 191, .int .u8 128, .int .u8 159, .int .u8 144, .int .u8 191, .int .u8 128, .int .u8 143, .int .u8 0, .int .u8 0, .int .u8 0, .int .u8 0, .int .u8 0, .int .u8 0, .int .u8 0, .int .u8 0, .int .u8 0, .int .u8 0, .int .u8 0, .int .u8 0, .int .u8 0, .int .u8 0, .int .u8 0, .int .u8 0, .int .u8 0, .int .u8 0, .int .u8 0, .int .u8 0, .int .u8 0, .int .u8 0] t frozen
      | o => o).modify 1 fun
      | .cells _ t frozen => .cells #[.int .u8 240, .int .u8 240, .int .u8 240, .int .u8 240, .int .u8 240, .int .u8 240, .int .u8 240, .int .u8 240, .int .u8 240, .int .u8 240, .int .u8 240, .int .u8 240, .int .u8 240, .int .u8 240, .int .u8 240, .int .u8 240, .int .u8 240, .int .u8 240, .int .u8 240, .int .u8 240, .int .u8 240, .int .u8 240, .int .u8 240, .int .u8 240, .int .u8 240, .int .u8 240, .int .u8 240, .int .u8 240, .int .u8 240, .int .u8 240, .int .u8 240, .int .u8 240, .int .u8 240, .int .u8 240, .int .u8 240, .int .u8 240, .int .u8 240, .int .u8 240, .int .u8 240, .int .u8 240, .int .u8 240, .int .u8 240, .int .u8 240, .int .u8 240, .int .u8 240, .int .u8 240, .int .u8 240, .int .u8 240, .int .u8 240, .int .u8 240, .int .u8 240, .int .u8 240, .int .u8 240, .int .u8 240, .int .u8 240, .int .u8 240, .int .u8 240, .int .u8 240, .int .u8 240, .int .u8 240, .int .u8 240, .int .u8 240, .int .u8 240, .int .u8 240, .int .u8 240, .int .u8 240, .int .u8 240, .int .u8 240, .int .u8 240, .int .u8 240, .int .u8 240, .int .u8 240, .int .u8 240, .int .u8 240, .int .u8 240, .int .u8 240, .int .u8 240, .int .u8 240, .int .u8 240, .int .u8 240, .int .u8 240, .int .u8 240, .int .u8 240, .int .u8 240, .int .u8 240, .int .u8 240, .int .u8 240, .int .u8 240, .int .u8 240, .int .u8 240, .int .u8 240, .int .u8 240, .int .u8 240, .int .u8 240, .int .u8 240, .int .u8 240, .int .u8 240, .int .u8 240, .int .u8 240, .int .u8 240, .int .u8 240, .int .u8 240, .int .u8 240, .int .u8 240, .int .u8 240, .int .u8 240, .int .u8 240, .int .u8 240, .int .u8 240, .int .u8 240, .int .u8 240, .int .u8 240, .int .u8 240, .int .u8 240, .int .u8 240, .int .u8 240, .int .u8 240, .int .u8 240, .int .u8 240, .int .u8 240, .int .u8 240, .int .u8 240, .int .u8 240, .int .u8 240, .int .u8 240, .int .u8 240, .int .u8 240, .int .u8 240, .int .u8 241, .int .u8 241, .int .u8 241, .int .u8 241, .int .u8 241, .int .u8 241, .int .u8 241, .int .u8 241, .int .u8 241, .int .u8 241, .int .u8 241, .int .u8 241, .int .u8 241, .int .u8 241, .int .u8 241, .int .u8 241, .int .u8 241, .int .u8 241, .int .u8 241, .int .u8 241, .int .u8 241, .int .u8 241, .int .u8 241, .int .u8 241, .int .u8 241, .int .u8 241, .int .u8 241, .int .u8 241, .int .u8 241, .int .u8 241, .int .u8 241, .int .u8 241, .int .u8 241, .int .u8 241, .int .u8 241, .int .u8 241, .int .u8 241, .int .u8 241, .int .u8 241, .int .u8 241, .int .u8 241, .int .u8 241, .int .u8 241, .int .u8 241, .int .u8 241, .int .u8 241, .int .u8 241, .int .u8 241, .int .u8 241, .int .u8 241, .int .u8 241, .int .u8 241, .int .u8 241, .int .u8 241, .int .u8 241, .int .u8 241, .int .u8 241, .int .u8 241, .int .u8 241, .int .u8 241, .int .u8 241, .int .u8 241, .int .u8 241, .int .u8 241, .int .u8 241, .int .u8 241, .int .u8 2, .int .u8 2, .int .u8 2, .int .u8 2, .int .u8 2, .int .u8 2, .int .u8 2, .int .u8 2, .int .u8 2, .int .u8 2, .int .u8 2, .int .u8 2, .int .u8 2, .int .u8 2, .int .u8 2, .int .u8 2, .int .u8 2, .int .u8 2, .int .u8 2, .int .u8 2, .int .u8 2, .int .u8 2, .int .u8 2, .int .u8 2, .int .u8 2, .int .u8 2, .int .u8 2, .int .u8 2, .int .u8 2, .int .u8 2, .int .u8 19, .int .u8 3, .int .u8 3, .int .u8 3, .int .u8 3, .int .u8 3, .int .u8 3, .int .u8 3, .int .u8 3, .int .u8 3, .int .u8 3, .int .u8 3, .int .u8 3, .int .u8 35, .int .u8 3, .int .u8 3, .int .u8 52, .int .u8 4, .int .u8 4, .int .u8 4, .int .u8 68, .int .u8 241, .int .u8 241, .int .u8 241, .int .u8 241, .int .u8 241, .int .u8 241, .int .u8 241, .int .u8 241, .int .u8 241, .int .u8 241, .int .u8 241] t frozen
      | o => o) }
set_option maxRecDepth 100000 in
theorem laid_met (os : Os) : laidMet Tryd.prog Rows.fnPointersRow.laid ((laidWorld os).forCall (fun _ _ => 0) ⟨#[], #[.slice none 0 0, .slice none 0 0], []⟩).memory :=
  laidMet_of_run' 8 (by kernel_rfl) (by kernel_rfl)
set_option maxRecDepth 100000 in
theorem contract (H : Type) (enc : TypeId × Value → H) (W : World) (base : Nat) (args : Array Value) (ds gs : List (DataW H)) (before : List MemPlace)
    (hval0 : ∀ (j : Nat) t v, Tryd.f9.params[j]? = some t → args[j]? = some v → Value.okWide Tryd.prog W .any base t v)
    (hW : DataW.Whole enc Tryd.prog Tryd.f9.params.toList Rows.fnPointersSpec.vars false W args.toList ds gs before)
    (hsz0 : (DataW.weightsEach Tryd.prog (Tryd.f9.params.toList ++ Rows.fnPointersSpec.plain.varTypes Tryd.prog) (ds ++ gs)).all (· ≤ reachBytes) = true) :
    Calls Tryd.prog 9 args W fun e W' => ∃ v, e = .returned v ∧ Rows.fnPointersSpec.post enc Tryd.prog Tryd.f9 false true false false W args v W' := by
  have hsz : (DataW.weightsEach Tryd.prog (Tryd.f9.params.toList ++ Rows.fnPointersSpec.plain.varTypes Tryd.prog) (ds ++ gs)).all (· ≤ reachBytes) = true := hsz0
  have hval : ∀ (j : Nat) t v, Tryd.f9.params[j]? = some t → args[j]? = some v → Value.okWide Tryd.prog W .any base t v := hval0
  have hW' := hW
  obtain ⟨p, q, hA0, hV, rfl, hfz, hnd⟩ := hW
  have hA : DataW.TrodAll enc Tryd.prog W 0 (fun _ => true) true Tryd.f9.params.toList args.toList ds p := hA0
  rw [Tryd.params9] at hA hval hsz
  obtain ⟨v0, vs0, d0, ds0, p0, q0, hargs, rfl, rfl, h0, r0⟩ := trodAll_cons hA
  obtain ⟨v1, vs1, d1, ds1, p1, q1, rfl, rfl, rfl, h1, r1⟩ := trodAll_cons r0
  obtain ⟨rfl, rfl, rfl⟩ := trodAll_nil r1
  obtain rfl : args = #[v0, v1] := by cases args; simp_all
  obtain ⟨rfl, rfl⟩ := trodVars_none hV
  obtain ⟨a0, len0, cap0, rfl⟩ := okWide_slice Tryd.underlying44 (hval 0 44 v0 rfl rfl)
  have k0 := h0
  have lt0 : ∀ x ∈ p0, x.block < W.heap.size := by obtain ⟨m, hm⟩ := k0; exact DataW.trod_lt m _ _ _ hm
  obtain ⟨z0, w0⟩ : ∃ zs, IsRow .u8 W a0 len0 cap0 zs := by
    obtain ⟨fuel, hf⟩ := h0
    rcases open_ints Tryd.underlying44 Tryd.underlying5 (by kernel_rfl) hf with ⟨hcs, _⟩ | ⟨x, l, c, zs, hcs, _, hl, hm, hz, _, hcell, hwz⟩
    · simp [Value.cells] at hcs
      obtain ⟨rfl, rfl, rfl⟩ := hcs
      exact ⟨[], .inl ⟨rfl, rfl, rfl, rfl⟩⟩
    · simp [Value.cells] at hcs
      obtain ⟨rfl, rfl, rfl⟩ := hcs
      exact ⟨zs, .inr ⟨_, rfl, hl, hm, by simpa using hz, hcell, hwz⟩⟩
  have y0 : len0 * 1 ≤ 140737488351232 := Go.Proofs.YtomcfhbmdoomlaaDoorW.PrintWords.sized_ints hsz (j := 0) (t := 44) rfl rfl Tryd.underlying44 Tryd.underlying5 (by kernel_rfl) (by kernel_rfl) h0
  obtain ⟨a1, len1, cap1, rfl⟩ := okWide_slice Tryd.underlying44 (hval 1 44 v1 rfl rfl)
  have k1 := h1
  have lt1 : ∀ x ∈ p1, x.block < W.heap.size := by obtain ⟨m, hm⟩ := k1; exact DataW.trod_lt m _ _ _ hm
  obtain ⟨z1, w1⟩ : ∃ zs, IsRow .u8 W a1 len1 cap1 zs := by
    obtain ⟨fuel, hf⟩ := h1
    rcases open_ints Tryd.underlying44 Tryd.underlying5 (by kernel_rfl) hf with ⟨hcs, _⟩ | ⟨x, l, c, zs, hcs, _, hl, hm, hz, _, hcell, hwz⟩
    · simp [Value.cells] at hcs
      obtain ⟨rfl, rfl, rfl⟩ := hcs
      exact ⟨[], .inl ⟨rfl, rfl, rfl, rfl⟩⟩
    · simp [Value.cells] at hcs
      obtain ⟨rfl, rfl, rfl⟩ := hcs
      exact ⟨zs, .inr ⟨_, rfl, hl, hm, by simpa using hz, hcell, hwz⟩⟩
  have y1 : len1 * 1 ≤ 140737488351232 := Go.Proofs.YtomcfhbmdoomlaaDoorW.PrintWords.sized_ints hsz (j := 1) (t := 44) rfl rfl Tryd.underlying44 Tryd.underlying5 (by kernel_rfl) (by kernel_rfl) h1
  clear hA0 hval0 hsz0 hsz
  refine (P.laws_FnPointers.walk Pure.FnPointers a0 len0 cap0 z0 a1 len1 cap1 z1 W w0 y0 w1 y1).mono fun e W' ⟨he, bel⟩ => ?_
  subst he
  exact ⟨_, rfl, _, _, _, [], _, [], hW', trodAll_mk1 (shut_bool Tryd.underlying4 _), (trodAll_cons_mk (Below.trod laidOut (by kernel_rfl) (of_decide_eq_true (by kernel_rfl)) k0 bel lt0) (trodAll_cons_mk (Below.trod laidOut (by kernel_rfl) (of_decide_eq_true (by kernel_rfl)) k1 bel lt1) trodAll_mk0)), rfl, bel.frame _, fun h => by cases h⟩

set_option maxRecDepth 100000 in
theorem reads (os : Os) {H : Type} (enc : TypeId × Value → H) : ∃ places, DataW.whole enc Tryd.prog ((laidWorld os).forCall (fun _ _ => 0) ⟨#[], #[.slice none 0 0, .slice none 0 0], []⟩).memory Tryd.f9.params.toList Rows.fnPointersSpec.vars false (#[.slice none 0 0, .slice none 0 0] : Array Value).toList 8 = some ([.nil, .nil], [], places) :=
  ⟨[], by kernel_rfl⟩
set_option maxRecDepth 100000 in
theorem lifted (os : Os) (started : os.Started) (H : Type) (enc : TypeId × Value → H) (F : Stop.Interp) :
    ReturnsInHanded {} Tryd.checked os 9 .any ((OpenSpec.ofChange Rows.fnPointersSpec).preRow enc Tryd.prog Tryd.f9 Rows.fnPointersRow.domain false Rows.fnPointersRow.laid) (((OpenSpec.ofChange Rows.fnPointersSpec).at F).post enc Tryd.prog Tryd.f9 false true false false) := by
  obtain ⟨places, hx⟩ := reads os enc
  refine returnsInHanded_of_row (C := Tryd.checked) (s := OpenSpec.ofChange Rows.fnPointersSpec) own started (by kernel_rfl) Tryd.func9
    (witness_row_at (enc := enc) (C := Tryd.checked) false (laidWorld os) #[.slice none 0 0, .slice none 0 0] rfl (by kernel_rfl) (by kernel_rfl) (by kernel_rfl)
      (OpenSpec.preRow_of_cond 8 hx (by kernel_rfl) (fun k hk => by cases hk) (by kernel_rfl) (laid_met os))) ?_
  intro W base args ds gs before hval hW _ _ hsz hL _ _
  exact contract H enc W base args ds gs before hval hW hsz
theorem said : Rows.FnPointersSaid :=
  OpenClaim.holds_of_cond 9 Tryd.f9 rfl rfl rfl rfl rfl rfl rfl ⟨rfl, rfl, rfl, rfl, rfl⟩ rfl rfl rfl rfl rfl (by kernel_rfl) Tryd.func9 (by kernel_rfl)
    (of_decide_eq_true (by kernel_rfl)) (by unfold Func.isWrapper; first | (rw [if_pos (by decide +kernel)]; kernel_rfl) | (rw [if_neg (by decide +kernel)]; exact ⟨rfl, rfl⟩))
    (fun os started H enc _ F => by rw [OpenClaim.pre_eq_preRow]; exact lifted os started H enc F)
theorem wants : Tryd.f9.params.toList.all (fun t => Tryd.prog.wantsStandIn t == false) = true := by kernel_rfl
theorem plain (f : FuncId) (fn : Func) (hf : Tryd.pinned.checked.prog.funcNamed "loop.example/g00300/laws.FnPointers" = some f) (hfn : Tryd.pinned.checked.prog.funcs[f]? = some fn) :
    false = Tryd.pinned.checked.prog.looks [] ∧ ∀ (j : Nat) t, fn.params[j]? = some t → Tryd.pinned.checked.prog.wantsStandIn t = false := by
  obtain rfl : f = 9 := Option.some.inj ((show Tryd.prog.funcNamed "loop.example/g00300/laws.FnPointers" = some 9 by kernel_rfl).symm.trans hf) |>.symm
  obtain rfl : fn = Tryd.f9 := (Option.some.inj (Tryd.func9.symm.trans hfn)).symm
  refine ⟨by kernel_rfl, fun j t ht => ?_⟩
  exact eq_of_beq (List.all_eq_true.1 wants t (Array.mem_toList_iff.2 (Array.mem_of_getElem? ht)))
theorem proved : Rows.FnPointersCardSaid :=
  Claim7.holds_tied_plain_at .later [] _ _ _ _ said (fun _ h => by cases h) (by kernel_rfl) (fun _ h => by cases h) fnPointers_row_tie rfl ⟨rfl, rfl⟩ (by kernel_rfl) rfl plain (by kernel_rfl)
#print axioms proved
end Go.Proofs.YtomcfhbmdoomlaaDoor.fnPointers
namespace Go.Proofs.YtomcfhbmdoomlaaDoor
/-- The card, under a short name, for the claim. -/
theorem fnPointers_holds : Rows.FnPointersCardSaid := fnPointers.proved
end Go.Proofs.YtomcfhbmdoomlaaDoor
