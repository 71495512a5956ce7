/- FnPointers: part 24 of 27 of my texts for this claim, joined; the theorem stands in the last. Conditions: none beyond the statement's. -/
import Derived.Test.YtomcfhbmdoomlaaDoorMFnPointersx2
import Derived.Test.YtomcfhbmdoomlaaDoorMFnPointersx22
import Derived.Test.YtomcfhbmdoomlaaDoorMFnPointersx12
-- F28
-- By my own call of the kit's print (wip/tools/pp.py).
namespace Go.Proofs.YtomcfhbmdoomlaaDoor.P
open Go.RowKit Go.Proofs.YtomcfhbmdoomlaaDoorW.PrintWords Go.Proofs.YtomcfhbmdoomlaaDoorW.PrintLast Go.Proofs.YtomcfhbmdoomlaaDoorW.PrintMore
attribute [local go_sem] max2_int min2_int max_two min_two max_three min_three max_four min_four
set_option linter.unusedVariables false
set_option linter.unusedSimpArgs false

/-! ### impl_PackNames: function 28 -/
def impl_PackNames.f (k : Nat) (l0 : List ByteArray) : Option (ByteArray × Bool) := if (l0.length : Int) > 20 then (some ((⟨#[]⟩ : ByteArray), false)) else ((impl_areNames.f l0).bind fun t307 => (if t307 = true then ((impl_packed.f k l0).bind fun bt308 => (some (bt308.1, bt308.2))) else (some ((⟨#[]⟩ : ByteArray), false))))
theorem impl_PackNames.mono : ∀ a0 k, LeO (impl_PackNames.f k a0) (impl_PackNames.f (k + 1) a0) := by
  intro a0 k
  unfold impl_PackNames.f
  repeat' first
      | (with_reducible exact impl_packed.mono _ _)
      | (with_reducible exact LeO.refl _)
      | (with_reducible exact LeO.none _)
      | (with_reducible refine LeO.ite ?_ ?_)
      | (with_reducible refine LeO.bind ?_ (fun _ => ?_))
      | exact impl_packed.mono _ _
      | exact LeO.none _
      | refine LeO.ite ?_ ?_
      | refine LeO.bind ?_ (fun _ => ?_)
set_option maxHeartbeats 8000000 in
set_option maxRecDepth 100000 in
theorem impl_PackNames.calls (k : Nat) (A0 : Option Addr) (c0 : Nat) (l0 : List ByteArray) (r1 : ByteArray) (r2 : Bool) (w : World) (hr0 : Kd.C Kd.string w A0 l0.length l0) (hc0 : l0.length ≤ c0) (h : impl_PackNames.f k l0 = some (r1, r2)) :
    Calls Tryd.prog 28 #[.slice A0 l0.length c0] w fun e w' => e = .returned (.tuple #[.string r1, .bool r2]) ∧ Below w.heap.size w w' := by
  have HR0 := Aside0.mk hr0
  have HC0 := Aside0.mk hc0
  clear hr0 hc0
  have HB := Aside0.mk (Below.refl w.heap.size w)
  have H : (if (l0.length : Int) > 20 then (some ((⟨#[]⟩ : ByteArray), false)) else ((impl_areNames.f l0).bind fun t307 => (if t307 = true then ((impl_packed.f k l0).bind fun bt308 => (some (bt308.1, bt308.2))) else (some ((⟨#[]⟩ : ByteArray), false))))) = some (r1, r2) := h
  clear h
  by_cases c2 : (l0.length : Int) > 20
  · rw [if_pos c2] at H
    have c2b0 : decide (20 < (l0.length : Int)) = true := decide_eq_true c2
    have c2b1 : decide (20 < l0.length) = true := decide_eq_true (by omega)
    clear c2
    simp only [Option.some.injEq, Prod.mk.injEq] at H
    obtain ⟨rfl, rfl⟩ := H
    go_enter Tryd.func28, Tryd.ntmps28
    go_wp2
    go_ret2
    exact ⟨by first | rfl | (simp [errW_none, errW_some] <;> rfl) | (simp [*, errW_none, errW_some] <;> rfl), by repeat (first | (with_reducible first | exact HB.out | apply below_alloc | apply pw_below_drewN | apply below_drew1) | exact HB.out)⟩
  · rw [if_neg c2] at H
    have c2b0 : decide (20 < (l0.length : Int)) = false := decide_eq_false c2
    have c2b1 : decide (20 < l0.length) = false := decide_eq_false (by omega)
    clear c2
    replace H := Option.bind_eq_some_iff.mp H
    obtain ⟨t307, A30, H⟩ := H
    replace H : (if t307 = true then ((impl_packed.f k l0).bind fun bt308 => (some (bt308.1, bt308.2))) else (some ((⟨#[]⟩ : ByteArray), false))) = some (r1, r2) := H
    have A3 := Aside0.mk A30
    clear A30
    by_cases c4 : t307 = true
    · subst c4
      have H1 : ((impl_packed.f k l0).bind fun bt308 => (some (bt308.1, bt308.2))) = some (r1, r2) := by rw [if_pos rfl] at H; exact H
      clear H
      have H := H1
      clear H1
      replace H := Option.bind_eq_some_iff.mp H
      obtain ⟨⟨t308, t309⟩, A50, H⟩ := H
      replace H : (some (t308, t309)) = some (r1, r2) := H
      have A5 := Aside0.mk A50
      clear A50
      simp only [Option.some.injEq, Prod.mk.injEq] at H
      obtain ⟨rfl, rfl⟩ := H
      go_enter Tryd.func28, Tryd.ntmps28
      go_wp2_with (first | (go_at_call 50; (with_reducible refine (impl_areNames.calls _ _ l0 true _ ?side1 ?side2 A3.out).mono ?_); (case side1 => repeat (first | exact HR0.out | (with_reducible refine Kd.C_alloc ?_ _) | (with_reducible refine Kd.C_drewN ?_ _) | (with_reducible refine Kd.C_drew ?_))); (case side2 => exact HC0.out); rintro e w6 ⟨rfl, hb⟩; have n0_ := Aside0.mk (below_step (by repeat (first | (with_reducible first | exact HB.out | apply below_alloc | apply pw_below_drewN | apply below_drew1) | exact HB.out)) hb); clear HB; have HB := n0_; clear n0_; (try clear hb); (try clear hb2); (try clear hk); (try clear hi)) | ((with_reducible refine gate_callee (f := 51) rfl ?_); refine goesL_ (some 13) rfl rfl Tryd.func51 (by kernel_rfl) rfl #[.slice A0 l0.length c0] rfl (by (try simp only [List.map_toArray, List.map_cons, List.map_nil]); first | done | rfl | (simp only [List.length_drop, List.length_take]; rfl)) ?_; (with_reducible refine (impl_packed.calls k _ _ l0 t308 t309 _ ?side1 ?side2 A5.out).mono ?_); (case side1 => repeat (first | exact (Kd.C_below HR0.out HB.out) | (with_reducible refine Kd.C_alloc ?_ _) | (with_reducible refine Kd.C_drewN ?_ _) | (with_reducible refine Kd.C_drew ?_))); (case side2 => exact HC0.out); rintro e w7 ⟨rfl, hb⟩; refine ⟨_, rfl, ?_⟩; have n0_ := Aside0.mk (below_step (by repeat (first | (with_reducible first | exact HB.out | apply below_alloc | apply pw_below_drewN | apply below_drew1) | exact HB.out)) hb); clear HB; have HB := n0_; clear n0_; (try clear hb); (try clear hb2); (try clear hk); (try clear hi)))
      go_ret2
      exact ⟨by first | rfl | (simp [errW_none, errW_some] <;> rfl) | (simp [*, errW_none, errW_some] <;> rfl), by repeat (first | (with_reducible first | exact HB.out | apply below_alloc | apply pw_below_drewN | apply below_drew1) | exact HB.out)⟩
    · replace c4 := Bool.eq_false_iff.mpr c4
      subst c4
      have H1 : (some ((⟨#[]⟩ : ByteArray), false)) = some (r1, r2) := by rw [if_neg (show ¬ (false = true) by decide)] at H; exact H
      clear H
      have H := H1
      clear H1
      simp only [Option.some.injEq, Prod.mk.injEq] at H
      obtain ⟨rfl, rfl⟩ := H
      go_enter Tryd.func28, Tryd.ntmps28
      go_wp2_with (first | (go_at_call 50; (with_reducible refine (impl_areNames.calls _ _ l0 false _ ?side1 ?side2 A3.out).mono ?_); (case side1 => repeat (first | exact HR0.out | (with_reducible refine Kd.C_alloc ?_ _) | (with_reducible refine Kd.C_drewN ?_ _) | (with_reducible refine Kd.C_drew ?_))); (case side2 => exact HC0.out); rintro e w8 ⟨rfl, hb⟩; have n0_ := Aside0.mk (below_step (by repeat (first | (with_reducible first | exact HB.out | apply below_alloc | apply pw_below_drewN | apply below_drew1) | exact HB.out)) hb); clear HB; have HB := n0_; clear n0_; (try clear hb); (try clear hb2); (try clear hk); (try clear hi)))
      go_ret2
      exact ⟨by first | rfl | (simp [errW_none, errW_some] <;> rfl) | (simp [*, errW_none, errW_some] <;> rfl), by repeat (first | (with_reducible first | exact HB.out | apply below_alloc | apply pw_below_drewN | apply below_drew1) | exact HB.out)⟩

end Go.Proofs.YtomcfhbmdoomlaaDoor.P

-- PurePack
/- Packing names: the reference and the program return the same. Conditions: the texts' sizes. -/
namespace Go.Proofs.YtomcfhbmdoomlaaDoor.Pure
open Go.RowKit Go.Proofs.YtomcfhbmdoomlaaDoor.P Go.Proofs.YtomcfhbmdoomlaaDoorW.PrintWords Go.Proofs.YtomcfhbmdoomlaaDoorW.PrintLast
set_option linter.unusedVariables false
set_option linter.unusedSimpArgs false
theorem pk_rd (l : List ByteArray) (i : Nat) (h : i < l.length) : rdOf ByteArray.empty l (i : Int) = l[i] := by
  unfold rdOf
  rw [Int.toNat_natCast, List.getD_eq_getElem?_getD, List.getElem?_eq_getElem h]
  rfl
theorem specPut_good {b x r : ByteArray} (hb : b.size ≤ 600) (hg : goodL x.data.toList = true) (e1 : Ev (fun k => spec_l2Put.f k b x) r) : Ev (fun k => spec_PutName.f k b x) (if (r.size : Int) > 600 then failP else (r, true)) := by
  have hsz := good_size hg
  rw [← size_len] at hsz
  refine Ev.congr (f := fun k => (spec_GoodName.f k x).bind fun t304 => spec_PutName.j0 k b x (!t304)) (fun k => by unfold spec_PutName.f; rw [if_neg (by omega)]) (Ev.bind (specGood_ev x (by omega)) ?_)
  rw [hg]
  refine Ev.step (f := fun k => (spec_l2Put.f k b x).bind fun t305 => (if (t305.size : Int) > 600 then (some failP) else (some (t305, true)))) (fun k => rfl) (Ev.bind e1 ?_)
  by_cases h : (r.size : Int) > 600
  · simp only [if_pos h]; exact Ev.now _
  · simp only [if_neg h]; exact Ev.now _
theorem specPut_bad {b x : ByteArray} (hb : b.size ≤ 600) (hx : x.size ≤ 1048576) (hg : goodL x.data.toList = false) : Ev (fun k => spec_PutName.f k b x) failP := by
  refine Ev.congr (f := fun k => (spec_GoodName.f k x).bind fun t304 => spec_PutName.j0 k b x (!t304)) (fun k => by unfold spec_PutName.f; rw [if_neg (by omega)]) (Ev.bind (specGood_ev x (by omega)) ?_)
  rw [hg]
  exact Ev.step (f := fun _ => some failP) (fun k => rfl) (Ev.now _)
theorem pack_loops (l : List ByteArray) (hl : l.length ≤ 20) (hs : ∀ x ∈ l, x.size ≤ 1048576) : ∀ (m i : Nat) (b : ByteArray), i + m = l.length → b.size ≤ 600 →
    ∃ r, Ev (fun k => spec_PackNames.l0 k b l (l.length : Int) (i : Int)) r ∧ ((∀ x ∈ l.drop i, goodL x.data.toList = true) → Ev (fun k => impl_packed.l0 k b l (l.length : Int) (i : Int)) r) ∧ ((∃ x ∈ l.drop i, goodL x.data.toList = false) → r = failP) ∧ r.1.size ≤ 600
  | 0, i, b, him, hb => by
    refine ⟨(b, true), Ev.step (f := fun _ => some (b, true)) (fun k => ?_) (Ev.now _), fun _ => Ev.step (f := fun _ => some (b, true)) (fun k => ?_) (Ev.now _), ?_, hb⟩
    · show spec_PackNames.l0 (k + 1) b l (l.length : Int) (i : Int) = _
      unfold spec_PackNames.l0
      rw [if_neg (by omega)]
    · show impl_packed.l0 (k + 1) b l (l.length : Int) (i : Int) = _
      unfold impl_packed.l0
      rw [if_neg (by omega)]
    · rintro ⟨x, hx, _⟩
      rw [List.drop_of_length_le (by omega)] at hx
      cases hx
  | m + 1, i, b, him, hb => by
    have hi : i < l.length := by omega
    have es : ∀ k, spec_PackNames.l0 (k + 1) b l (l.length : Int) (i : Int) = (spec_PutName.f k b l[i]).bind fun bt => (if bt.2 = true then (spec_PackNames.l0 k bt.1 l (l.length : Int) ((i + 1 : Nat) : Int)) else (some ((⟨#[]⟩ : ByteArray), false))) := fun k => by
      conv => lhs; unfold spec_PackNames.l0
      rw [if_pos (by omega), if_pos (by omega), if_pos (by omega), pk_rd l i hi, w64n (by omega)]
    have ei : ∀ k, impl_packed.l0 (k + 1) b l (l.length : Int) (i : Int) = (impl_putName.f k b l[i]).bind fun t => (if (t.size : Int) > 600 then (some ((⟨#[]⟩ : ByteArray), false)) else (impl_packed.l0 k t l (l.length : Int) ((i + 1 : Nat) : Int))) := fun k => by
      conv => lhs; unfold impl_packed.l0
      rw [if_pos (by omega), if_pos (by omega), if_pos (by omega), pk_rd l i hi, w64n (by omega)]
    have hd : l.drop i = l[i] :: l.drop (i + 1) := List.drop_eq_getElem_cons hi
    by_cases hg : goodL l[i].data.toList = true
    · have hsz := good_size hg
      rw [← size_len] at hsz
      obtain ⟨r, e1, e2⟩ := put_both b hb l[i] hsz hg
      have e3 := specPut_good hb hg e1
      by_cases h6 : (r.size : Int) > 600
      · rw [if_pos h6] at e3
        refine ⟨failP, Ev.step es (Ev.bind e3 (Ev.now _)), fun _ => Ev.step ei (Ev.bind e2 ?_), fun _ => rfl, by decide⟩
        simp only [if_pos h6]
        exact Ev.now _
      · rw [if_neg h6] at e3
        obtain ⟨r2, g1, g2, g3, g4⟩ := pack_loops l hl hs m (i + 1) r (by omega) (by omega)
        refine ⟨r2, Ev.step es (Ev.bind e3 g1), fun h => Ev.step ei (Ev.bind e2 ?_), fun h => g3 ?_, g4⟩
        · simp only [if_neg h6]
          exact g2 fun x hx => h x (by rw [hd]; exact List.mem_cons_of_mem _ hx)
        · obtain ⟨x, hx, hb⟩ := h
          rw [hd] at hx
          rcases List.mem_cons.1 hx with rfl | hx
          · rw [hg] at hb; cases hb
          · exact ⟨x, hx, hb⟩
    · have hgf := Bool.eq_false_iff.mpr hg
      have e3 := specPut_bad hb (hs _ (List.getElem_mem hi)) hgf
      refine ⟨failP, Ev.step es (Ev.bind e3 (Ev.now _)), fun h => absurd (h l[i] (by rw [hd]; exact List.mem_cons_self)) hg, fun _ => rfl, by decide⟩
theorem pack_both (l : List ByteArray) (hs : ∀ x ∈ l, x.size ≤ 1048576) : ∃ r, Ev (fun k => spec_PackNames.f k l) r ∧ Ev (fun k => impl_PackNames.f k l) r ∧ (r.2 = true → l.length ≤ 20 ∧ ∀ x ∈ l, goodL x.data.toList = true) ∧ r.1.size ≤ 600 := by
  by_cases h20 : (l.length : Int) > 20
  · exact ⟨failP, Ev.congr (fun k => by unfold spec_PackNames.f; rw [if_pos h20]; rfl) (Ev.now _), Ev.congr (fun k => by unfold impl_PackNames.f; rw [if_pos h20]; rfl) (Ev.now _), (fun h => by cases h), by decide⟩
  · obtain ⟨r, g1, g2, g3, g4⟩ := pack_loops l (by omega) hs l.length 0 (⟨#[]⟩ : ByteArray) (by omega) (by show 0 ≤ 600; omega)
    rw [List.drop_zero] at g2 g3
    refine ⟨r, Ev.congr (fun k => by unfold spec_PackNames.f; rw [if_neg h20]; rfl) g1, ?_, ?_, g4⟩
    · by_cases hg : ∀ x ∈ l, goodL x.data.toList = true
      · have ha : (l.all fun x => goodL x.data.toList) = true := List.all_eq_true.2 hg
        refine Ev.congr (f := fun k => (impl_packed.f k l).bind fun bt308 => some (bt308.1, bt308.2)) (fun k => by unfold impl_PackNames.f impl_areNames.f; rw [if_neg h20, Option.bind_some, if_pos ha]) (Ev.bind (a := r) (g2 hg) (Ev.now _))
      · have ha : (l.all fun x => goodL x.data.toList) = false := by
          rw [Bool.eq_false_iff]
          intro h
          exact hg (List.all_eq_true.1 h)
        have hx : ∃ x ∈ l, goodL x.data.toList = false := by
          rw [List.all_eq_false] at ha
          obtain ⟨x, h1, h2⟩ := ha
          exact ⟨x, h1, Bool.eq_false_iff.mpr h2⟩
        rw [g3 hx]
        exact Ev.congr (fun k => by unfold impl_PackNames.f impl_areNames.f; rw [if_neg h20, Option.bind_some, if_neg (by rw [ha]; simp)]; rfl) (Ev.now failP)
    · intro h
      refine ⟨by omega, fun x hx => ?_⟩
      by_cases hb : goodL x.data.toList = true
      · exact hb
      · rw [g3 ⟨x, hx, Bool.eq_false_iff.mpr hb⟩] at h
        cases h
end Go.Proofs.YtomcfhbmdoomlaaDoor.Pure
