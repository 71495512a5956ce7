/- FnExactPutName: part 23 of 25 of my texts for this claim, joined; the theorem stands in the last. Conditions: none beyond the statement's. -/
import Derived.Test.YtomcfhbmdoomlaaDoorMFnExactPutNamex21
import Derived.Test.YtomcfhbmdoomlaaDoorMFnExactPutNamex7
import Derived.Test.YtomcfhbmdoomlaaDoorMFnExactPutNamex6
import Derived.Test.YtomcfhbmdoomlaaDoorMFnExactPutNamex10
import Derived.Test.YtomcfhbmdoomlaaDoorMFnExactPutNamex16
-- PurePlace
/- Taking a name: as PureTake, and the places lie in the text. Conditions: the text is short. -/
namespace Go.Proofs.YtomcfhbmdoomlaaDoor.Pure
open Go.RowKit Go.Proofs.YtomcfhbmdoomlaaDoor.P Go.Proofs.YtomcfhbmdoomlaaDoorW.PrintWords Go.Proofs.YtomcfhbmdoomlaaDoorW.PrintLast
set_option linter.unusedVariables false
set_option linter.unusedSimpArgs false
set_option linter.unusedSectionVars false
section
variable (s : ByteArray) (hs : s.size ≤ 600)
include hs
theorem sync2 : ∀ (n a : Nat) (L : List ByteArray) (p : List Int) (le : Nat) (e : Int) (a0 : Nat), le * 10 + (9 - L.length) ≤ n → L.length ≤ 9 → p.length ≤ L.length → InvL L → (e < 0 → a0 ≤ a) → (0 ≤ e → (a0 : Int) < e ∧ e ≤ (s.size : Int)) → (∀ x ∈ p, 0 ≤ x ∧ x < (s.size : Int)) →
    ∃ r r', Ev (fun k => spec_l2Take.l0 k s (a : Int) L p (le : Int) e) r ∧ Ev (fun k => impl_takeName.l0 k s (a : Int) (L.map smB) p (le : Int) e) r' ∧ r.2.2.2 = r'.2.2.2 ∧
      (r.2.2.2 = true → r.1 = r'.1 ∧ r.2.1 = r'.2.2.1 ∧ r.2.2.1 = r'.2.1 ∧ (a0 : Int) < r.2.1 ∧ r.2.1 ≤ (s.size : Int) ∧ r.2.2.1.length ≤ 9 ∧ ∀ x ∈ r.2.2.1, 0 ≤ x ∧ x < (s.size : Int))
  | n, a, L, p, le, e, a0, hn, hL, hp, hI, he1, he2, hpr => by
    have hLs : (L.map smB).length = L.length := List.length_map ..
    by_cases ho : s.size ≤ a ∨ 8 < L.length
    · exact ⟨failS, failI, Ev.of (fun k => (spec_l2Take.mono_l k).1 _ _ _ _ _ _) (spec_out s hs 0 a L p le e ho), Ev.of (fun k => (impl_takeName.mono_l k).1 _ _ _ _ _ _) (impl_out s hs 0 a _ p le e (by omega)), rfl, fun h => by cases h⟩
    · have h1 : a < s.size := by omega
      have h2 : L.length ≤ 8 := by omega
      by_cases v0 : byteAt s a = 0
      · have hi := impl_end s hs 0 a (L.map smB) p le e h1 (by omega) v0
        refine ⟨((foldR (mkB (joinL L))).1, endOf e (a + 1), p, (foldR (mkB (joinL L))).2), _, ?_, Ev.of (fun k => (impl_takeName.mono_l k).1 _ _ _ _ _ _) hi, by rw [fin_eq L hI], fun _ => ⟨by rw [fin_eq L hI], rfl, rfl, ?_, ?_, by show p.length ≤ 9; omega, hpr⟩⟩
        · refine Ev.step (f := fun k => (spec_l1Join.f k L).bind fun t => (spec_FoldName.f t).bind fun bt119 => some (bt119.1, endOf e (a + 1), p, bt119.2)) (fun k => ?_) (Ev.bind (join_ev L (fun x hx => by have := (hI x hx).2.1; omega) (by omega)) (Ev.congr (f := fun _ => some ((foldR (mkB (joinL L))).1, endOf e (a + 1), p, (foldR (mkB (joinL L))).2)) (fun k => by unfold spec_FoldName.f; rfl) (Ev.now _)))
          show spec_l2Take.l0 (k + 1) s (a : Int) L p (le : Int) e = _
          conv => lhs; unfold spec_l2Take.l0
          rw [if_pos (by omega), if_neg (by omega), if_pos (by omega), if_pos (by omega), byteAt_bt, wN _ (by have := byteAt_lt s a; omega), v0, if_neg (by decide), if_pos (by rfl), w64n (by omega)]
          unfold endOf
          by_cases he : e < 0
          · rw [if_pos he, if_pos he]
          · rw [if_neg he, if_neg he]
        · show (a0 : Int) < endOf e (a + 1)
          unfold endOf
          split <;> omega
        · show endOf e (a + 1) ≤ (s.size : Int)
          unfold endOf
          split <;> omega
      · by_cases v1 : 192 ≤ byteAt s a
        · by_cases h3 : a + 1 < s.size
          · by_cases hle : ((ptrOf s a : Nat) : Int) ≥ (le : Int)
            · exact ⟨failS, failI, Ev.of (fun k => (spec_l2Take.mono_l k).1 _ _ _ _ _ _) ((spec_ptr s hs 0 a L p le e h1 h2 v1 h3).trans (if_pos hle)), Ev.of (fun k => (impl_takeName.mono_l k).1 _ _ _ _ _ _) ((impl_ptr s hs 0 a _ p le e h1 (by omega) v1 h3).trans (if_pos hle)), rfl, fun h => by cases h⟩
            · obtain ⟨r, r', g1, g2, g3⟩ := sync2 (n - 10) (ptrOf s a) L p (ptrOf s a) (endOf e (a + 2)) a0 (by omega) hL hp hI (by unfold endOf; split <;> omega) (by unfold endOf; split <;> omega) hpr
              exact ⟨r, r', Ev.step (fun k => (spec_ptr s hs k a L p le e h1 h2 v1 h3).trans (if_neg hle)) g1, Ev.step (fun k => rfl) (Ev.step (g := fun k => impl_takeName.l0 (k + 1) s (a : Int) (L.map smB) p (le : Int) e) (fun k => (impl_ptr s hs k a _ p le e h1 (by omega) v1 h3).trans (if_neg hle)) g2), g3⟩
          · exact ⟨failS, failI, Ev.of (fun k => (spec_l2Take.mono_l k).1 _ _ _ _ _ _) (spec_ptr_out s hs 0 a L p le e h1 h2 v1 (by omega)), Ev.of (fun k => (impl_takeName.mono_l k).1 _ _ _ _ _ _) (impl_ptr_out s hs 0 a _ p le e h1 (by omega) v1 (by omega)), rfl, fun h => by cases h⟩
        · have hlb : ∀ (g : s.size ≥ a + 1 + byteAt s a), (rawL s a).length = byteAt s a := fun g => by unfold rawL; rw [List.length_take, List.length_drop, ← size_len]; omega
          by_cases h3 : 64 ≤ byteAt s a ∨ s.size < a + 1 + byteAt s a
          · exact ⟨failS, failI, Ev.of (fun k => (spec_l2Take.mono_l k).1 _ _ _ _ _ _) (spec_lab_out s hs 0 a L p le e h1 h2 (by omega) (by omega) (by omega)), Ev.of (fun k => (impl_takeName.mono_l k).1 _ _ _ _ _ _) (impl_lab_out s hs 0 a _ p le e h1 (by omega) (by omega) (by omega) h3), rfl, fun h => by cases h⟩
          · have hlen := hlb (by omega)
            have himpl : ∀ r, Ev (fun k => impl_takeName.l0 k s ((a + 1 + byteAt s a : Nat) : Int) (L.map smB ++ [mkB ((rawL s a).map lowB)]) (plc e p a) (le : Int) e) r → Ev (fun k => impl_takeName.l0 k s (a : Int) (L.map smB) p (le : Int) e) r := fun r g2 =>
              Ev.step (fun k => rfl) (Ev.step (fun k => rfl) (Ev.step (g := fun k => impl_takeName.l0 (k + 2) s (a : Int) (L.map smB) p (le : Int) e) (fun k => impl_lab s hs k a _ p le e h1 (by omega) (by omega) (by omega) (by omega) (by omega)) g2))
            have hpl : (plc e p a).length ≤ L.length + 1 := by
              unfold plc
              split
              · rw [List.length_append, List.length_singleton]; omega
              · omega
            have hplr : ∀ x ∈ plc e p a, 0 ≤ x ∧ x < (s.size : Int) := by
              unfold plc
              split
              · intro x hx
                rcases List.mem_append.1 hx with hx | hx
                · exact hpr x hx
                · rw [List.mem_singleton.1 hx]; omega
              · exact hpr
            have doom : isLabelL ((rawL s a).map lowB) = false → ∃ r, Ev (fun k => impl_takeName.l0 k s (a : Int) (L.map smB) p (le : Int) e) r ∧ r.2.2.2 = false := by
              intro hb
              obtain ⟨r, g1, g2⟩ := doomed s hs (n - 1) (a + 1 + byteAt s a) (L.map smB ++ [mkB ((rawL s a).map lowB)]) (plc e p a) le e (by simp; omega) (by simp; omega) (by simp; omega) ⟨_, List.mem_append_right _ List.mem_cons_self, by rw [mkB_data]; exact hb⟩
              exact ⟨r, himpl r g1, g2⟩
            by_cases h20 : 20 < byteAt s a
            · obtain ⟨r', g1, g2⟩ := doom (by
                rw [Bool.eq_false_iff]
                intro e1
                have := label_size e1
                rw [List.length_map] at this
                omega)
              exact ⟨failS, r', Ev.of (fun k => (spec_l2Take.mono_l k).1 _ _ _ _ _ _) (spec_lab_out s hs 0 a L p le e h1 h2 (by omega) (by omega) (.inl h20)), g1, by rw [g2]; rfl, fun h => by cases h⟩
            · rcases spec_lab s hs a L p le e h1 h2 (by omega) (by omega) (by omega) (by omega) with ⟨f1, y, hy, rfl⟩ | ⟨f1, f2⟩
              · obtain ⟨r', g1, g2⟩ := doom (by
                  rw [Bool.eq_false_iff]
                  intro e1
                  unfold isLabelL at e1
                  simp only [Bool.or_eq_true, Bool.and_eq_true, beq_iff_eq, List.all_eq_true] at e1
                  have hm : (46 : UInt8) ∈ (rawL s a).map lowB := List.mem_map.2 ⟨46, hy, (low46 46).2 rfl⟩
                  rcases e1 with e1 | e1
                  · rw [e1] at hm
                    simp at hm
                  · exact absurd (e1.2 46 hm) (by decide))
                exact ⟨failS, r', f1, g1, by rw [g2]; rfl, fun h => by cases h⟩
              · obtain ⟨r, r', g1, g2, g3⟩ := sync2 (n - 1) (a + 1 + byteAt s a) (L ++ [mkB (rawL s a)]) (plc e p a) le e a0 (by simp; omega) (by simp; omega) (by simp; omega) (by
                  intro x hx
                  rcases List.mem_append.1 hx with hx | hx
                  · exact hI x hx
                  · obtain rfl := List.mem_singleton.1 hx
                    rw [mkB_size, mkB_data]
                    exact ⟨by omega, by omega, f1⟩) (by omega) he2 hplr
                refine ⟨r, r', f2 r g1, himpl r' ?_, g3⟩
                rw [List.map_append] at g2
                have e1 : [mkB (rawL s a)].map smB = [mkB ((rawL s a).map lowB)] := by simp [smB, mkB_data]
                rw [e1] at g2
                exact g2
  termination_by n => n
  decreasing_by all_goals omega

/-- What both return. -/
theorem take_both2 (a : Nat) (ha : a ≤ s.size) : ∃ r r', Ev (fun k => spec_l2Take.f k s (a : Int)) r ∧ Ev (fun k => impl_takeName.f k s (a : Int)) r' ∧ r.2.2.2 = r'.2.2.2 ∧
      (r.2.2.2 = true → r.1 = r'.1 ∧ r.2.1 = r'.2.2.1 ∧ r.2.2.1 = r'.2.1 ∧ (a : Int) < r.2.1 ∧ r.2.1 ≤ (s.size : Int) ∧ r.2.2.1.length ≤ 9 ∧ ∀ x ∈ r.2.2.1, 0 ≤ x ∧ x < (s.size : Int)) :=
  sync2 s hs (a * 10 + 9) a [] [] a (-1) a (by simp) (by simp) (by simp) (fun x hx => by cases hx) (fun _ => Nat.le_refl _) (fun h => by omega) (fun x hx => by cases hx)
end
end Go.Proofs.YtomcfhbmdoomlaaDoor.Pure

-- PurePar
/- The name behind the first label: the reference and the program return the same. Conditions: the texts' sizes. (A part of PureBelow, for seats that lack spec.l1Below.) -/
namespace Go.Proofs.YtomcfhbmdoomlaaDoor.Pure
open Go.RowKit Go.Proofs.YtomcfhbmdoomlaaDoor.P Go.Proofs.YtomcfhbmdoomlaaDoorW.PrintWords Go.Proofs.YtomcfhbmdoomlaaDoorW.PrintLast
set_option linter.unusedVariables false
set_option linter.unusedSimpArgs false

/-- What is behind the first dot. -/
def parL : List UInt8 → List UInt8
  | [] => []
  | x :: xs => if x = 46 then xs else parL xs
theorem parL_len (l : List UInt8) : (parL l).length ≤ l.length - 1 := by
  induction l with
  | nil => simp [parL]
  | cons x xs ih =>
    unfold parL
    split
    · simp
    · simp at ih ⊢; omega
theorem parL_hit (p r : List UInt8) (h : ∀ x ∈ p, x ≠ 46) : parL (p ++ 46 :: r) = r := by
  induction p with
  | nil => simp [parL]
  | cons x xs ih => rw [List.cons_append, parL, if_neg (h x List.mem_cons_self), ih fun y hy => h y (List.mem_cons_of_mem _ hy)]
theorem parL_none (l : List UInt8) (h : ∀ x ∈ l, x ≠ 46) : parL l = [] := by
  induction l with
  | nil => rfl
  | cons x xs ih => rw [parL, if_neg (h x List.mem_cons_self), ih fun y hy => h y (List.mem_cons_of_mem _ hy)]

theorem parent_loop (s : ByteArray) (hs : s.size < 1099511627776) : ∀ (m i : Nat), i + m = s.size →
    spec_l1Parent.l0 (m + 1) s (i : Int) = some (mkB (parL (s.data.toList.drop i)))
  | 0, i, him => by
    unfold spec_l1Parent.l0
    rw [if_neg (by omega), List.drop_of_length_le (by rw [← size_len]; omega)]
    rfl
  | m + 1, i, him => by
    have hi : i < s.data.toList.length := by rw [← size_len]; omega
    unfold spec_l1Parent.l0
    rw [if_pos (by omega), if_pos (by omega), w64n (by omega), bt_list s i hi, List.drop_eq_getElem_cons hi]
    unfold parL
    by_cases h : s.data.toList[i] = 46
    · rw [if_pos (by rw [h]; rfl), if_pos h, if_pos (by omega), if_pos (by omega), Int.toNat_natCast, ext_end]
    · rw [if_neg (by intro e; apply h; apply UInt8.toNat_inj.1; simpa using Int.ofNat.inj e), if_neg h, parent_loop s hs m (i + 1) (by omega)]
theorem specParent_ev (s : ByteArray) (hs : s.size < 1099511627776) : Ev (fun k => spec_l1Parent.f k s) (mkB (parL s.data.toList)) := by
  refine Ev.of (fun k => spec_l1Parent.mono _ _) (k := s.size + 1) ?_
  unfold spec_l1Parent.f
  have := parent_loop s hs s.size 0 (by omega)
  simpa using this
theorem implParent_eq (s : ByteArray) (hs : s.size < 4611686018427387904) : impl_parentOf.f s = some (mkB (parL s.data.toList)) := by
  unfold impl_parentOf.f strings_Cut.f stringslite_Cut.f internal_stringslite_Index.f
  rw [if_pos (show (⟨#[46]⟩ : ByteArray).size = 1 from rfl)]
  simp only [Option.bind_some]
  rw [show List.headD (⟨#[46]⟩ : ByteArray).data.toList 0 = 46 from rfl, show (⟨#[46]⟩ : ByteArray).size = 1 from rfl]
  rcases place_or 46 s.data.toList with ⟨h1, h2⟩ | ⟨p, r, h1, h2, h3⟩
  · rw [h1, if_neg (by omega), parL_none _ h2]
    rfl
  · have hl : p.length + (r.length + 1) = s.size := by rw [size_len, h1]; simp
    rw [h3, show (((1 : Nat) : Int)) = 1 from rfl, w64n (by omega), if_pos (by omega), if_pos (by omega), if_pos (by omega), if_pos (by omega), if_pos (by omega), Int.toNat_natCast, Int.toNat_natCast, ext_end]
    simp only [Option.bind_some]
    have hd : s.data.toList.drop (p.length + 1) = r := by rw [h1, ← List.drop_drop, List.drop_left]; rfl
    rw [hd, h1, parL_hit p r h2]
end Go.Proofs.YtomcfhbmdoomlaaDoor.Pure
