/- FnNames: part 18 of 25 of my texts for this claim, joined; the theorem stands in the last. Conditions: none beyond the statement's. -/
import Derived.Test.YtiipkjehlaenkaaDoorMFnNamesx0
import Derived.Test.YtiipkjehlaenkaaDoorMFnNamesx14
import Derived.Test.YtiipkjehlaenkaaDoorMFnNamesx10
import Derived.Test.YtiipkjehlaenkaaDoorMFnNamesx3
import Derived.Test.YtiipkjehlaenkaaDoorMFnNamesx7
import Derived.Laws.BitsAllLaws
-- F47
-- By my own call of the kit's print (wip/tools/pp.py).
namespace Go.Proofs.YtiipkjehlaenkaaDoor.P
open Go.RowKit Go.Proofs.YtiipkjehlaenkaaDoorW.PrintWords Go.Proofs.YtiipkjehlaenkaaDoorW.PrintLast Go.Proofs.YtiipkjehlaenkaaDoorW.PrintMore
attribute [local go_sem] max2_int min2_int max_two min_two max_three min_three max_four min_four
set_option linter.unusedVariables false
set_option linter.unusedSimpArgs false

/-! ### spec_l1Below: function 47 -/
def spec_l1Below.f (a0 : ByteArray) (a1 : ByteArray) : Option (Bool) := if a1.toList = ([] : List UInt8) then (some true) else (if a0.toList = a1.toList then (some true) else (if (wrap64 ((a0.size : Int) - (a1.size : Int))) > 0 then (if 0 ≤ (wrap64 ((a0.size : Int) - (a1.size : Int))) then (if (wrap64 ((a0.size : Int) - (a1.size : Int))) ≤ (a0.size : Int) then (if (a0.extract ((wrap64 ((a0.size : Int) - (a1.size : Int))) : Int).toNat a0.size).toList = a1.toList then (if 0 ≤ (wrap64 ((wrap64 ((a0.size : Int) - (a1.size : Int))) - 1)) then (if (wrap64 ((wrap64 ((a0.size : Int) - (a1.size : Int))) - 1)) < (a0.size : Int) then (some ((bt a0 (wrap64 ((wrap64 ((a0.size : Int) - (a1.size : Int))) - 1))) == 46)) else (none)) else (none)) else (some false)) else (none)) else (none)) else (some false)))
set_option maxHeartbeats 8000000 in
set_option maxRecDepth 100000 in
theorem spec_l1Below.calls (a0 : ByteArray) (a1 : ByteArray) (r : Bool) (w : World) (h : spec_l1Below.f a0 a1 = some r) :
    Calls Tryd.prog 47 #[.string a0, .string a1] w fun e w' => e = .returned (.bool r) ∧ Drawn0 w w' := by
  have H : (if a1.toList = ([] : List UInt8) then (some true) else (if a0.toList = a1.toList then (some true) else (if (wrap64 ((a0.size : Int) - (a1.size : Int))) > 0 then (if 0 ≤ (wrap64 ((a0.size : Int) - (a1.size : Int))) then (if (wrap64 ((a0.size : Int) - (a1.size : Int))) ≤ (a0.size : Int) then (if (a0.extract ((wrap64 ((a0.size : Int) - (a1.size : Int))) : Int).toNat a0.size).toList = a1.toList then (if 0 ≤ (wrap64 ((wrap64 ((a0.size : Int) - (a1.size : Int))) - 1)) then (if (wrap64 ((wrap64 ((a0.size : Int) - (a1.size : Int))) - 1)) < (a0.size : Int) then (some ((bt a0 (wrap64 ((wrap64 ((a0.size : Int) - (a1.size : Int))) - 1))) == 46)) else (none)) else (none)) else (some false)) else (none)) else (none)) else (some false)))) = some r := h
  clear h
  by_cases c3 : a1.toList = ([] : List UInt8)
  · rw [if_pos c3] at H
    have c3b0 : (a1.toList == ([] : List UInt8)) = true := beq_iff_eq.mpr c3
    have c3b1 : (a1.toList != ([] : List UInt8)) = false := bne_eq_false_iff_eq.mpr c3
    clear c3
    obtain rfl := Option.some.inj H
    go_enter Tryd.func47, Tryd.ntmps47
    go_wp2
    go_ret
    exact ⟨by first | rfl | (simp; done) | (simp [*]; done), by repeat (first | exact Drawn0.refl _ | apply Drawn0.step)⟩
  · rw [if_neg c3] at H
    have c3b0 : (a1.toList == ([] : List UInt8)) = false := beq_eq_false_iff_ne.mpr c3
    have c3b1 : (a1.toList != ([] : List UInt8)) = true := bne_iff_ne.mpr c3
    by_cases c4 : a0.toList = a1.toList
    · rw [if_pos c4] at H
      have c4b0 : (a0.toList == a1.toList) = true := beq_iff_eq.mpr c4
      have c4b1 : (a0.toList != a1.toList) = false := bne_eq_false_iff_eq.mpr c4
      clear c4
      obtain rfl := Option.some.inj H
      go_enter Tryd.func47, Tryd.ntmps47
      go_wp2
      go_ret
      exact ⟨by first | rfl | (simp; done) | (simp [*]; done), by repeat (first | exact Drawn0.refl _ | apply Drawn0.step)⟩
    · rw [if_neg c4] at H
      have c4b0 : (a0.toList == a1.toList) = false := beq_eq_false_iff_ne.mpr c4
      have c4b1 : (a0.toList != a1.toList) = true := bne_iff_ne.mpr c4
      by_cases c5 : (wrap64 ((a0.size : Int) - (a1.size : Int))) > 0
      · rw [if_pos c5] at H
        have c5b0 : decide (0 < (wrap64 ((a0.size : Int) - (a1.size : Int)))) = true := decide_eq_true c5
        clear c5
        obtain ⟨ji6, hji6⟩ : ∃ j_ : Int, (wrap64 ((a0.size : Int) - (a1.size : Int))) = j_ := ⟨_, rfl⟩
        replace H : (if 0 ≤ (ji6) then (if (ji6) ≤ (a0.size : Int) then (if (a0.extract ((ji6) : Int).toNat a0.size).toList = a1.toList then (if 0 ≤ (wrap64 ((ji6) - 1)) then (if (wrap64 ((ji6) - 1)) < (a0.size : Int) then (some ((bt a0 (wrap64 ((ji6) - 1))) == 46)) else (none)) else (none)) else (some false)) else (none)) else (none)) = some r := by first | (rw [hji6] at H; exact H) | (simp only [hji6] at H ⊢; exact H)
        (try rw [hji6] at c5b0)
        have hji6w : (IntKind.i64.wrap ((a0.size : Int) - (a1.size : Int))) = ji6 := (i64_w _).trans hji6
        by_cases c7 : 0 ≤ (ji6)
        · rw [if_pos c7] at H
          have c7b0 := eq_true c7
          have c7b1 : decide (0 ≤ (ji6)) = true := decide_eq_true c7
          clear c7
          by_cases c8 : (ji6) ≤ (a0.size : Int)
          · rw [if_pos c8] at H
            have c8b0 := eq_true c8
            have c8b1 : decide ((ji6) ≤ (a0.size : Int)) = true := decide_eq_true c8
            clear c8
            by_cases c9 : (a0.extract ((ji6) : Int).toNat a0.size).toList = a1.toList
            · rw [if_pos c9] at H
              have c9b0 : ((a0.extract ((ji6) : Int).toNat a0.size).toList == a1.toList) = true := beq_iff_eq.mpr c9
              have c9b1 : ((a0.extract ((ji6) : Int).toNat a0.size).toList != a1.toList) = false := bne_eq_false_iff_eq.mpr c9
              clear c9
              obtain ⟨ji10, hji10⟩ : ∃ j_ : Int, (wrap64 ((ji6) - 1)) = j_ := ⟨_, rfl⟩
              replace H : (if 0 ≤ (ji10) then (if (ji10) < (a0.size : Int) then (some ((bt a0 (ji10)) == 46)) else (none)) else (none)) = some r := by first | (rw [hji10] at H; exact H) | (simp only [hji10] at H ⊢; exact H)
              have hji10w : (IntKind.i64.wrap ((ji6) - 1)) = ji10 := (i64_w _).trans hji10
              by_cases c11 : 0 ≤ (ji10)
              · rw [if_pos c11] at H
                have c11b0 : decide (0 ≤ (ji10)) = true := decide_eq_true c11
                clear c11
                by_cases c12 : (ji10) < (a0.size : Int)
                · rw [if_pos c12] at H
                  have c12b0 : decide ((ji10) < (a0.size : Int)) = true := decide_eq_true c12
                  clear c12
                  obtain rfl := Option.some.inj H
                  have p13 : 0 ≤ ((ji10) : Int) := of_decide_eq_true (by first | (with_reducible assumption) | assumption)
                  have q13 : (ji10) < (a0.size : Int) := of_decide_eq_true (by first | (with_reducible assumption) | assumption)
                  have hx13 := bt_at a0 (ji10)
                  replace p13 := eq_true p13
                  replace q13 := eq_true q13
                  go_enter Tryd.func47, Tryd.ntmps47
                  go_wp2
                  go_ret
                  exact ⟨by first | rfl | (simp; done) | (simp only [← hji6, ← hji10] <;> (first | rfl | simp)) | (simp [*]; done), by repeat (first | exact Drawn0.refl _ | apply Drawn0.step)⟩
                · rw [if_neg c12] at H
                  exact absurd H (by simp)
              · rw [if_neg c11] at H
                exact absurd H (by simp)
            · rw [if_neg c9] at H
              have c9b0 : ((a0.extract ((ji6) : Int).toNat a0.size).toList == a1.toList) = false := beq_eq_false_iff_ne.mpr c9
              have c9b1 : ((a0.extract ((ji6) : Int).toNat a0.size).toList != a1.toList) = true := bne_iff_ne.mpr c9
              obtain rfl := Option.some.inj H
              go_enter Tryd.func47, Tryd.ntmps47
              go_wp2
              go_ret
              exact ⟨by first | rfl | (simp; done) | (simp only [← hji6] <;> (first | rfl | simp)) | (simp [*]; done), by repeat (first | exact Drawn0.refl _ | apply Drawn0.step)⟩
          · rw [if_neg c8] at H
            exact absurd H (by simp)
        · rw [if_neg c7] at H
          exact absurd H (by simp)
      · rw [if_neg c5] at H
        have c5b0 : decide (0 < (wrap64 ((a0.size : Int) - (a1.size : Int)))) = false := decide_eq_false c5
        clear c5
        obtain rfl := Option.some.inj H
        go_enter Tryd.func47, Tryd.ntmps47
        go_wp2
        go_ret
        exact ⟨by first | rfl | (simp; done) | (simp [*]; done), by repeat (first | exact Drawn0.refl _ | apply Drawn0.step)⟩

end Go.Proofs.YtiipkjehlaenkaaDoor.P

-- PureBelow
/- One name below another, and the name behind the first label: the reference and the program return the same. Conditions: the texts' sizes. -/
namespace Go.Proofs.YtiipkjehlaenkaaDoor.Pure
open Go.RowKit Go.Proofs.YtiipkjehlaenkaaDoor.P Go.Proofs.YtiipkjehlaenkaaDoorW.PrintWords Go.Proofs.YtiipkjehlaenkaaDoorW.PrintLast
set_option linter.unusedVariables false
set_option linter.unusedSimpArgs false

/-- Is a text another one, or below it? -/
def belowL (a b : List UInt8) : Bool := b == [] || (a == b || (decide (b.length < a.length) && a.drop (a.length - b.length - 1) == 46 :: b))

theorem specBelow_eq (a b : ByteArray) (ha : a.size < 4611686018427387904) (hb : b.size < 4611686018427387904) : spec_l1Below.f a b = some (belowL a.data.toList b.data.toList) := by
  unfold spec_l1Below.f belowL
  rw [Lib.toList_data, Lib.toList_data]
  by_cases h1 : b.data.toList = []
  · rw [if_pos h1, h1]; rfl
  · rw [if_neg h1, show (b.data.toList == []) = false from beq_eq_false_iff_ne.mpr h1, Bool.false_or]
    by_cases h2 : a.data.toList = b.data.toList
    · rw [if_pos h2, h2]; simp
    · rw [if_neg h2, show (a.data.toList == b.data.toList) = false from beq_eq_false_iff_ne.mpr h2, Bool.false_or, ← size_len, ← size_len]
      have hw : wrap64 ((a.size : Int) - (b.size : Int)) = (a.size : Int) - (b.size : Int) := by unfold wrap64; omega
      rw [hw]
      by_cases h3 : (a.size : Int) - (b.size : Int) > 0
      · have h3' : b.size < a.size := by omega
        have hw2 : wrap64 ((a.size : Int) - (b.size : Int) - 1) = ((a.size - b.size - 1 : Nat) : Int) := by unfold wrap64; omega
        have hi : a.size - b.size - 1 < a.data.toList.length := by rw [← size_len]; omega
        rw [if_pos h3, if_pos (by omega), if_pos (by omega), hw2, decide_eq_true h3', Bool.true_and]
        rw [show ((a.size : Int) - (b.size : Int)).toNat = a.size - b.size by omega, Lib.toList_data, ext_end, mkB_data]
        rw [List.drop_eq_getElem_cons hi, show a.size - b.size - 1 + 1 = a.size - b.size by omega]
        by_cases h4 : List.drop (a.size - b.size) a.data.toList = b.data.toList
        · rw [if_pos h4, if_pos (by omega), if_pos (by omega), bt_list a _ hi, h4]
          generalize a.data.toList[a.size - b.size - 1] = x
          have hx : ((x.toNat : Int) == 46) = (x == 46) := by
            rw [Bool.eq_iff_iff, beq_iff_eq, beq_iff_eq, ← UInt8.toNat_inj]
            exact ⟨fun e => Int.ofNat.inj e, fun e => by rw [e]; rfl⟩
          rw [hx]
          simp
        · rw [if_neg h4, eq_comm]
          congr 1
          rw [beq_eq_false_iff_ne]
          intro e
          exact h4 (List.cons.inj e).2
      · rw [if_neg h3, decide_eq_false (by omega)]
        rfl

theorem implBelow_eq (a b : ByteArray) (ha : a.size < 4611686018427387904) (hb : b.size < 4611686018427387904) : impl_isBelow.f a b = some (belowL a.data.toList b.data.toList) := by
  unfold impl_isBelow.f belowL
  rw [Lib.toList_data, Lib.toList_data]
  by_cases h1 : b.data.toList = []
  · rw [h1]
    by_cases h2 : a.data.toList = []
    · rw [if_pos h2]; rfl
    · rw [if_neg h2, if_pos rfl]; rfl
  · rw [show (b.data.toList == []) = false from beq_eq_false_iff_ne.mpr h1, Bool.false_or]
    by_cases h2 : a.data.toList = b.data.toList
    · rw [if_pos h2, h2]; simp
    · rw [if_neg h2, if_neg h1, if_pos (by omega), show (a.data.toList == b.data.toList) = false from beq_eq_false_iff_ne.mpr h2, Bool.false_or, ← size_len, ← size_len]
      unfold strings_HasSuffix.f stringslite_HasSuffix.f
      have hsz : ((⟨#[46]⟩ : ByteArray) ++ b).size = b.size + 1 := by rw [ByteArray.size_append]; show 1 + b.size = _; omega
      have hdt : ((⟨#[46]⟩ : ByteArray) ++ b).data.toList = 46 :: b.data.toList := by rw [ByteArray.data_append, Array.toList_append]; rfl
      rw [hsz]
      by_cases h3 : b.size < a.size
      · have hw : wrap64 ((a.size : Int) - ((b.size + 1 : Nat) : Int)) = ((a.size - b.size - 1 : Nat) : Int) := by unfold wrap64; omega
        rw [if_pos (by omega), hw, if_pos (by omega), if_pos (by omega), decide_eq_true h3, Bool.true_and, Int.toNat_natCast, ext_end, Lib.toList_data, Lib.toList_data, mkB_data, hdt]
        rfl
      · rw [if_neg (by omega), decide_eq_false h3]
        rfl

/-- What is behind the first dot. -/
def parL : List UInt8 → List UInt8
  | [] => []
  | x :: xs => if x = 46 then xs else parL xs
theorem parL_len (l : List UInt8) : (parL l).length ≤ l.length - 1 := by
  induction l with
  | nil => simp [parL]
  | cons x xs ih =>
    unfold parL
    split
    · simp
    · simp at ih ⊢; omega
theorem parL_hit (p r : List UInt8) (h : ∀ x ∈ p, x ≠ 46) : parL (p ++ 46 :: r) = r := by
  induction p with
  | nil => simp [parL]
  | cons x xs ih => rw [List.cons_append, parL, if_neg (h x List.mem_cons_self), ih fun y hy => h y (List.mem_cons_of_mem _ hy)]
theorem parL_none (l : List UInt8) (h : ∀ x ∈ l, x ≠ 46) : parL l = [] := by
  induction l with
  | nil => rfl
  | cons x xs ih => rw [parL, if_neg (h x List.mem_cons_self), ih fun y hy => h y (List.mem_cons_of_mem _ hy)]

theorem parent_loop (s : ByteArray) (hs : s.size < 1099511627776) : ∀ (m i : Nat), i + m = s.size →
    spec_l1Parent.l0 (m + 1) s (i : Int) = some (mkB (parL (s.data.toList.drop i)))
  | 0, i, him => by
    unfold spec_l1Parent.l0
    rw [if_neg (by omega), List.drop_of_length_le (by rw [← size_len]; omega)]
    rfl
  | m + 1, i, him => by
    have hi : i < s.data.toList.length := by rw [← size_len]; omega
    unfold spec_l1Parent.l0
    rw [if_pos (by omega), if_pos (by omega), w64n (by omega), bt_list s i hi, List.drop_eq_getElem_cons hi]
    unfold parL
    by_cases h : s.data.toList[i] = 46
    · rw [if_pos (by rw [h]; rfl), if_pos h, if_pos (by omega), if_pos (by omega), Int.toNat_natCast, ext_end]
    · rw [if_neg (by intro e; apply h; apply UInt8.toNat_inj.1; simpa using Int.ofNat.inj e), if_neg h, parent_loop s hs m (i + 1) (by omega)]
theorem specParent_ev (s : ByteArray) (hs : s.size < 1099511627776) : Ev (fun k => spec_l1Parent.f k s) (mkB (parL s.data.toList)) := by
  refine Ev.of (fun k => spec_l1Parent.mono _ _) (k := s.size + 1) ?_
  unfold spec_l1Parent.f
  have := parent_loop s hs s.size 0 (by omega)
  simpa using this
theorem implParent_eq (s : ByteArray) (hs : s.size < 4611686018427387904) : impl_parentOf.f s = some (mkB (parL s.data.toList)) := by
  unfold impl_parentOf.f strings_Cut.f stringslite_Cut.f internal_stringslite_Index.f
  rw [if_pos (show (⟨#[46]⟩ : ByteArray).size = 1 from rfl)]
  simp only [Option.bind_some]
  rw [show List.headD (⟨#[46]⟩ : ByteArray).data.toList 0 = 46 from rfl, show (⟨#[46]⟩ : ByteArray).size = 1 from rfl]
  rcases place_or 46 s.data.toList with ⟨h1, h2⟩ | ⟨p, r, h1, h2, h3⟩
  · rw [h1, if_neg (by omega), parL_none _ h2]
    rfl
  · have hl : p.length + (r.length + 1) = s.size := by rw [size_len, h1]; simp
    rw [h3, show (((1 : Nat) : Int)) = 1 from rfl, w64n (by omega), if_pos (by omega), if_pos (by omega), if_pos (by omega), if_pos (by omega), if_pos (by omega), Int.toNat_natCast, Int.toNat_natCast, ext_end]
    simp only [Option.bind_some]
    have hd : s.data.toList.drop (p.length + 1) = r := by rw [h1, ← List.drop_drop, List.drop_left]; rfl
    rw [hd, h1, parL_hit p r h2]
end Go.Proofs.YtiipkjehlaenkaaDoor.Pure

-- PureChain
/- Names above a name: the plain law of the longest name that two names are below. Conditions: none. -/
namespace Go.Proofs.YtiipkjehlaenkaaDoor.Pure
open Go.RowKit Go.Proofs.YtiipkjehlaenkaaDoor.P Go.Proofs.YtiipkjehlaenkaaDoorW.PrintWords Go.Proofs.YtiipkjehlaenkaaDoorW.PrintLast
set_option linter.unusedVariables false
set_option linter.unusedSimpArgs false

def Bel (a b : List UInt8) : Prop := b = [] ∨ a = b ∨ (46 :: b) <:+ a
theorem bel_iff (a b : List UInt8) : belowL a b = true ↔ Bel a b := by
  unfold belowL Bel
  simp only [Bool.or_eq_true, Bool.and_eq_true, beq_iff_eq, decide_eq_true_eq]
  constructor
  · rintro (h | h | ⟨h1, h2⟩)
    · exact .inl h
    · exact .inr (.inl h)
    · refine .inr (.inr ?_)
      rw [← h2]
      exact List.drop_suffix _ _
  · rintro (h | h | h)
    · exact .inl h
    · exact .inr (.inl h)
    · have h1 := h.length_le
      rw [List.length_cons] at h1
      refine .inr (.inr ⟨by omega, ?_⟩)
      rw [List.suffix_iff_eq_drop] at h
      rw [List.length_cons, show a.length - (b.length + 1) = a.length - b.length - 1 by omega] at h
      exact h.symm
theorem bel_refl (a : List UInt8) : Bel a a := .inr (.inl rfl)
theorem bel_trans {a b c : List UInt8} (h : Bel a b) (k : Bel b c) : Bel a c := by
  rcases k with rfl | rfl | k
  · exact .inl rfl
  · exact h
  · rcases h with rfl | rfl | h
    · have := k.length_le; simp at this
    · exact .inr (.inr k)
    · exact .inr (.inr (k.trans ((List.suffix_cons 46 b).trans h)))
theorem bel_len {a b : List UInt8} (h : Bel a b) : b.length ≤ a.length := by
  rcases h with rfl | rfl | h
  · simp
  · exact Nat.le_refl _
  · have := h.length_le; simp at this; omega
theorem bel_anti {a b : List UInt8} (h : Bel a b) (k : Bel b a) : a = b := by
  rcases h with rfl | h | h
  · have := bel_len k; exact List.eq_nil_of_length_eq_zero (by simpa using this)
  · exact h
  · have h1 := h.length_le
    have h2 := bel_len k
    simp at h1
    omega
theorem par_or (s : List UInt8) : (parL s = [] ∧ ∀ x ∈ s, x ≠ 46) ∨ ∃ p, s = p ++ 46 :: parL s ∧ ∀ x ∈ p, x ≠ 46 := by
  rcases place_or 46 s with ⟨_, h⟩ | ⟨p, r, h1, h2, _⟩
  · exact .inl ⟨parL_none s h, h⟩
  · refine .inr ⟨p, ?_, h2⟩
    have e : parL s = r := by rw [h1]; exact parL_hit p r h2
    rw [e]
    exact h1
theorem bel_par (s : List UInt8) : Bel s (parL s) := by
  rcases par_or s with ⟨h, _⟩ | ⟨p, h, _⟩
  · exact .inl h
  · exact .inr (.inr ⟨p, h.symm⟩)
theorem bel_step {a t : List UInt8} (h : Bel a t) : a = t ∨ Bel (parL a) t := by
  rcases h with rfl | h | h
  · exact .inr (.inl rfl)
  · exact .inl h
  · right
    obtain ⟨q, hq⟩ := h
    rcases par_or a with ⟨_, hn⟩ | ⟨p, hp, hpn⟩
    · exact absurd rfl (hn 46 (by rw [← hq]; simp))
    · rw [hp] at hq
      -- q ++ 46 :: t = p ++ 46 :: parL a
      rcases List.append_eq_append_iff.1 hq with ⟨m, h1, h2⟩ | ⟨m, h1, h2⟩
      · cases m with
        | nil =>
          simp at h2
          exact .inr (.inl h2.symm)
        | cons x m =>
          simp at h2
          exact absurd h2.1.symm (hpn x (by rw [h1]; simp))
      · cases m with
        | nil =>
          simp at h2
          exact .inr (.inl h2)
        | cons x m =>
          simp at h2
          exact .inr (.inr ⟨m, h2.2.symm⟩)

/-- The longest name that two names are below. -/
def comL (b : List UInt8) : Nat → List UInt8 → List UInt8
  | 0, a => a
  | n + 1, a => if belowL b a = true then a else comL b n (parL a)
def common (a b : List UInt8) : List UInt8 := comL b (a.length + 1) a
theorem comL_more (b : List UInt8) : ∀ (n m : Nat) (a : List UInt8), a.length < n → a.length < m → comL b n a = comL b m a
  | 0, m, a, h, _ => absurd h (Nat.not_lt_zero _)
  | n + 1, 0, a, _, h => absurd h (Nat.not_lt_zero _)
  | n + 1, m + 1, a, h1, h2 => by
    unfold comL
    by_cases h : belowL b a = true
    · rw [if_pos h, if_pos h]
    · rw [if_neg h, if_neg h]
      have hne : a ≠ [] := by rintro rfl; exact h rfl
      have hpos := List.length_pos_iff.2 hne
      have := parL_len a
      exact comL_more b n m (parL a) (by omega) (by omega)
theorem common_hit {a b : List UInt8} (h : belowL b a = true) : common a b = a := by
  unfold common comL
  rw [if_pos h]
theorem common_step {a b : List UInt8} (h : ¬ belowL b a = true) : common a b = common (parL a) b := by
  have hne : a ≠ [] := by rintro rfl; exact h rfl
  have hpos := List.length_pos_iff.2 hne
  have := parL_len a
  conv => lhs; unfold common comL
  rw [if_neg h]
  exact comL_more b _ _ _ (by omega) (by omega)
theorem common_ind {b : List UInt8} {Q : List UInt8 → Prop} (h1 : ∀ a, belowL b a = true → Q a) (h2 : ∀ a, ¬ belowL b a = true → Q (parL a) → Q a) : ∀ (n : Nat) (a : List UInt8), a.length ≤ n → Q a
  | n, a, hn => by
    by_cases h : belowL b a = true
    · exact h1 a h
    · have hne : a ≠ [] := by rintro rfl; exact h rfl
      have hpos := List.length_pos_iff.2 hne
      have := parL_len a
      match n, hn with
      | 0, hn => omega
      | n + 1, hn => exact h2 a h (common_ind h1 h2 n (parL a) (by omega))
theorem common_left (a b : List UInt8) : Bel a (common a b) := by
  refine common_ind (b := b) (Q := fun a => Bel a (common a b)) (fun a h => ?_) (fun a h ih => ?_) a.length a (Nat.le_refl _)
  · rw [common_hit h]; exact bel_refl a
  · rw [common_step h]; exact bel_trans (bel_par a) ih
theorem common_right (a b : List UInt8) : Bel b (common a b) := by
  refine common_ind (b := b) (Q := fun a => Bel b (common a b)) (fun a h => ?_) (fun a h ih => ?_) a.length a (Nat.le_refl _)
  · rw [common_hit h]; exact (bel_iff _ _).1 h
  · rw [common_step h]; exact ih
theorem common_least (a b t : List UInt8) (hb : Bel b t) : Bel a t → Bel (common a b) t := by
  refine common_ind (b := b) (Q := fun a => Bel a t → Bel (common a b) t) (fun a h ha => ?_) (fun a h ih ha => ?_) a.length a (Nat.le_refl _)
  · rw [common_hit h]; exact ha
  · rw [common_step h]
    rcases bel_step ha with e | e
    · subst e
      exact absurd ((bel_iff _ _).2 hb) h
    · exact ih e
theorem common_comm (a b : List UInt8) : common a b = common b a :=
  bel_anti (common_least a b _ (common_left b a) (common_right b a)) (common_least b a _ (common_left a b) (common_right a b))
theorem common_below (a b : List UInt8) : belowL a b = (common a b == b) := by
  rw [Bool.eq_iff_iff, beq_iff_eq, bel_iff]
  constructor
  · intro h
    exact bel_anti (common_least a b b (bel_refl b) h) (common_right a b)
  · intro h
    have := common_left a b
    rwa [h] at this
theorem good_par {s : List UInt8} (h : goodL s = true) : goodL (parL s) = true := by
  rcases par_or s with ⟨h1, _⟩ | ⟨p, h1, h2⟩
  · rw [h1]; decide
  · have hl := parL_len s
    have hs : splitL 46 s = p :: splitL 46 (parL s) := by
      conv => lhs; rw [h1]
      exact splitL_hit 46 p _ h2
    have hne : s ≠ [] := by intro e; rw [e] at h1; simp at h1
    unfold goodL at h ⊢
    rw [show labelsL s = splitL 46 s by unfold labelsL; rw [if_neg hne], hs] at h
    simp only [Bool.and_eq_true, decide_eq_true_eq, List.length_cons, List.all_cons] at h ⊢
    unfold labelsL
    split
    · exact ⟨by omega, by simp, rfl⟩
    · exact ⟨by omega, by omega, h.2.2.2⟩
theorem good_common {a : List UInt8} (b : List UInt8) (h : goodL a = true) : goodL (common a b) = true := by
  refine common_ind (b := b) (Q := fun a => goodL a = true → goodL (common a b) = true) (fun a h ha => ?_) (fun a h ih ha => ?_) a.length a (Nat.le_refl _) h
  · rw [common_hit h]; exact ha
  · rw [common_step h]; exact ih (good_par ha)
end Go.Proofs.YtiipkjehlaenkaaDoor.Pure

-- PureCur
/- What the cursor's steps return, in plain Lean: each answers, within its bounds. Conditions: the bytes are bytes, the place is small. -/
namespace Go.Proofs.YtiipkjehlaenkaaDoor.Pure
open Go.RowKit Go.Proofs.YtiipkjehlaenkaaDoor.P Go.Proofs.YtiipkjehlaenkaaDoorW.PrintWords Go.Proofs.YtiipkjehlaenkaaDoorW.PrintLast

def Bytes (l : List Int) : Prop := ∀ x ∈ l, 0 ≤ x ∧ x ≤ 255
theorem bytes_of {l : List Int} (h : ∀ x ∈ l, (Lit.int .u8 x).wf = true) : Bytes l := fun x hx => by
  simpa [Lit.wf, IntKind.min, IntKind.max, IntKind.signed, IntKind.bits] using h x hx
theorem bytes_rd {l : List Int} (h : Bytes l) (i : Int) : 0 ≤ rd l i ∧ rd l i ≤ 255 := by
  unfold rd
  rw [List.getD_eq_getElem?_getD]
  cases e : l[i.toNat]? with
  | none => simp
  | some x => exact h x (List.mem_of_getElem? e)

theorem u64_range (x : Int) : 0 ≤ IntKind.u64.wrap x ∧ IntKind.u64.wrap x < 18446744073709551616 := by
  simp [IntKind.wrap, IntKind.bits, IntKind.signed]
  omega

theorem mask (x : Int) : 0 ≤ wrap64 (Go.bits .and .u64 (IntKind.u64.wrap x / 1099511627776) 255) ∧ wrap64 (Go.bits .and .u64 (IntKind.u64.wrap x / 1099511627776) 255) ≤ 255 := by
  have h := u64_range x
  generalize IntKind.u64.wrap x = y at h ⊢
  rw [u64_and _ _ (by omega) (by omega) (by omega) (by omega)]
  have hle : (y / 1099511627776).toNat &&& (255 : Int).toNat ≤ 255 := Nat.and_le_right
  unfold wrap64
  omega

/-- The place of the cursor. -/
def Cur (at_ : Int) (n : Nat) : Prop := 0 ≤ at_ ∧ at_ ≤ n

theorem next_some {l : List Int} (hl : Bytes l) {at_ sd : Int} {n : Nat} (hc : Cur at_ n) (hn : n < 4611686018427387904) :
    ∃ b at2 sd2, spec_l1Cur_next.f l at_ sd = some (b, at2, sd2) ∧ (0 ≤ b ∧ b ≤ 255) ∧ Cur at2 (n + 1) := by
  have hw : wrap64 (at_ + 1) = at_ + 1 := by have := hc.1; have := hc.2; unfold wrap64; omega
  have hc2 : Cur (at_ + 1) (n + 1) := ⟨by have := hc.1; omega, by have := hc.2; omega⟩
  have hb := bytes_rd hl at_
  have hb2 : wrap64 (rd l at_) = rd l at_ := by unfold wrap64; omega
  unfold spec_l1Cur_next.f
  rw [hw]
  by_cases h1 : at_ < (l.length : Int)
  · rw [if_pos h1, if_pos hc.1, if_pos (by omega)]
    exact ⟨_, _, _, rfl, by rw [hb2]; exact hb, hc2⟩
  · rw [if_neg h1]
    by_cases h2 : at_ + 1 ≤ (l.length : Int)
    · omega
    · rw [if_neg h2]
      exact ⟨_, _, _, rfl, mask _, hc2⟩

theorem pick_some {l : List Int} (hl : Bytes l) {at_ sd : Int} {n : Nat} (hc : Cur at_ n) (hn : n < 4611686018427387900) (m : Int) :
    ∃ x at2 sd2, spec_l1Cur_pick.f l at_ sd m = some (x, at2, sd2) ∧ (0 ≤ x ∧ (x = 0 ∨ x < m)) ∧ Cur at2 (n + 2) := by
  unfold spec_l1Cur_pick.f
  by_cases h1 : m ≤ 1
  · rw [if_pos h1]
    exact ⟨_, _, _, rfl, ⟨by omega, .inl rfl⟩, hc.1, by have := hc.2; omega⟩
  · rw [if_neg h1]
    obtain ⟨b, at2, sd2, e, hb, hc2⟩ := next_some hl hc (sd := sd) (by omega)
    rw [e]
    simp only [Option.bind_some]
    have hm0 : ¬ m = 0 := by omega
    by_cases h2 : m > 200
    · rw [if_pos h2]
      obtain ⟨b3, at3, sd3, e3, hb3, hc3⟩ := next_some hl hc2 (sd := sd2) (by omega)
      rw [e3]
      simp only [Option.bind_some]
      rw [if_neg hm0]
      have hw : wrap64 (wrap64 (b * 256) + b3) = b * 256 + b3 := by unfold wrap64; omega
      rw [hw, Int.tmod_eq_emod_of_nonneg (by omega)]
      exact ⟨_, _, _, rfl, ⟨Int.emod_nonneg _ hm0, .inr (Int.emod_lt_of_pos _ (by omega))⟩, hc3⟩
    · rw [if_neg h2, if_neg hm0, Int.tmod_eq_emod_of_nonneg hb.1]
      exact ⟨_, _, _, rfl, ⟨Int.emod_nonneg _ hm0, .inr (Int.emod_lt_of_pos _ (by omega))⟩, hc2.1, by have := hc2.2; omega⟩

end Go.Proofs.YtiipkjehlaenkaaDoor.Pure
