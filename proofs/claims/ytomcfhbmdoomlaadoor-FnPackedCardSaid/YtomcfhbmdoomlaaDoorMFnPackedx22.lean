/- FnPacked: part 23 of 28 of my texts for this claim, joined; the theorem stands in the last. Conditions: none beyond the statement's. -/
import Derived.Test.YtomcfhbmdoomlaaDoorMFnPackedx20
import Derived.Test.YtomcfhbmdoomlaaDoorMFnPackedx12
import Derived.Test.YtomcfhbmdoomlaaDoorMFnPackedx2
import Derived.Test.YtomcfhbmdoomlaaDoorMFnPackedx11
import Derived.Test.YtomcfhbmdoomlaaDoorMFnPackedx9
import Derived.Test.YtomcfhbmdoomlaaDoorMFnPackedx21
import Derived.Test.YtomcfhbmdoomlaaDoorMFnPackedx13
import Derived.Laws.BitsAllLaws
import Derived.Test.YtomcfhbmdoomlaaDoorMFnPackedx14
-- PureRead
/- What stands at a place of a text: the labels of a name, read with pointers; how impl.takeName and impl.putName answer to it. Conditions: the texts are short. -/
namespace Go.Proofs.YtomcfhbmdoomlaaDoor.Pure
open Go.RowKit Go.Proofs.YtomcfhbmdoomlaaDoor.P Go.Proofs.YtomcfhbmdoomlaaDoorW.PrintWords Go.Proofs.YtomcfhbmdoomlaaDoorW.PrintLast
set_option linter.unusedVariables false
set_option linter.unusedSimpArgs false
set_option linter.unusedSectionVars false

theorem Ev.unique {α : Type} {g : Nat → Option α} {r r' : α} (h : Ev g r) (h' : Ev g r') : r = r' := by
  obtain ⟨K, h⟩ := h
  obtain ⟨K', h'⟩ := h'
  have h1 := h (max K K') (by omega)
  rw [h' (max K K') (by omega)] at h1
  exact (Option.some.inj h1).symm

/-- At the place a stand the labels ls; pointers lead below le. pl: the places of the labels that stand there themselves; en: the place behind. -/
inductive Reads (t : ByteArray) : Nat → Nat → List ByteArray → List Int → Nat → Prop
  | fin (a le : Nat) (h : a < t.size) (h0 : byteAt t a = 0) : Reads t a le [] [] (a + 1)
  | ptr (a le : Nat) (ls : List ByteArray) (pl : List Int) (en : Nat) (h : a + 1 < t.size) (h0 : 192 ≤ byteAt t a) (hp : ptrOf t a < le) (hr : Reads t (ptrOf t a) (ptrOf t a) ls pl en) : Reads t a le ls [] (a + 2)
  | lab (a le : Nat) (ls : List ByteArray) (pl : List Int) (en : Nat) (h0 : 0 < byteAt t a) (h1 : byteAt t a < 64) (h2 : a + 1 + byteAt t a ≤ t.size) (hr : Reads t (a + 1 + byteAt t a) le ls pl en) :
      Reads t a le (mkB ((rawL t a).map lowB) :: ls) ((a : Int) :: pl) en

theorem Reads.more {t : ByteArray} {a le : Nat} {ls : List ByteArray} {pl : List Int} {en : Nat} (h : Reads t a le ls pl en) : ∀ le', le ≤ le' → Reads t a le' ls pl en := by
  induction h with
  | fin a le h h0 => exact fun le' _ => .fin a le' h h0
  | ptr a le ls pl en h h0 hp hr ih => exact fun le' hl => .ptr a le' ls pl en h h0 (by omega) hr
  | lab a le ls pl en h0 h1 h2 hr ih => exact fun le' hl => .lab a le' ls pl en h0 h1 h2 (ih le' hl)

theorem byteAt_app (b x : ByteArray) (a : Nat) (h : a < b.size) : byteAt (b ++ x) a = byteAt b a := by
  have h1 : a < b.data.toList.length := by rw [← size_len]; exact h
  have h2 : a < (b ++ x).data.toList.length := by rw [← size_len, ByteArray.size_append]; omega
  have e := bt_list b a h1
  have e2 := bt_list (b ++ x) a h2
  have e3 : (b ++ x).data.toList = b.data.toList ++ x.data.toList := by simp
  have e4 : (b ++ x).data.toList[a] = b.data.toList[a] := by
    simp only [e3]
    exact List.getElem_append_left h1
  unfold byteAt
  rw [e, e2, e4]
theorem rawL_app (b x : ByteArray) (a : Nat) (h : a + 1 + byteAt b a ≤ b.size) : rawL (b ++ x) a = rawL b a := by
  unfold rawL
  rw [byteAt_app b x a (by omega), show (b ++ x).data.toList = b.data.toList ++ x.data.toList by simp, List.drop_append_of_le_length (by rw [← size_len]; omega), List.take_append_of_le_length (by rw [List.length_drop, ← size_len]; omega)]
theorem ptrOf_app (b x : ByteArray) (a : Nat) (h : a + 1 < b.size) : ptrOf (b ++ x) a = ptrOf b a := by
  unfold ptrOf
  rw [byteAt_app b x a (by omega), byteAt_app b x (a + 1) h]
theorem Reads.app {b : ByteArray} {a le : Nat} {ls : List ByteArray} {pl : List Int} {en : Nat} (h : Reads b a le ls pl en) (x : ByteArray) : Reads (b ++ x) a le ls pl en := by
  induction h with
  | fin a le h h0 => exact .fin a le (by rw [ByteArray.size_append]; omega) (by rw [byteAt_app b x a h]; exact h0)
  | ptr a le ls pl en h h0 hp hr ih =>
    have e := ptrOf_app b x a h
    exact .ptr a le ls pl en (by rw [ByteArray.size_append]; omega) (by rw [byteAt_app b x a (by omega)]; exact h0) (by rw [e]; exact hp) (by rw [e]; exact ih)
  | lab a le ls pl en h0 h1 h2 hr ih =>
    have e := byteAt_app b x a (by omega)
    have e2 := rawL_app b x a h2
    have := Reads.lab (t := b ++ x) a le ls pl en (by rw [e]; exact h0) (by rw [e]; exact h1) (by rw [e, ByteArray.size_append]; omega) (by rw [e]; exact ih)
    rw [e2] at this
    exact this
theorem Reads.bound {t : ByteArray} {a le : Nat} {ls : List ByteArray} {pl : List Int} {en : Nat} (h : Reads t a le ls pl en) : a < en ∧ en ≤ t.size ∧ (∀ x ∈ pl, (a : Int) ≤ x ∧ x < (en : Int)) ∧ pl.length ≤ ls.length ∧ pl.Pairwise (· < ·) := by
  induction h with
  | fin a le h h0 => exact ⟨by omega, by omega, (fun x hx => by cases hx), Nat.le_refl _, .nil⟩
  | ptr a le ls pl en h h0 hp hr ih => exact ⟨by omega, by omega, (fun x hx => by cases hx), Nat.zero_le _, .nil⟩
  | lab a le ls pl en h0 h1 h2 hr ih =>
    obtain ⟨i1, i2, i3, i4, i5⟩ := ih
    refine ⟨by omega, i2, fun x hx => ?_, by simpa using i4, List.pairwise_cons.2 ⟨fun x hx => by have := i3 x hx; omega, i5⟩⟩
    rcases List.mem_cons.1 hx with rfl | hx
    · omega
    · have := i3 x hx; omega
/-- At each of its own places stands an end of the name. -/
theorem Reads.place {t : ByteArray} {a le : Nat} {ls : List ByteArray} {pl : List Int} {en : Nat} (h : Reads t a le ls pl en) : ∀ x ∈ pl, ∃ ls1 ls2 pl', ls = ls1 ++ ls2 ∧ Reads t x.toNat le ls2 pl' en := by
  induction h with
  | fin a le h h0 => exact fun x hx => by cases hx
  | ptr a le ls pl en h h0 hp hr ih => exact fun x hx => by cases hx
  | lab a le ls pl en h0 h1 h2 hr ih =>
    intro x hx
    rcases List.mem_cons.1 hx with rfl | hx
    · exact ⟨[], _, _, rfl, .lab a le ls pl en h0 h1 h2 hr⟩
    · obtain ⟨l1, l2, p', e, h'⟩ := ih x hx
      exact ⟨mkB ((rawL t a).map lowB) :: l1, l2, p', by rw [e]; rfl, h'⟩

section
variable (s : ByteArray) (hs : s.size ≤ 600)
include hs
theorem reads_take {a le : Nat} {ls : List ByteArray} {pl : List Int} {en : Nat} (h : Reads s a le ls pl en) : ∀ (L : List ByteArray) (p : List Int) (e : Int), L.length + ls.length ≤ 8 → p.length ≤ L.length →
    Ev (fun k => impl_takeName.l0 k s (a : Int) L p (le : Int) e) ((nameR (L ++ ls)).1, (if e < 0 then p ++ pl else p), (if e < 0 then (en : Int) else e), (nameR (L ++ ls)).2) := by
  induction h with
  | fin a le h h0 =>
    intro L p e hL hp
    have hi := impl_end s hs 0 a L p le e h (by simp at hL; omega) h0
    rw [List.append_nil, List.append_nil, ite_self]
    exact Ev.of (fun k => (impl_takeName.mono_l k).1 _ _ _ _ _ _) hi
  | ptr a le ls pl en h h0 hp' hr ih =>
    intro L p e hL hp
    have := ih L p (endOf e (a + 2)) hL hp
    have he : ¬ endOf e (a + 2) < 0 := by unfold endOf; split <;> omega
    rw [if_neg he, if_neg he] at this
    rw [List.append_nil, ite_self]
    have e2 : endOf e (a + 2) = if e < 0 then ((a + 2 : Nat) : Int) else e := rfl
    rw [e2] at this
    exact Ev.step (fun k => rfl) (Ev.step (g := fun k => impl_takeName.l0 (k + 1) s (a : Int) L p (le : Int) e) (fun k => (impl_ptr s hs k a L p le e (by omega) (by omega) h0 h).trans (if_neg (by omega))) this)
  | lab a le ls pl en h0 h1 h2 hr ih =>
    intro L p e hL hp
    rw [List.length_cons] at hL
    have := ih (L ++ [mkB ((rawL s a).map lowB)]) (plc e p a) e (by simp; omega) (by unfold plc; split <;> simp <;> omega)
    have ep : (if e < 0 then plc e p a ++ pl else plc e p a) = if e < 0 then p ++ (a : Int) :: pl else p := by
      unfold plc
      split
      · simp
      · rfl
    rw [ep, List.append_assoc] at this
    exact Ev.step (fun k => rfl) (Ev.step (fun k => rfl) (Ev.step (g := fun k => impl_takeName.l0 (k + 2) s (a : Int) L p (le : Int) e) (fun k => impl_lab s hs k a L p le e (by omega) (by omega) (by omega) h0 h1 h2) this))
theorem take_reads : ∀ (n a : Nat) (L : List ByteArray) (p : List Int) (le : Nat) (e : Int), le * 10 + (9 - L.length) ≤ n → L.length ≤ 9 → p.length ≤ L.length →
    (∃ ls pl en, Reads s a le ls pl en ∧ L.length + ls.length ≤ 8) ∨ ∃ r, Ev (fun k => impl_takeName.l0 k s (a : Int) L p (le : Int) e) r ∧ r.2.2.2 = false
  | n, a, L, p, le, e, hn, hL, hp => by
    by_cases ho : s.size ≤ a ∨ 8 < L.length
    · exact .inr ⟨failI, Ev.of (fun k => (impl_takeName.mono_l k).1 _ _ _ _ _ _) (impl_out s hs 0 a L p le e ho), rfl⟩
    · have h1 : a < s.size := by omega
      have h2 : L.length ≤ 8 := by omega
      by_cases v0 : byteAt s a = 0
      · exact .inl ⟨[], [], a + 1, .fin a le h1 v0, by simpa using h2⟩
      · by_cases v1 : 192 ≤ byteAt s a
        · by_cases h3 : a + 1 < s.size
          · by_cases hle : ((ptrOf s a : Nat) : Int) ≥ (le : Int)
            · exact .inr ⟨failI, Ev.of (fun k => (impl_takeName.mono_l k).1 _ _ _ _ _ _) ((impl_ptr s hs 0 a L p le e h1 h2 v1 h3).trans (if_pos hle)), rfl⟩
            · rcases take_reads (n - 10) (ptrOf s a) L p (ptrOf s a) (endOf e (a + 2)) (by omega) hL hp with ⟨ls, pl, en, g1, g2⟩ | ⟨r, g1, g2⟩
              · exact .inl ⟨ls, [], a + 2, .ptr a le ls pl en h3 v1 (by omega) g1, g2⟩
              · exact .inr ⟨r, Ev.step (fun k => rfl) (Ev.step (g := fun k => impl_takeName.l0 (k + 1) s (a : Int) L p (le : Int) e) (fun k => (impl_ptr s hs k a L p le e h1 h2 v1 h3).trans (if_neg hle)) g1), g2⟩
          · exact .inr ⟨failI, Ev.of (fun k => (impl_takeName.mono_l k).1 _ _ _ _ _ _) (impl_ptr_out s hs 0 a L p le e h1 h2 v1 (by omega)), rfl⟩
        · by_cases h3 : 64 ≤ byteAt s a ∨ s.size < a + 1 + byteAt s a
          · exact .inr ⟨failI, Ev.of (fun k => (impl_takeName.mono_l k).1 _ _ _ _ _ _) (impl_lab_out s hs 0 a L p le e h1 h2 (by omega) (by omega) h3), rfl⟩
          · rcases take_reads (n - 1) (a + 1 + byteAt s a) (L ++ [mkB ((rawL s a).map lowB)]) (plc e p a) le e (by simp; omega) (by simp; omega) (by unfold plc; split <;> simp <;> omega) with ⟨ls, pl, en, g1, g2⟩ | ⟨r, g1, g2⟩
            · exact .inl ⟨_, _, _, .lab a le ls pl en (by omega) (by omega) (by omega) g1, by simp at g2 ⊢; omega⟩
            · exact .inr ⟨r, Ev.step (fun k => rfl) (Ev.step (fun k => rfl) (Ev.step (g := fun k => impl_takeName.l0 (k + 2) s (a : Int) L p (le : Int) e) (fun k => impl_lab s hs k a L p le e h1 h2 (by omega) (by omega) (by omega) (by omega)) g1)), g2⟩
  termination_by n => n
  decreasing_by all_goals omega
/-- A name that is taken: what stands there. -/
theorem taken {k a : Nat} {t : ByteArray × List Int × Int × Bool} (h : impl_takeName.f k s (a : Int) = some t) (ht : t.2.2.2 = true) : ∃ ls pl en, Reads s a a ls pl en ∧ ls.length ≤ 8 ∧ nameR ls = (t.1, true) ∧ t.2.1 = pl ∧ t.2.2.1 = (en : Int) := by
  have hE : Ev (fun k => impl_takeName.l0 k s (a : Int) [] [] (a : Int) (-1)) t := Ev.of (fun k => (impl_takeName.mono_l k).1 _ _ _ _ _ _) (k := k) h
  rcases take_reads s hs (a * 10 + 9) a [] [] a (-1) (by simp) (by simp) (by simp) with ⟨ls, pl, en, g1, g2⟩ | ⟨r, g1, g2⟩
  · have g3 := reads_take s hs g1 [] [] (-1) g2 (by simp)
    have e := Ev.unique hE g3
    rw [if_pos (by decide), if_pos (by decide), List.nil_append, List.nil_append] at e
    refine ⟨ls, pl, en, g1, by simpa using g2, ?_, by rw [e], by rw [e]⟩
    rw [e] at ht ⊢
    exact Prod.ext rfl ht
  · rw [Ev.unique hE g1] at ht
    rw [ht] at g2
    cases g2
end

theorem label_dot {x : List UInt8} (h : isLabelL x = true) : ∀ y ∈ x, y ≠ 46 := by
  intro y hy e
  subst e
  unfold isLabelL at h
  simp only [Bool.or_eq_true, Bool.and_eq_true, beq_iff_eq, List.all_eq_true] at h
  rcases h with h | h
  · rw [h] at hy
    simp at hy
  · exact absurd (h.2 46 hy) (by decide)
theorem label_low {x : List UInt8} (h : isLabelL x = true) : x.map lowB = x := by
  have : ∀ y ∈ x, lowB y = y := by
    intro y hy
    unfold isLabelL at h
    simp only [Bool.or_eq_true, Bool.and_eq_true, beq_iff_eq, List.all_eq_true] at h
    rcases h with h | h
    · rw [h] at hy
      rw [List.mem_singleton.1 hy]
      decide
    · have hy := h.2 y hy
      unfold labelByte at hy
      simp only [Bool.or_eq_true, decide_eq_true_eq, beq_iff_eq] at hy
      unfold lowB
      rw [if_neg]
      rintro ⟨h1, h2⟩
      rcases hy with ((hy | hy) | rfl) | rfl
      · omega
      · omega
      · revert h1; decide
      · revert h2; decide
  rw [List.map_congr_left this, List.map_id']
theorem joinL_ne {ls : List ByteArray} (hne : ls ≠ []) (h : ∀ x ∈ ls, isLabelL x.data.toList = true) : splitL 46 (joinL ls) = ls.map (·.data.toList) := by
  unfold joinL
  refine split_join _ (by simpa using hne) fun x hx => ?_
  obtain ⟨z, hz, rfl⟩ := List.mem_map.1 hx
  exact label_dot (h z hz)
theorem label_pos {x : List UInt8} (h : isLabelL x = true) : 1 ≤ x.length := by
  unfold isLabelL at h
  simp only [Bool.or_eq_true, Bool.and_eq_true, beq_iff_eq, decide_eq_true_eq] at h
  rcases h with h | h
  · rw [h]; simp
  · exact h.1.1
/-- A name from its labels. -/
theorem labels_back {ls : List ByteArray} {s : ByteArray} (h : nameR ls = (s, true)) : goodL s.data.toList = true ∧ ls = (labelsL s.data.toList).map mkB := by
  unfold nameR at h
  by_cases h1 : (decide (ls.length ≤ 8) && ls.all fun x => isLabelL x.data.toList) = true
  · rw [if_pos h1] at h
    by_cases h2 : goodL (joinL ls) = true
    · rw [if_pos h2] at h
      obtain ⟨rfl, _⟩ := Prod.mk.inj h
      rw [mkB_data]
      refine ⟨h2, ?_⟩
      simp only [Bool.and_eq_true, List.all_eq_true] at h1
      cases ls with
      | nil => rfl
      | cons x r =>
        have hs := joinL_ne (ls := x :: r) (by simp) h1.2
        have hne : joinL (x :: r) ≠ [] := by
          intro e
          have h3 := congrArg List.length e
          unfold joinL at h3
          rw [List.map_cons, Lib.join_cons, List.length_append] at h3
          have := label_pos (h1.2 x List.mem_cons_self)
          rw [List.length_nil] at h3
          omega
        unfold labelsL
        rw [if_neg hne, hs, List.map_map]
        have : (mkB ∘ fun x : ByteArray => x.data.toList) = id := by funext z; exact data_mkB z
        rw [this, List.map_id]
    · rw [if_neg h2] at h
      cases (Prod.mk.inj h).2
  · rw [if_neg h1] at h
    cases (Prod.mk.inj h).2
theorem good_all {s : List UInt8} (h : goodL s = true) : (labelsL s).length ≤ 8 ∧ ∀ x ∈ labelsL s, isLabelL x = true := by
  unfold goodL at h
  simp only [Bool.and_eq_true, decide_eq_true_eq, List.all_eq_true] at h
  exact h.2
theorem join_split (s : List UInt8) : Lib.join (splitL 46 s) [46] = s := by
  have : ∀ n (s : List UInt8), s.length ≤ n → Lib.join (splitL 46 s) [46] = s := by
    intro n
    induction n with
    | zero =>
      intro s hs
      obtain rfl : s = [] := List.length_eq_zero_iff.1 (by omega)
      rfl
    | succ n ih =>
      intro s hs
      rcases place_or 46 s with ⟨_, h2⟩ | ⟨p, r, h1, h2, h3⟩
      · rw [splitL_none _ _ h2]
        rw [Lib.join_cons]
        simp [Lib.joinTail]
      · rw [h1, splitL_hit 46 p r h2]
        obtain ⟨q, qs, hq⟩ := List.exists_cons_of_ne_nil (splitL_ne 46 r)
        have := ih r (by rw [h1] at hs; simp at hs; omega)
        rw [hq] at this ⊢
        rw [Lib.join_cons, tail_cons, ← Lib.join_cons, this]
  exact this s.length s (Nat.le_refl _)
/-- A good name's labels give it back. -/
theorem name_back {s : ByteArray} (h : goodL s.data.toList = true) : nameR ((labelsL s.data.toList).map mkB) = (s, true) := by
  obtain ⟨h1, h2⟩ := good_all h
  have hj : joinL ((labelsL s.data.toList).map mkB) = s.data.toList := by
    unfold joinL
    rw [List.map_map]
    have : ((fun x : ByteArray => x.data.toList) ∘ mkB) = id := by funext z; exact mkB_data z
    rw [this, List.map_id]
    unfold labelsL
    split
    · next e => rw [e]; rfl
    · exact join_split _
  unfold nameR
  rw [if_pos, hj, if_pos h, data_mkB]
  simp only [Bool.and_eq_true, decide_eq_true_eq, List.all_eq_true, List.length_map]
  refine ⟨h1, fun x hx => ?_⟩
  obtain ⟨z, hz, rfl⟩ := List.mem_map.1 hx
  rw [mkB_data]
  exact h2 z hz
theorem cut_first' (s : ByteArray) (hs : s.size < 4611686018427387904) : ∃ q2 q3, strings_Cut.f s (⟨#[46]⟩ : ByteArray) = some (mkB ((splitL 46 s.data.toList).headD []), q2, q3) := by
  unfold strings_Cut.f stringslite_Cut.f internal_stringslite_Index.f
  rw [if_pos (show (⟨#[46]⟩ : ByteArray).size = 1 from rfl)]
  simp only [Option.bind_some]
  rw [show List.headD (⟨#[46]⟩ : ByteArray).data.toList 0 = 46 from rfl, show (⟨#[46]⟩ : ByteArray).size = 1 from rfl]
  rcases place_or 46 s.data.toList with ⟨h1, h2⟩ | ⟨p, r, h1, h2, h3⟩
  · rw [h1, if_neg (by omega), splitL_none _ _ h2]
    exact ⟨_, _, by show some (s, _, _) = some (mkB s.data.toList, _, _); rw [data_mkB]⟩
  · have hl : p.length + (r.length + 1) = s.size := by rw [size_len, h1]; simp
    rw [h3, show (((1 : Nat) : Int)) = 1 from rfl, w64n (by omega), if_pos (by omega), if_pos (by omega), if_pos (by omega), if_pos (by omega), if_pos (by omega), Int.toNat_natCast, Int.toNat_natCast, ext_mkB]
    refine ⟨s.extract (p.length + 1) s.size, true, ?_⟩
    have e : (s.data.toList.drop 0).take (p.length - 0) = (splitL 46 s.data.toList).headD [] := by
      rw [h1, splitL_hit 46 p r h2]
      simp
    rw [e]
    rfl
theorem ptr_hi (q : Nat) (h : q < 600) : wrap64 (192 + wrap64 (Int.tdiv (q : Int) 256)) % 256 = ((192 + q / 256 : Nat) : Int) := by
  rw [Int.tdiv_eq_ediv_of_nonneg (by omega)]
  have h1 : wrap64 ((q : Int) / 256) = ((q / 256 : Nat) : Int) := by unfold wrap64; omega
  rw [h1]
  have h2 : wrap64 (192 + ((q / 256 : Nat) : Int)) = ((192 + q / 256 : Nat) : Int) := by unfold wrap64; omega
  rw [h2]
  omega
theorem byteAt_behind (x y : ByteArray) (n i : Nat) (hn : x.size = n) (hi : i < y.data.toList.length) : byteAt (x ++ y) (n + i) = (y.data.toList[i]).toNat := by
  subst hn
  have hl0 : (x ++ y).data.toList = x.data.toList ++ y.data.toList := by simp
  have e2 : x.size + i < (x ++ y).data.toList.length := by rw [hl0, List.length_append, ← size_len]; omega
  unfold byteAt
  rw [bt_list _ _ e2, Int.toNat_natCast]
  have e4 : (x ++ y).data.toList[x.size + i] = y.data.toList[i] := by
    simp only [hl0]
    rw [List.getElem_append_right (by rw [← size_len]; omega)]
    congr 1
    rw [← size_len]
    omega
  rw [e4]
theorem put_hit (b ahead rest : ByteArray) (hb : b.size ≤ 600) (q : Nat) (hq : q < b.size) (hpos : 0 < rest.size) (ls : List ByteArray) (pl : List Int) (en : Nat) (g1 : Reads b q q ls pl en) :
    ∃ y pl', (b ++ ahead) ++ strOfNums [wrap64 (192 + wrap64 (Int.tdiv (q : Int) 256)) % 256, (q : Int) % 256] = (b ++ ahead) ++ y ∧ Reads ((b ++ ahead) ++ strOfNums [wrap64 (192 + wrap64 (Int.tdiv (q : Int) 256)) % 256, (q : Int) % 256]) (b.size + ahead.size) b.size ls pl' ((b ++ ahead) ++ strOfNums [wrap64 (192 + wrap64 (Int.tdiv (q : Int) 256)) % 256, (q : Int) % 256]).size ∧ y.size ≤ rest.size + (if rest.size = 0 then 1 else 2) := by
  have ew2 : (q : Int) % 256 = ((q % 256 : Nat) : Int) := by omega
  rw [ptr_hi q (by omega), ew2]
  have hy2 : (strOfNums [((192 + q / 256 : Nat) : Int), ((q % 256 : Nat) : Int)]).data.toList = [UInt8.ofNat (192 + q / 256), UInt8.ofNat (q % 256)] := by
    rw [strOfNums_data]
    simp only [List.map_cons, List.map_nil, Int.toNat_natCast]
  have hys : (strOfNums [((192 + q / 256 : Nat) : Int), ((q % 256 : Nat) : Int)]).size = 2 := by rw [strOfNums_size]; rfl
  generalize strOfNums [((192 + q / 256 : Nat) : Int), ((q % 256 : Nat) : Int)] = y at hy2 hys
  have hsz : ((b ++ ahead) ++ y).size = b.size + ahead.size + 2 := by rw [ByteArray.size_append, ByteArray.size_append, hys]
  have h0 := byteAt_behind (b ++ ahead) y (b.size + ahead.size) 0 ByteArray.size_append (by rw [hy2]; simp)
  have h1 := byteAt_behind (b ++ ahead) y (b.size + ahead.size) 1 ByteArray.size_append (by rw [hy2]; simp)
  simp only [hy2, List.getElem_cons_zero, List.getElem_cons_succ, UInt8.toNat_ofNat', Nat.add_zero] at h0 h1
  have hb0 : byteAt ((b ++ ahead) ++ y) (b.size + ahead.size) = 192 + q / 256 := by rw [h0]; omega
  have hb1 : byteAt ((b ++ ahead) ++ y) (b.size + ahead.size + 1) = q % 256 := by rw [h1]; omega
  have hptr : ptrOf ((b ++ ahead) ++ y) (b.size + ahead.size) = q := by
    unfold ptrOf
    rw [hb0, hb1]
    omega
  refine ⟨y, [], rfl, ?_, ?_⟩
  · rw [hsz]
    have g5 := g1.app (ahead ++ y)
    rw [← ByteArray.append_assoc] at g5
    exact .ptr _ _ _ pl en (by omega) (by omega) (by rw [hptr]; omega) (by rw [hptr]; exact g5)
  · rw [hys, if_neg (by omega)]; omega
set_option maxHeartbeats 2000000 in
/-- What PutName's loop lays behind a text: the name stands there. -/
theorem put_reads (b : ByteArray) (hb : b.size ≤ 600) (places : List Int) (hr : ∀ x ∈ places, 0 ≤ x ∧ x < (b.size : Int)) : ∀ (k : Nat) (ahead rest r : ByteArray), impl_putName.l0 k b places ahead rest = some r → goodL rest.data.toList = true →
    ∃ y pl, r = (b ++ ahead) ++ y ∧ Reads r (b.size + ahead.size) b.size ((labelsL rest.data.toList).map mkB) pl r.size ∧ y.size ≤ rest.size + (if rest.size = 0 then 1 else 2) := by
  intro k
  induction k with
  | zero => intro ahead rest r h; simp [impl_putName.l0] at h
  | succ k ih =>
    intro ahead rest r h hg
    unfold impl_putName.l0 at h
    by_cases c1 : rest.toList = ([] : List UInt8)
    · rw [if_pos c1] at h
      by_cases c2 : b.size + ahead.size < 1099511627776
      · rw [if_pos c2] at h
        obtain rfl := Option.some.inj h
        have e0 : rest.data.toList = [] := by rw [← Lib.toList_data]; exact c1
        have hz : rest.size = 0 := by rw [size_len, e0]; rfl
        have hsz : ((b ++ ahead) ++ (⟨#[0]⟩ : ByteArray)).size = b.size + ahead.size + 1 := by rw [ByteArray.size_append, ByteArray.size_append]; rfl
        refine ⟨(⟨#[0]⟩ : ByteArray), [], rfl, ?_, ?_⟩
        · rw [hsz, e0]
          refine .fin _ _ (by omega) ?_
          have e2 : b.size + ahead.size < ((b ++ ahead) ++ (⟨#[0]⟩ : ByteArray)).data.toList.length := by rw [← size_len]; omega
          unfold byteAt
          rw [bt_list _ _ e2]
          have e3 : ((b ++ ahead) ++ (⟨#[0]⟩ : ByteArray)).data.toList = (b ++ ahead).data.toList ++ [0] := by simp
          have e4 : ((b ++ ahead) ++ (⟨#[0]⟩ : ByteArray)).data.toList[b.size + ahead.size] = 0 := by
            simp only [e3]
            rw [List.getElem_append_right (by rw [← size_len, ByteArray.size_append]; omega)]
            simp
          rw [e4]
          rfl
        · rw [hz]; exact Nat.le_refl _
      · rw [if_neg c2] at h; cases h
    · rw [if_neg c1] at h
      have hne : rest.data.toList ≠ [] := by rw [← Lib.toList_data]; exact c1
      have hpos : 0 < rest.size := by rw [size_len]; exact List.length_pos_iff.2 hne
      by_cases c2 : putDef k b places = true
      · rw [if_pos c2] at h
        by_cases c3 : 0 ≤ idxP (putP k b rest) places 0
        · rw [if_pos c3] at h
          by_cases c4 : b.size + ahead.size < 1099511627776
          · rw [if_pos c4] at h
            obtain rfl := Option.some.inj h
            have hil := idxP_lt (putP k b rest) places
            have hx : ∃ x ∈ places, rd places (idxP (putP k b rest) places 0) = x ∧ putP k b rest x = true := by
              have : ∀ (xs : List Int) (i : Int), 0 ≤ i → 0 ≤ idxP (putP k b rest) xs i → i ≤ idxP (putP k b rest) xs i ∧ ∃ h : (idxP (putP k b rest) xs i - i).toNat < xs.length, putP k b rest (xs[(idxP (putP k b rest) xs i - i).toNat]) = true := by
                intro xs
                induction xs with
                | nil => intro i hi h0; simp [idxP] at h0
                | cons x r ih2 =>
                  intro i hi h0
                  unfold idxP at h0 ⊢
                  by_cases hq : putP k b rest x = true
                  · simp only [if_pos hq] at h0 ⊢
                    refine ⟨Int.le_refl _, by simp, ?_⟩
                    simpa using hq
                  · simp only [if_neg hq] at h0 ⊢
                    obtain ⟨j1, j2, j3⟩ := ih2 (i + 1) (by omega) h0
                    have e : (idxP (putP k b rest) r (i + 1) - i).toNat = (idxP (putP k b rest) r (i + 1) - (i + 1)).toNat + 1 := by omega
                    refine ⟨by omega, by rw [e, List.length_cons]; omega, ?_⟩
                    simp only [e, List.getElem_cons_succ]
                    exact j3
              obtain ⟨_, j2, j3⟩ := this places 0 (by omega) c3
              rw [Int.sub_zero] at j2
              have e3 : putP k b rest (places[(idxP (putP k b rest) places 0).toNat]'j2) = true := by
                have := j3
                simp only [Int.sub_zero] at this
                exact this
              refine ⟨_, List.getElem_mem j2, ?_, e3⟩
              unfold rd
              rw [List.getD_eq_getElem?_getD, List.getElem?_eq_getElem j2]
              rfl
            obtain ⟨x, hxm, hxr, hxp⟩ := hx
            rw [hxr]
            obtain ⟨hx0, hx1⟩ := hr x hxm
            obtain ⟨q, rfl⟩ : ∃ q : Nat, x = (q : Int) := ⟨x.toNat, by omega⟩
            have hty := List.all_eq_true.1 c2 (q : Int) hxm
            obtain ⟨t, ht⟩ := Option.isSome_iff_exists.1 hty
            unfold putP at hxp
            rw [ht] at hxp
            simp only [Bool.and_eq_true, beq_iff_eq] at hxp
            obtain ⟨ls, pl, en, g1, g2, g3, _, _⟩ := taken b hb ht hxp.1
            have e1 : t.1 = rest := ext_data (by rw [← Lib.toList_data, ← Lib.toList_data]; exact hxp.2)
            rw [e1] at g3
            obtain ⟨_, g4⟩ := labels_back g3
            rw [g4] at g1
            exact put_hit b ahead rest hb q (by omega) hpos _ _ _ g1
          · rw [if_neg c4] at h; cases h
        · rw [if_neg c3] at h
          obtain ⟨c, hc, h⟩ := Option.bind_eq_some_iff.mp h
          obtain ⟨q2, q3, hcut⟩ := cut_first' rest (by have := good_size hg; rw [← size_len] at this; omega)
          rw [hcut] at hc
          obtain rfl := Option.some.inj hc
          simp only at h
          by_cases c4 : ahead.size + (mkB ((splitL 46 rest.data.toList).headD [])).size < 1099511627776
          · rw [if_pos c4] at h
            obtain ⟨par, hpar, h⟩ := Option.bind_eq_some_iff.mp h
            rw [implParent_eq rest (by have := good_size hg; rw [← size_len] at this; omega)] at hpar
            obtain rfl := Option.some.inj hpar
            have hsp : labelsL rest.data.toList = splitL 46 rest.data.toList := by unfold labelsL; rw [if_neg hne]
            have hgl := good_all hg
            rw [hsp] at hgl
            -- the first label, and what is behind
            have hcons : ∃ p, splitL 46 rest.data.toList = p :: labelsL (parL rest.data.toList) ∧ rest.size = p.length + (if parL rest.data.toList = [] then 0 else (parL rest.data.toList).length + 1) := by
              rcases place_or 46 rest.data.toList with ⟨_, h1⟩ | ⟨p, r, h1, h2, _⟩
              · refine ⟨rest.data.toList, ?_, ?_⟩
                · rw [parL_none _ h1, splitL_none _ _ h1]; rfl
                · rw [parL_none _ h1, if_pos rfl, size_len]; omega
              · have hpr : parL rest.data.toList = r := by rw [h1]; exact parL_hit p r h2
                have hsl : splitL 46 rest.data.toList = p :: splitL 46 r := by rw [h1]; exact splitL_hit 46 p r h2
                have hrn : r ≠ [] := by
                  rintro rfl
                  have := hgl.2 [] (by rw [hsl]; simp [splitL])
                  revert this
                  decide
                refine ⟨p, ?_, ?_⟩
                · rw [hsl, hpr]; unfold labelsL; rw [if_neg hrn]
                · rw [hpr, if_neg hrn, size_len, h1]; simp
            obtain ⟨p, hp, hsz0⟩ := hcons
            rw [hp] at h c4 hgl
            simp only [List.headD_cons] at h c4
            have hpl := hgl.2 p List.mem_cons_self
            have hp1 := label_pos hpl
            have hp2 := label_size hpl
            have hgp : goodL (parL rest.data.toList) = true := by
              have hps := good_size hg
              unfold goodL
              simp only [Bool.and_eq_true, decide_eq_true_eq, List.all_eq_true]
              have := parL_len rest.data.toList
              rw [List.length_cons] at hgl
              exact ⟨by omega, by omega, fun z hz => hgl.2 z (List.mem_cons_of_mem _ hz)⟩
            have hl1 : strOfNums [((mkB p).size : Int) % 256] = mkB [UInt8.ofNat p.length] := by
              refine ext_data ?_
              rw [strOfNums_data, mkB_data, mkB_size]
              simp only [List.map_cons, List.map_nil]
              rw [show ((p.length : Int) % 256).toNat = p.length by omega]
            rw [hl1] at h
            obtain ⟨y, pl, g1, g2, g3⟩ := ih (ahead ++ (mkB [UInt8.ofNat p.length] ++ mkB p)) (mkB (parL rest.data.toList)) r h (by rw [mkB_data]; exact hgp)
            rw [mkB_data] at g2
            have hasz : (ahead ++ (mkB [UInt8.ofNat p.length] ++ mkB p)).size = ahead.size + (1 + p.length) := by rw [ByteArray.size_append, ByteArray.size_append, mkB_size, mkB_size]; rfl
            rw [hasz] at g2
            have hrl : r.data.toList = (b ++ ahead).data.toList ++ (UInt8.ofNat p.length :: (p ++ y.data.toList)) := by
              rw [g1]
              simp [mkB]
            have hlen : (b ++ ahead).data.toList.length = b.size + ahead.size := by rw [← size_len, ByteArray.size_append]
            have hrs : r.size = b.size + ahead.size + (1 + (p.length + y.size)) := by
              rw [size_len, hrl, List.length_append, hlen, List.length_cons, List.length_append, ← size_len]; omega
            have hb0 : byteAt r (b.size + ahead.size) = p.length := by
              have e2 : b.size + ahead.size < r.data.toList.length := by rw [← size_len]; omega
              unfold byteAt
              rw [bt_list _ _ e2]
              have e4 : r.data.toList[b.size + ahead.size] = UInt8.ofNat p.length := by
                simp only [hrl]
                rw [List.getElem_append_right (by omega)]
                simp [hlen]
              rw [e4, Int.toNat_natCast, UInt8.toNat_ofNat']
              omega
            have hraw : rawL r (b.size + ahead.size) = p := by
              unfold rawL
              rw [hb0, hrl, show b.size + ahead.size + 1 = (b ++ ahead).data.toList.length + 1 by omega, List.drop_append]
              rw [List.drop_of_length_le (by omega), List.nil_append, Nat.add_sub_cancel_left, List.drop_one, List.tail_cons, List.take_append_of_le_length (Nat.le_refl _), List.take_length]
            refine ⟨mkB [UInt8.ofNat p.length] ++ mkB p ++ y, ((b.size + ahead.size : Nat) : Int) :: pl, ?_, ?_, ?_⟩
            · rw [g1]
              simp only [ByteArray.append_assoc]
            · rw [hsp, hp, List.map_cons]
              have := Reads.lab (t := r) (b.size + ahead.size) b.size _ pl r.size (by omega) (by omega) (by omega) (by rw [hb0, show b.size + ahead.size + 1 + p.length = b.size + (ahead.size + (1 + p.length)) by omega]; exact g2)
              rw [hraw, label_low hpl] at this
              exact this
            · rw [ByteArray.size_append, ByteArray.size_append, mkB_size, mkB_size, if_neg (by omega)]
              rw [mkB_size] at g3
              rw [List.length_singleton]
              by_cases hpn : parL rest.data.toList = []
              · rw [if_pos hpn] at hsz0
                rw [hpn] at g3
                simp at g3
                omega
              · rw [if_neg hpn] at hsz0
                have : 0 < (parL rest.data.toList).length := List.length_pos_iff.2 hpn
                rw [if_neg (by omega)] at g3
                omega
          · rw [if_neg c4] at h; cases h
      · rw [if_neg c2] at h; cases h
end Go.Proofs.YtomcfhbmdoomlaaDoor.Pure

-- F14
-- By my own call of the kit's print (wip/tools/pp.py).
namespace Go.Proofs.YtomcfhbmdoomlaaDoor.P
open Go.RowKit Go.Proofs.YtomcfhbmdoomlaaDoorW.PrintWords Go.Proofs.YtomcfhbmdoomlaaDoorW.PrintLast Go.Proofs.YtomcfhbmdoomlaaDoorW.PrintMore
attribute [local go_sem] max2_int min2_int max_two min_two max_three min_three max_four min_four
set_option linter.unusedVariables false
set_option linter.unusedSimpArgs false

/-! ### impl_SuffixesOf: function 14 -/
def impl_SuffixesOf.f (k : Nat) (a0 : ByteArray) : Option (List Int × Bool) := if (a0.size : Int) > 600 then (some (([] : List Int), false)) else ((impl_suffixesOf.f k a0).bind fun t202 => (some (t202, true)))
theorem impl_SuffixesOf.mono : ∀ a0 k, LeO (impl_SuffixesOf.f k a0) (impl_SuffixesOf.f (k + 1) a0) := by
  intro a0 k
  unfold impl_SuffixesOf.f
  repeat' first
      | (with_reducible exact impl_suffixesOf.mono _ _)
      | (with_reducible exact LeO.refl _)
      | (with_reducible exact LeO.none _)
      | (with_reducible refine LeO.ite ?_ ?_)
      | (with_reducible refine LeO.bind ?_ (fun _ => ?_))
      | exact impl_suffixesOf.mono _ _
      | exact LeO.none _
      | refine LeO.ite ?_ ?_
      | refine LeO.bind ?_ (fun _ => ?_)
set_option maxHeartbeats 8000000 in
set_option maxRecDepth 100000 in
theorem impl_SuffixesOf.calls (k : Nat) (a0 : ByteArray) (r1 : List Int) (r2 : Bool) (w : World) (h : impl_SuffixesOf.f k a0 = some (r1, r2)) :
    Calls Tryd.prog 14 #[.string a0] w fun e w' => ∃ v0_ : Value, e = .returned (.tuple #[v0_, .bool r2]) ∧ Kd.R (Kd.int .i64) 3 w' w.heap.size (fun _ => True) v0_ r1 ∧ Below w.heap.size w w' := by
  have HB := Aside0.mk (Below.refl w.heap.size w)
  have H : (if (a0.size : Int) > 600 then (some (([] : List Int), false)) else ((impl_suffixesOf.f k a0).bind fun t202 => (some (t202, true)))) = some (r1, r2) := h
  clear h
  by_cases c2 : (a0.size : Int) > 600
  · rw [if_pos c2] at H
    have c2b0 : decide (600 < (a0.size : Int)) = true := decide_eq_true c2
    have c2b1 : decide (600 < a0.size) = true := decide_eq_true (by omega)
    clear c2
    simp only [Option.some.injEq, Prod.mk.injEq] at H
    obtain ⟨rfl, rfl⟩ := H
    go_enter Tryd.func14, Tryd.ntmps14
    go_wp2
    go_ret2
    exact ⟨_, by first | rfl | (simp [errW_none, errW_some] <;> rfl) | (simp [*, errW_none, errW_some] <;> rfl), by first | exact Kd.R_nil _ _ _ _ _ | exact Kd.N_nil _ _ _ _ _ | exact Kd.V_nil _ _ _ _ _ | exact Kd.Q_nil _ _ _ _ _ | exact Kd.S_nil _ _ _ _ _, by repeat (first | (with_reducible first | exact HB.out | apply below_alloc | apply pw_below_drewN | apply below_drew1) | exact HB.out)⟩
  · rw [if_neg c2] at H
    have c2b0 : decide (600 < (a0.size : Int)) = false := decide_eq_false c2
    have c2b1 : decide (600 < a0.size) = false := decide_eq_false (by omega)
    clear c2
    replace H := Option.bind_eq_some_iff.mp H
    obtain ⟨t202, A30, H⟩ := H
    replace H : (some (t202, true)) = some (r1, r2) := H
    have A3 := Aside0.mk A30
    clear A30
    simp only [Option.some.injEq, Prod.mk.injEq] at H
    obtain ⟨rfl, rfl⟩ := H
    go_enter Tryd.func14, Tryd.ntmps14
    go_wp2_with (first | ((with_reducible refine gate_callee (f := 44) rfl ?_); refine goesL_ (some 8) rfl rfl Tryd.func44 (by kernel_rfl) rfl #[.string a0] rfl (by (try simp only [List.map_toArray, List.map_cons, List.map_nil]); first | done | rfl | (simp only [List.length_drop, List.length_take]; rfl)) ?_; (with_reducible refine (impl_suffixesOf.calls k a0 t202 _ A3.out).mono ?_); rintro e w4 ⟨v203, rfl, ho0, hb⟩; refine ⟨_, rfl, ?_⟩; have n0_ := Aside0.mk (Kd.R_lower ho0 (below_size (by repeat (first | (with_reducible first | exact HB.out | apply below_alloc | apply pw_below_drewN | apply below_drew1) | exact HB.out)))); have n1_ := Aside0.mk (below_step (by repeat (first | (with_reducible first | exact HB.out | apply below_alloc | apply pw_below_drewN | apply below_drew1) | exact HB.out)) hb); clear HB; have HO204 := n0_; have HB := n1_; clear n0_ n1_; (try clear hb); (try clear hb2); (try clear hk); (try clear hi); (try clear ho0)))
    go_ret2
    exact ⟨_, by first | rfl | (simp [errW_none, errW_some] <;> rfl) | (simp [*, errW_none, errW_some] <;> rfl), by (with_reducible repeat (first | apply Kd.R_alloc | apply Kd.R_drewN | apply Kd.R_drew)); exact HO204.out, by repeat (first | (with_reducible first | exact HB.out | apply below_alloc | apply pw_below_drewN | apply below_drew1) | exact HB.out)⟩

end Go.Proofs.YtomcfhbmdoomlaaDoor.P

-- F13
-- By my own call of the kit's print (wip/tools/pp.py).
namespace Go.Proofs.YtomcfhbmdoomlaaDoor.P
open Go.RowKit Go.Proofs.YtomcfhbmdoomlaaDoorW.PrintWords Go.Proofs.YtomcfhbmdoomlaaDoorW.PrintLast Go.Proofs.YtomcfhbmdoomlaaDoorW.PrintMore
attribute [local go_sem] max2_int min2_int max_two min_two max_three min_three max_four min_four
set_option linter.unusedVariables false
set_option linter.unusedSimpArgs false

/-! ### spec_SuffixesOf: function 13 -/
def spec_SuffixesOf.f (k : Nat) (a0 : ByteArray) : Option (List Int × Bool) := if (a0.size : Int) > 600 then (some (([] : List Int), false)) else ((spec_l2Suffixes.f k a0).bind fun t187 => (some (t187, true)))
theorem spec_SuffixesOf.mono : ∀ a0 k, LeO (spec_SuffixesOf.f k a0) (spec_SuffixesOf.f (k + 1) a0) := by
  intro a0 k
  unfold spec_SuffixesOf.f
  repeat' first
      | (with_reducible exact spec_l2Suffixes.mono _ _)
      | (with_reducible exact LeO.refl _)
      | (with_reducible exact LeO.none _)
      | (with_reducible refine LeO.ite ?_ ?_)
      | (with_reducible refine LeO.bind ?_ (fun _ => ?_))
      | exact spec_l2Suffixes.mono _ _
      | exact LeO.none _
      | refine LeO.ite ?_ ?_
      | refine LeO.bind ?_ (fun _ => ?_)
set_option maxHeartbeats 8000000 in
set_option maxRecDepth 100000 in
theorem spec_SuffixesOf.calls (k : Nat) (a0 : ByteArray) (r1 : List Int) (r2 : Bool) (w : World) (h : spec_SuffixesOf.f k a0 = some (r1, r2)) :
    Calls Tryd.prog 13 #[.string a0] w fun e w' => ∃ v0_ : Value, e = .returned (.tuple #[v0_, .bool r2]) ∧ Kd.R (Kd.int .i64) 3 w' w.heap.size (fun _ => True) v0_ r1 ∧ Below w.heap.size w w' := by
  have HB := Aside0.mk (Below.refl w.heap.size w)
  have H : (if (a0.size : Int) > 600 then (some (([] : List Int), false)) else ((spec_l2Suffixes.f k a0).bind fun t187 => (some (t187, true)))) = some (r1, r2) := h
  clear h
  by_cases c2 : (a0.size : Int) > 600
  · rw [if_pos c2] at H
    have c2b0 : decide (600 < (a0.size : Int)) = true := decide_eq_true c2
    have c2b1 : decide (600 < a0.size) = true := decide_eq_true (by omega)
    clear c2
    simp only [Option.some.injEq, Prod.mk.injEq] at H
    obtain ⟨rfl, rfl⟩ := H
    go_enter Tryd.func13, Tryd.ntmps13
    go_wp2
    go_ret2
    exact ⟨_, by first | rfl | (simp [errW_none, errW_some] <;> rfl) | (simp [*, errW_none, errW_some] <;> rfl), by first | exact Kd.R_nil _ _ _ _ _ | exact Kd.N_nil _ _ _ _ _ | exact Kd.V_nil _ _ _ _ _ | exact Kd.Q_nil _ _ _ _ _ | exact Kd.S_nil _ _ _ _ _, by repeat (first | (with_reducible first | exact HB.out | apply below_alloc | apply pw_below_drewN | apply below_drew1) | exact HB.out)⟩
  · rw [if_neg c2] at H
    have c2b0 : decide (600 < (a0.size : Int)) = false := decide_eq_false c2
    have c2b1 : decide (600 < a0.size) = false := decide_eq_false (by omega)
    clear c2
    replace H := Option.bind_eq_some_iff.mp H
    obtain ⟨t187, A30, H⟩ := H
    replace H : (some (t187, true)) = some (r1, r2) := H
    have A3 := Aside0.mk A30
    clear A30
    simp only [Option.some.injEq, Prod.mk.injEq] at H
    obtain ⟨rfl, rfl⟩ := H
    go_enter Tryd.func13, Tryd.ntmps13
    go_wp2_with (first | ((with_reducible refine gate_callee (f := 43) rfl ?_); refine goesL_ (some 8) rfl rfl Tryd.func43 (by kernel_rfl) rfl #[.string a0] rfl (by (try simp only [List.map_toArray, List.map_cons, List.map_nil]); first | done | rfl | (simp only [List.length_drop, List.length_take]; rfl)) ?_; (with_reducible refine (spec_l2Suffixes.calls k a0 t187 _ A3.out).mono ?_); rintro e w4 ⟨v188, rfl, ho0, hb⟩; refine ⟨_, rfl, ?_⟩; have n0_ := Aside0.mk (Kd.R_lower ho0 (below_size (by repeat (first | (with_reducible first | exact HB.out | apply below_alloc | apply pw_below_drewN | apply below_drew1) | exact HB.out)))); have n1_ := Aside0.mk (below_step (by repeat (first | (with_reducible first | exact HB.out | apply below_alloc | apply pw_below_drewN | apply below_drew1) | exact HB.out)) hb); clear HB; have HO189 := n0_; have HB := n1_; clear n0_ n1_; (try clear hb); (try clear hb2); (try clear hk); (try clear hi); (try clear ho0)))
    go_ret2
    exact ⟨_, by first | rfl | (simp [errW_none, errW_some] <;> rfl) | (simp [*, errW_none, errW_some] <;> rfl), by (with_reducible repeat (first | apply Kd.R_alloc | apply Kd.R_drewN | apply Kd.R_drew)); exact HO189.out, by repeat (first | (with_reducible first | exact HB.out | apply below_alloc | apply pw_below_drewN | apply below_drew1) | exact HB.out)⟩

end Go.Proofs.YtomcfhbmdoomlaaDoor.P

-- PurePutR
/- PutName and SuffixesOf: what stands in what they return. Conditions: the texts' sizes. -/
namespace Go.Proofs.YtomcfhbmdoomlaaDoor.Pure
open Go.RowKit Go.Proofs.YtomcfhbmdoomlaaDoor.P Go.Proofs.YtomcfhbmdoomlaaDoorW.PrintWords Go.Proofs.YtomcfhbmdoomlaaDoorW.PrintLast
set_option linter.unusedVariables false
set_option linter.unusedSimpArgs false
/-- What is laid behind a text. -/
def Laid (b s r : ByteArray) : Prop := ∃ y pl, r = b ++ y ∧ Reads r b.size b.size ((labelsL s.data.toList).map mkB) pl r.size ∧ y.size ≤ s.size + (if s.size = 0 then 1 else 2)
theorem put_laid (b s : ByteArray) (hb : b.size ≤ 600) (hg : goodL s.data.toList = true) : ∃ r, Ev (fun k => spec_l2Put.f k b s) r ∧ Ev (fun k => impl_putName.f k b s) r ∧ Laid b s r := by
  have hsz := good_size hg
  rw [← size_len] at hsz
  obtain ⟨r, e1, e2⟩ := put_both b hb s hsz hg
  refine ⟨r, e1, e2, ?_⟩
  obtain ⟨places, _, p2, _, p4⟩ := suff2 b hb b.size 0 [] (by omega) (by omega) (by simp; omega) (fun x hx => by cases hx)
  obtain ⟨K, e2⟩ := e2
  have h := e2 K (Nat.le_refl _)
  unfold impl_putName.f at h
  obtain ⟨pl, hp, h⟩ := Option.bind_eq_some_iff.mp h
  have e : pl = places := Ev.unique (Ev.of (fun k => impl_suffixesOf.mono b k) hp) (Ev.congr (fun k => rfl) p2)
  rw [e] at h
  obtain ⟨y, pl', h1, h2, h3⟩ := put_reads b hb places p4 K (⟨#[]⟩ : ByteArray) s r h hg
  have e0 : b ++ (⟨#[]⟩ : ByteArray) = b := by
    refine ext_data ?_
    simp
  rw [e0] at h1
  rw [show (⟨#[]⟩ : ByteArray).size = 0 from rfl, Nat.add_zero] at h2
  exact ⟨y, pl', h1, h2, h3⟩
/-- A place at which a name stands. -/
def GoodPlace (s : ByteArray) (x : Int) : Prop := 0 ≤ x ∧ x < (s.size : Int) ∧ ∃ ls pl en, Reads s x.toNat x.toNat ls pl en ∧ ls.length ≤ 8 ∧ (nameR ls).2 = true
section
variable (s : ByteArray) (hs : s.size ≤ 600)
include hs
end
end Go.Proofs.YtomcfhbmdoomlaaDoor.Pure

-- PureCur
/- What the cursor's steps return, in plain Lean: each answers, within its bounds. Conditions: the bytes are bytes, the place is small. -/
namespace Go.Proofs.YtomcfhbmdoomlaaDoor.Pure
open Go.RowKit Go.Proofs.YtomcfhbmdoomlaaDoor.P Go.Proofs.YtomcfhbmdoomlaaDoorW.PrintWords Go.Proofs.YtomcfhbmdoomlaaDoorW.PrintLast

def Bytes (l : List Int) : Prop := ∀ x ∈ l, 0 ≤ x ∧ x ≤ 255
theorem bytes_of {l : List Int} (h : ∀ x ∈ l, (Lit.int .u8 x).wf = true) : Bytes l := fun x hx => by
  simpa [Lit.wf, IntKind.min, IntKind.max, IntKind.signed, IntKind.bits] using h x hx
theorem bytes_rd {l : List Int} (h : Bytes l) (i : Int) : 0 ≤ rd l i ∧ rd l i ≤ 255 := by
  unfold rd
  rw [List.getD_eq_getElem?_getD]
  cases e : l[i.toNat]? with
  | none => simp
  | some x => exact h x (List.mem_of_getElem? e)

theorem u64_range (x : Int) : 0 ≤ IntKind.u64.wrap x ∧ IntKind.u64.wrap x < 18446744073709551616 := by
  simp [IntKind.wrap, IntKind.bits, IntKind.signed]
  omega

theorem mask (x : Int) : 0 ≤ wrap64 (Go.bits .and .u64 (IntKind.u64.wrap x / 1099511627776) 255) ∧ wrap64 (Go.bits .and .u64 (IntKind.u64.wrap x / 1099511627776) 255) ≤ 255 := by
  have h := u64_range x
  generalize IntKind.u64.wrap x = y at h ⊢
  rw [u64_and _ _ (by omega) (by omega) (by omega) (by omega)]
  have hle : (y / 1099511627776).toNat &&& (255 : Int).toNat ≤ 255 := Nat.and_le_right
  unfold wrap64
  omega

/-- The place of the cursor. -/
def Cur (at_ : Int) (n : Nat) : Prop := 0 ≤ at_ ∧ at_ ≤ n

theorem next_some {l : List Int} (hl : Bytes l) {at_ sd : Int} {n : Nat} (hc : Cur at_ n) (hn : n < 4611686018427387904) :
    ∃ b at2 sd2, spec_l1Cur_next.f l at_ sd = some (b, at2, sd2) ∧ (0 ≤ b ∧ b ≤ 255) ∧ Cur at2 (n + 1) := by
  have hw : wrap64 (at_ + 1) = at_ + 1 := by have := hc.1; have := hc.2; unfold wrap64; omega
  have hc2 : Cur (at_ + 1) (n + 1) := ⟨by have := hc.1; omega, by have := hc.2; omega⟩
  have hb := bytes_rd hl at_
  have hb2 : wrap64 (rd l at_) = rd l at_ := by unfold wrap64; omega
  unfold spec_l1Cur_next.f
  rw [hw]
  by_cases h1 : at_ < (l.length : Int)
  · rw [if_pos h1, if_pos hc.1, if_pos (by omega)]
    exact ⟨_, _, _, rfl, by rw [hb2]; exact hb, hc2⟩
  · rw [if_neg h1]
    by_cases h2 : at_ + 1 ≤ (l.length : Int)
    · omega
    · rw [if_neg h2]
      exact ⟨_, _, _, rfl, mask _, hc2⟩

theorem pick_some {l : List Int} (hl : Bytes l) {at_ sd : Int} {n : Nat} (hc : Cur at_ n) (hn : n < 4611686018427387900) (m : Int) :
    ∃ x at2 sd2, spec_l1Cur_pick.f l at_ sd m = some (x, at2, sd2) ∧ (0 ≤ x ∧ (x = 0 ∨ x < m)) ∧ Cur at2 (n + 2) := by
  unfold spec_l1Cur_pick.f
  by_cases h1 : m ≤ 1
  · rw [if_pos h1]
    exact ⟨_, _, _, rfl, ⟨by omega, .inl rfl⟩, hc.1, by have := hc.2; omega⟩
  · rw [if_neg h1]
    obtain ⟨b, at2, sd2, e, hb, hc2⟩ := next_some hl hc (sd := sd) (by omega)
    rw [e]
    simp only [Option.bind_some]
    have hm0 : ¬ m = 0 := by omega
    by_cases h2 : m > 200
    · rw [if_pos h2]
      obtain ⟨b3, at3, sd3, e3, hb3, hc3⟩ := next_some hl hc2 (sd := sd2) (by omega)
      rw [e3]
      simp only [Option.bind_some]
      rw [if_neg hm0]
      have hw : wrap64 (wrap64 (b * 256) + b3) = b * 256 + b3 := by unfold wrap64; omega
      rw [hw, Int.tmod_eq_emod_of_nonneg (by omega)]
      exact ⟨_, _, _, rfl, ⟨Int.emod_nonneg _ hm0, .inr (Int.emod_lt_of_pos _ (by omega))⟩, hc3⟩
    · rw [if_neg h2, if_neg hm0, Int.tmod_eq_emod_of_nonneg hb.1]
      exact ⟨_, _, _, rfl, ⟨Int.emod_nonneg _ hm0, .inr (Int.emod_lt_of_pos _ (by omega))⟩, hc2.1, by have := hc2.2; omega⟩

end Go.Proofs.YtomcfhbmdoomlaaDoor.Pure

-- PureDrawN
/- The drawn names: each draw answers, with a short text. Conditions: the bytes are bytes. -/
namespace Go.Proofs.YtomcfhbmdoomlaaDoor.Pure
open Go.RowKit Go.Proofs.YtomcfhbmdoomlaaDoor.P Go.Proofs.YtomcfhbmdoomlaaDoorW.PrintWords Go.Proofs.YtomcfhbmdoomlaaDoorW.PrintLast
set_option linter.unusedVariables false
set_option linter.unusedSimpArgs false

theorem of_some {l : List Int} (hl : Bytes l) {at_ sd : Int} {n : Nat} (hc : Cur at_ n) (hn : n < 4611686018427387000) (zs : List ByteArray) (hz : 0 < zs.length) :
    ∃ x at2 sd2, spec_l1Cur_of.f l at_ sd zs = some (x, at2, sd2) ∧ x ∈ zs ∧ Cur at2 (n + 2) := by
  unfold spec_l1Cur_of.f
  obtain ⟨i, at2, sd2, e, hi, hc2⟩ := pick_some hl hc (by omega) (sd := sd) (zs.length : Int)
  rw [e]
  simp only [Option.bind_some]
  have hlt : i < (zs.length : Int) := by omega
  rw [if_pos hi.1, if_pos hlt]
  refine ⟨_, _, _, rfl, ?_, hc2⟩
  have h2 : i.toNat < zs.length := by omega
  rw [rdOf, List.getD_eq_getElem?_getD, List.getElem?_eq_getElem h2]
  exact List.getElem_mem h2
theorem size_le {zs : List ByteArray} {n : Nat} (h : zs.all (fun x => decide (x.size ≤ n)) = true) {x : ByteArray} (hx : x ∈ zs) : x.size ≤ n := by
  have := List.all_eq_true.1 h x hx
  simpa using this
theorem name_loop {l : List Int} (hl : Bytes l) : ∀ (m : Nat) (at_ sd : Int) (n : Nat) (acc : ByteArray), Cur at_ n → n + 2 * m < 4611686018427387000 → acc.size + 4 * m ≤ 1000 → m ≤ 10 →
    ∃ s at2 sd2, spec_l1Cur_name.l0 (m + 1) acc (m : Int) l at_ sd = some (s, at2, sd2) ∧ s.size ≤ acc.size + 4 * m ∧ Cur at2 (n + 2 * m)
  | 0, at_, sd, n, acc, hc, hn, ha, hm => ⟨acc, at_, sd, by unfold spec_l1Cur_name.l0; rw [if_neg (by omega)], by omega, by simpa using hc⟩
  | m + 1, at_, sd, n, acc, hc, hn, ha, hm => by
    obtain ⟨x, at2, sd2, e, hx, hc2⟩ := of_some hl hc (by omega) (sd := sd) ([(⟨#[97]⟩ : ByteArray), (⟨#[98]⟩ : ByteArray), (⟨#[119, 119, 119]⟩ : ByteArray), (⟨#[115, 117, 98]⟩ : ByteArray), (⟨#[42]⟩ : ByteArray), (⟨#[120, 49]⟩ : ByteArray), (⟨#[110, 115]⟩ : ByteArray)] : List ByteArray) (by decide)
    have hsz : x.size ≤ 3 := size_le (by decide) hx
    have h46 : (⟨#[46]⟩ : ByteArray).size = 1 := rfl
    obtain ⟨s, at3, sd3, f, hs, hc3⟩ := name_loop hl m at2 sd2 (n + 2) ((x ++ (⟨#[46]⟩ : ByteArray)) ++ acc) hc2 (by omega) (by rw [ByteArray.size_append, ByteArray.size_append, h46]; omega) (by omega)
    refine ⟨s, at3, sd3, ?_, ?_, ?_⟩
    · conv => lhs; unfold spec_l1Cur_name.l0
      rw [if_pos (by omega), e, Option.bind_some]
      dsimp only
      rw [if_pos (by omega), if_pos (by rw [ByteArray.size_append, h46]; omega), show wrap64 (((m + 1 : Nat) : Int) - 1) = (m : Int) by unfold wrap64; omega]
      exact f
    · rw [ByteArray.size_append, ByteArray.size_append, h46] at hs
      omega
    · rw [show n + 2 * (m + 1) = n + 2 + 2 * m by omega]
      exact hc3
theorem name_some {l : List Int} (hl : Bytes l) {at_ sd : Int} {n : Nat} (hc : Cur at_ n) (hn : n < 4611686018427380000) :
    ∃ s at2 sd2, Ev (fun k => spec_l1Cur_name.f k l at_ sd) (s, at2, sd2) ∧ s.size ≤ 60 ∧ Cur at2 (n + 20) := by
  have up : ∀ {a : Int} {p q : Nat}, Cur a p → p ≤ q → Cur a q := fun h k => ⟨h.1, by have := h.2; omega⟩
  obtain ⟨i, at2, sd2, e, hi, hc2⟩ := pick_some hl hc (by omega) (sd := sd) 40
  by_cases h0 : i = 0
  · obtain ⟨x, at3, sd3, e3, hx, hc3⟩ := of_some hl hc2 (by omega) (sd := sd2) ([(⟨#[]⟩ : ByteArray), (⟨#[46]⟩ : ByteArray), (⟨#[97, 46, 46, 98]⟩ : ByteArray), (⟨#[65]⟩ : ByteArray), (⟨#[97, 46]⟩ : ByteArray), (⟨#[97, 42]⟩ : ByteArray), (⟨#[97, 46, 98, 46, 99, 46, 100, 46, 101, 46, 102, 46, 103, 46, 104]⟩ : ByteArray), (⟨#[97, 46, 98, 46, 99, 46, 100, 46, 101, 46, 102, 46, 103, 46, 104, 46, 105]⟩ : ByteArray), (⟨#[97, 98, 99, 100, 101, 102, 103, 104, 105, 106, 107, 108, 109, 110, 111, 112, 113, 114, 115, 116]⟩ : ByteArray), (⟨#[97, 98, 99, 100, 101, 102, 103, 104, 105, 106, 107, 108, 109, 110, 111, 112, 113, 114, 115, 116, 117]⟩ : ByteArray)] : List ByteArray) (by decide)
    refine ⟨x, at3, sd3, Ev.congr (fun k => ?_) (Ev.now _), size_le (by decide) hx, up hc3 (by omega)⟩
    unfold spec_l1Cur_name.f
    rw [e]
    simp only [Option.bind_some]
    rw [if_pos h0, e3]
    rfl
  · by_cases h1 : i = 1
    · obtain ⟨x, at3, sd3, e3, hx, hc3⟩ := of_some hl hc2 (by omega) (sd := sd2) ([(⟨#[]⟩ : ByteArray), (⟨#[99, 111, 109]⟩ : ByteArray)] : List ByteArray) (by decide)
      refine ⟨x, at3, sd3, Ev.congr (fun k => ?_) (Ev.now _), size_le (by decide) hx, up hc3 (by omega)⟩
      unfold spec_l1Cur_name.f
      rw [e]
      simp only [Option.bind_some]
      rw [if_neg h0, if_pos h1, e3]
      rfl
    · obtain ⟨x, at3, sd3, e3, hx, hc3⟩ := of_some hl hc2 (by omega) (sd := sd2) ([(⟨#[101, 120]⟩ : ByteArray), (⟨#[99, 111, 109]⟩ : ByteArray), (⟨#[101, 120, 46, 99, 111, 109]⟩ : ByteArray), (⟨#[101, 120, 46, 99, 111, 109]⟩ : ByteArray), (⟨#[101, 120, 46, 99, 111, 109]⟩ : ByteArray)] : List ByteArray) (by decide)
      have hsz : x.size ≤ 6 := size_le (by decide) hx
      obtain ⟨j, at4, sd4, e4, hj, hc4⟩ := pick_some hl hc3 (by omega) (sd := sd3) 3
      obtain ⟨m, rfl⟩ : ∃ m : Nat, j = (m : Int) := ⟨j.toNat, by omega⟩
      obtain ⟨s, at5, sd5, e5, hs, hc5⟩ := name_loop hl m at4 sd4 _ x hc4 (by omega) (by omega) (by omega)
      refine ⟨s, at5, sd5, Ev.of (fun k => spec_l1Cur_name.mono _ _ _ _) (k := m + 1) ?_, by omega, up hc5 (by omega)⟩
      unfold spec_l1Cur_name.f
      rw [e]
      simp only [Option.bind_some]
      rw [if_neg h0, if_neg h1, e3]
      simp only [Option.bind_some]
      rw [e4]
      simp only [Option.bind_some]
      exact e5
end Go.Proofs.YtomcfhbmdoomlaaDoor.Pure
