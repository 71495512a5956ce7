/- FnPointers: part 25 of 27 of my texts for this claim, joined; the theorem stands in the last. Conditions: none beyond the statement's. -/
import Derived.Test.YtomcfhbmdoomlaaDoorMFnPointersx21
import Derived.Test.YtomcfhbmdoomlaaDoorMFnPointersx11
import Derived.Test.YtomcfhbmdoomlaaDoorMFnPointersx23
import Derived.Test.YtomcfhbmdoomlaaDoorMFnPointersx9
-- PureRead
/- What stands at a place of a text: the labels of a name, read with pointers; how impl.takeName and impl.putName answer to it. Conditions: the texts are short. -/
namespace Go.Proofs.YtomcfhbmdoomlaaDoor.Pure
open Go.RowKit Go.Proofs.YtomcfhbmdoomlaaDoor.P Go.Proofs.YtomcfhbmdoomlaaDoorW.PrintWords Go.Proofs.YtomcfhbmdoomlaaDoorW.PrintLast
set_option linter.unusedVariables false
set_option linter.unusedSimpArgs false
set_option linter.unusedSectionVars false

theorem Ev.unique {α : Type} {g : Nat → Option α} {r r' : α} (h : Ev g r) (h' : Ev g r') : r = r' := by
  obtain ⟨K, h⟩ := h
  obtain ⟨K', h'⟩ := h'
  have h1 := h (max K K') (by omega)
  rw [h' (max K K') (by omega)] at h1
  exact (Option.some.inj h1).symm

/-- At the place a stand the labels ls; pointers lead below le. pl: the places of the labels that stand there themselves; en: the place behind. -/
inductive Reads (t : ByteArray) : Nat → Nat → List ByteArray → List Int → Nat → Prop
  | fin (a le : Nat) (h : a < t.size) (h0 : byteAt t a = 0) : Reads t a le [] [] (a + 1)
  | ptr (a le : Nat) (ls : List ByteArray) (pl : List Int) (en : Nat) (h : a + 1 < t.size) (h0 : 192 ≤ byteAt t a) (hp : ptrOf t a < le) (hr : Reads t (ptrOf t a) (ptrOf t a) ls pl en) : Reads t a le ls [] (a + 2)
  | lab (a le : Nat) (ls : List ByteArray) (pl : List Int) (en : Nat) (h0 : 0 < byteAt t a) (h1 : byteAt t a < 64) (h2 : a + 1 + byteAt t a ≤ t.size) (hr : Reads t (a + 1 + byteAt t a) le ls pl en) :
      Reads t a le (mkB ((rawL t a).map lowB) :: ls) ((a : Int) :: pl) en

theorem Reads.more {t : ByteArray} {a le : Nat} {ls : List ByteArray} {pl : List Int} {en : Nat} (h : Reads t a le ls pl en) : ∀ le', le ≤ le' → Reads t a le' ls pl en := by
  induction h with
  | fin a le h h0 => exact fun le' _ => .fin a le' h h0
  | ptr a le ls pl en h h0 hp hr ih => exact fun le' hl => .ptr a le' ls pl en h h0 (by omega) hr
  | lab a le ls pl en h0 h1 h2 hr ih => exact fun le' hl => .lab a le' ls pl en h0 h1 h2 (ih le' hl)

theorem byteAt_app (b x : ByteArray) (a : Nat) (h : a < b.size) : byteAt (b ++ x) a = byteAt b a := by
  have h1 : a < b.data.toList.length := by rw [← size_len]; exact h
  have h2 : a < (b ++ x).data.toList.length := by rw [← size_len, ByteArray.size_append]; omega
  have e := bt_list b a h1
  have e2 := bt_list (b ++ x) a h2
  have e3 : (b ++ x).data.toList = b.data.toList ++ x.data.toList := by simp
  have e4 : (b ++ x).data.toList[a] = b.data.toList[a] := by
    simp only [e3]
    exact List.getElem_append_left h1
  unfold byteAt
  rw [e, e2, e4]
theorem rawL_app (b x : ByteArray) (a : Nat) (h : a + 1 + byteAt b a ≤ b.size) : rawL (b ++ x) a = rawL b a := by
  unfold rawL
  rw [byteAt_app b x a (by omega), show (b ++ x).data.toList = b.data.toList ++ x.data.toList by simp, List.drop_append_of_le_length (by rw [← size_len]; omega), List.take_append_of_le_length (by rw [List.length_drop, ← size_len]; omega)]
theorem ptrOf_app (b x : ByteArray) (a : Nat) (h : a + 1 < b.size) : ptrOf (b ++ x) a = ptrOf b a := by
  unfold ptrOf
  rw [byteAt_app b x a (by omega), byteAt_app b x (a + 1) h]
theorem Reads.app {b : ByteArray} {a le : Nat} {ls : List ByteArray} {pl : List Int} {en : Nat} (h : Reads b a le ls pl en) (x : ByteArray) : Reads (b ++ x) a le ls pl en := by
  induction h with
  | fin a le h h0 => exact .fin a le (by rw [ByteArray.size_append]; omega) (by rw [byteAt_app b x a h]; exact h0)
  | ptr a le ls pl en h h0 hp hr ih =>
    have e := ptrOf_app b x a h
    exact .ptr a le ls pl en (by rw [ByteArray.size_append]; omega) (by rw [byteAt_app b x a (by omega)]; exact h0) (by rw [e]; exact hp) (by rw [e]; exact ih)
  | lab a le ls pl en h0 h1 h2 hr ih =>
    have e := byteAt_app b x a (by omega)
    have e2 := rawL_app b x a h2
    have := Reads.lab (t := b ++ x) a le ls pl en (by rw [e]; exact h0) (by rw [e]; exact h1) (by rw [e, ByteArray.size_append]; omega) (by rw [e]; exact ih)
    rw [e2] at this
    exact this
theorem Reads.bound {t : ByteArray} {a le : Nat} {ls : List ByteArray} {pl : List Int} {en : Nat} (h : Reads t a le ls pl en) : a < en ∧ en ≤ t.size ∧ (∀ x ∈ pl, (a : Int) ≤ x ∧ x < (en : Int)) ∧ pl.length ≤ ls.length ∧ pl.Pairwise (· < ·) := by
  induction h with
  | fin a le h h0 => exact ⟨by omega, by omega, (fun x hx => by cases hx), Nat.le_refl _, .nil⟩
  | ptr a le ls pl en h h0 hp hr ih => exact ⟨by omega, by omega, (fun x hx => by cases hx), Nat.zero_le _, .nil⟩
  | lab a le ls pl en h0 h1 h2 hr ih =>
    obtain ⟨i1, i2, i3, i4, i5⟩ := ih
    refine ⟨by omega, i2, fun x hx => ?_, by simpa using i4, List.pairwise_cons.2 ⟨fun x hx => by have := i3 x hx; omega, i5⟩⟩
    rcases List.mem_cons.1 hx with rfl | hx
    · omega
    · have := i3 x hx; omega
/-- At each of its own places stands an end of the name. -/
theorem Reads.place {t : ByteArray} {a le : Nat} {ls : List ByteArray} {pl : List Int} {en : Nat} (h : Reads t a le ls pl en) : ∀ x ∈ pl, ∃ ls1 ls2 pl', ls = ls1 ++ ls2 ∧ Reads t x.toNat le ls2 pl' en := by
  induction h with
  | fin a le h h0 => exact fun x hx => by cases hx
  | ptr a le ls pl en h h0 hp hr ih => exact fun x hx => by cases hx
  | lab a le ls pl en h0 h1 h2 hr ih =>
    intro x hx
    rcases List.mem_cons.1 hx with rfl | hx
    · exact ⟨[], _, _, rfl, .lab a le ls pl en h0 h1 h2 hr⟩
    · obtain ⟨l1, l2, p', e, h'⟩ := ih x hx
      exact ⟨mkB ((rawL t a).map lowB) :: l1, l2, p', by rw [e]; rfl, h'⟩

section
variable (s : ByteArray) (hs : s.size ≤ 600)
include hs
theorem reads_take {a le : Nat} {ls : List ByteArray} {pl : List Int} {en : Nat} (h : Reads s a le ls pl en) : ∀ (L : List ByteArray) (p : List Int) (e : Int), L.length + ls.length ≤ 8 → p.length ≤ L.length →
    Ev (fun k => impl_takeName.l0 k s (a : Int) L p (le : Int) e) ((nameR (L ++ ls)).1, (if e < 0 then p ++ pl else p), (if e < 0 then (en : Int) else e), (nameR (L ++ ls)).2) := by
  induction h with
  | fin a le h h0 =>
    intro L p e hL hp
    have hi := impl_end s hs 0 a L p le e h (by simp at hL; omega) h0
    rw [List.append_nil, List.append_nil, ite_self]
    exact Ev.of (fun k => (impl_takeName.mono_l k).1 _ _ _ _ _ _) hi
  | ptr a le ls pl en h h0 hp' hr ih =>
    intro L p e hL hp
    have := ih L p (endOf e (a + 2)) hL hp
    have he : ¬ endOf e (a + 2) < 0 := by unfold endOf; split <;> omega
    rw [if_neg he, if_neg he] at this
    rw [List.append_nil, ite_self]
    have e2 : endOf e (a + 2) = if e < 0 then ((a + 2 : Nat) : Int) else e := rfl
    rw [e2] at this
    exact Ev.step (fun k => rfl) (Ev.step (g := fun k => impl_takeName.l0 (k + 1) s (a : Int) L p (le : Int) e) (fun k => (impl_ptr s hs k a L p le e (by omega) (by omega) h0 h).trans (if_neg (by omega))) this)
  | lab a le ls pl en h0 h1 h2 hr ih =>
    intro L p e hL hp
    rw [List.length_cons] at hL
    have := ih (L ++ [mkB ((rawL s a).map lowB)]) (plc e p a) e (by simp; omega) (by unfold plc; split <;> simp <;> omega)
    have ep : (if e < 0 then plc e p a ++ pl else plc e p a) = if e < 0 then p ++ (a : Int) :: pl else p := by
      unfold plc
      split
      · simp
      · rfl
    rw [ep, List.append_assoc] at this
    exact Ev.step (fun k => rfl) (Ev.step (fun k => rfl) (Ev.step (g := fun k => impl_takeName.l0 (k + 2) s (a : Int) L p (le : Int) e) (fun k => impl_lab s hs k a L p le e (by omega) (by omega) (by omega) h0 h1 h2) this))
theorem take_reads : ∀ (n a : Nat) (L : List ByteArray) (p : List Int) (le : Nat) (e : Int), le * 10 + (9 - L.length) ≤ n → L.length ≤ 9 → p.length ≤ L.length →
    (∃ ls pl en, Reads s a le ls pl en ∧ L.length + ls.length ≤ 8) ∨ ∃ r, Ev (fun k => impl_takeName.l0 k s (a : Int) L p (le : Int) e) r ∧ r.2.2.2 = false
  | n, a, L, p, le, e, hn, hL, hp => by
    by_cases ho : s.size ≤ a ∨ 8 < L.length
    · exact .inr ⟨failI, Ev.of (fun k => (impl_takeName.mono_l k).1 _ _ _ _ _ _) (impl_out s hs 0 a L p le e ho), rfl⟩
    · have h1 : a < s.size := by omega
      have h2 : L.length ≤ 8 := by omega
      by_cases v0 : byteAt s a = 0
      · exact .inl ⟨[], [], a + 1, .fin a le h1 v0, by simpa using h2⟩
      · by_cases v1 : 192 ≤ byteAt s a
        · by_cases h3 : a + 1 < s.size
          · by_cases hle : ((ptrOf s a : Nat) : Int) ≥ (le : Int)
            · exact .inr ⟨failI, Ev.of (fun k => (impl_takeName.mono_l k).1 _ _ _ _ _ _) ((impl_ptr s hs 0 a L p le e h1 h2 v1 h3).trans (if_pos hle)), rfl⟩
            · rcases take_reads (n - 10) (ptrOf s a) L p (ptrOf s a) (endOf e (a + 2)) (by omega) hL hp with ⟨ls, pl, en, g1, g2⟩ | ⟨r, g1, g2⟩
              · exact .inl ⟨ls, [], a + 2, .ptr a le ls pl en h3 v1 (by omega) g1, g2⟩
              · exact .inr ⟨r, Ev.step (fun k => rfl) (Ev.step (g := fun k => impl_takeName.l0 (k + 1) s (a : Int) L p (le : Int) e) (fun k => (impl_ptr s hs k a L p le e h1 h2 v1 h3).trans (if_neg hle)) g1), g2⟩
          · exact .inr ⟨failI, Ev.of (fun k => (impl_takeName.mono_l k).1 _ _ _ _ _ _) (impl_ptr_out s hs 0 a L p le e h1 h2 v1 (by omega)), rfl⟩
        · by_cases h3 : 64 ≤ byteAt s a ∨ s.size < a + 1 + byteAt s a
          · exact .inr ⟨failI, Ev.of (fun k => (impl_takeName.mono_l k).1 _ _ _ _ _ _) (impl_lab_out s hs 0 a L p le e h1 h2 (by omega) (by omega) h3), rfl⟩
          · rcases take_reads (n - 1) (a + 1 + byteAt s a) (L ++ [mkB ((rawL s a).map lowB)]) (plc e p a) le e (by simp; omega) (by simp; omega) (by unfold plc; split <;> simp <;> omega) with ⟨ls, pl, en, g1, g2⟩ | ⟨r, g1, g2⟩
            · exact .inl ⟨_, _, _, .lab a le ls pl en (by omega) (by omega) (by omega) g1, by simp at g2 ⊢; omega⟩
            · exact .inr ⟨r, Ev.step (fun k => rfl) (Ev.step (fun k => rfl) (Ev.step (g := fun k => impl_takeName.l0 (k + 2) s (a : Int) L p (le : Int) e) (fun k => impl_lab s hs k a L p le e h1 h2 (by omega) (by omega) (by omega) (by omega)) g1)), g2⟩
  termination_by n => n
  decreasing_by all_goals omega
/-- A name that is taken: what stands there. -/
theorem taken {k a : Nat} {t : ByteArray × List Int × Int × Bool} (h : impl_takeName.f k s (a : Int) = some t) (ht : t.2.2.2 = true) : ∃ ls pl en, Reads s a a ls pl en ∧ ls.length ≤ 8 ∧ nameR ls = (t.1, true) ∧ t.2.1 = pl ∧ t.2.2.1 = (en : Int) := by
  have hE : Ev (fun k => impl_takeName.l0 k s (a : Int) [] [] (a : Int) (-1)) t := Ev.of (fun k => (impl_takeName.mono_l k).1 _ _ _ _ _ _) (k := k) h
  rcases take_reads s hs (a * 10 + 9) a [] [] a (-1) (by simp) (by simp) (by simp) with ⟨ls, pl, en, g1, g2⟩ | ⟨r, g1, g2⟩
  · have g3 := reads_take s hs g1 [] [] (-1) g2 (by simp)
    have e := Ev.unique hE g3
    rw [if_pos (by decide), if_pos (by decide), List.nil_append, List.nil_append] at e
    refine ⟨ls, pl, en, g1, by simpa using g2, ?_, by rw [e], by rw [e]⟩
    rw [e] at ht ⊢
    exact Prod.ext rfl ht
  · rw [Ev.unique hE g1] at ht
    rw [ht] at g2
    cases g2
end

theorem label_dot {x : List UInt8} (h : isLabelL x = true) : ∀ y ∈ x, y ≠ 46 := by
  intro y hy e
  subst e
  unfold isLabelL at h
  simp only [Bool.or_eq_true, Bool.and_eq_true, beq_iff_eq, List.all_eq_true] at h
  rcases h with h | h
  · rw [h] at hy
    simp at hy
  · exact absurd (h.2 46 hy) (by decide)
theorem label_low {x : List UInt8} (h : isLabelL x = true) : x.map lowB = x := by
  have : ∀ y ∈ x, lowB y = y := by
    intro y hy
    unfold isLabelL at h
    simp only [Bool.or_eq_true, Bool.and_eq_true, beq_iff_eq, List.all_eq_true] at h
    rcases h with h | h
    · rw [h] at hy
      rw [List.mem_singleton.1 hy]
      decide
    · have hy := h.2 y hy
      unfold labelByte at hy
      simp only [Bool.or_eq_true, decide_eq_true_eq, beq_iff_eq] at hy
      unfold lowB
      rw [if_neg]
      rintro ⟨h1, h2⟩
      rcases hy with ((hy | hy) | rfl) | rfl
      · omega
      · omega
      · revert h1; decide
      · revert h2; decide
  rw [List.map_congr_left this, List.map_id']
theorem joinL_ne {ls : List ByteArray} (hne : ls ≠ []) (h : ∀ x ∈ ls, isLabelL x.data.toList = true) : splitL 46 (joinL ls) = ls.map (·.data.toList) := by
  unfold joinL
  refine split_join _ (by simpa using hne) fun x hx => ?_
  obtain ⟨z, hz, rfl⟩ := List.mem_map.1 hx
  exact label_dot (h z hz)
theorem label_pos {x : List UInt8} (h : isLabelL x = true) : 1 ≤ x.length := by
  unfold isLabelL at h
  simp only [Bool.or_eq_true, Bool.and_eq_true, beq_iff_eq, decide_eq_true_eq] at h
  rcases h with h | h
  · rw [h]; simp
  · exact h.1.1
/-- A name from its labels. -/
theorem labels_back {ls : List ByteArray} {s : ByteArray} (h : nameR ls = (s, true)) : goodL s.data.toList = true ∧ ls = (labelsL s.data.toList).map mkB := by
  unfold nameR at h
  by_cases h1 : (decide (ls.length ≤ 8) && ls.all fun x => isLabelL x.data.toList) = true
  · rw [if_pos h1] at h
    by_cases h2 : goodL (joinL ls) = true
    · rw [if_pos h2] at h
      obtain ⟨rfl, _⟩ := Prod.mk.inj h
      rw [mkB_data]
      refine ⟨h2, ?_⟩
      simp only [Bool.and_eq_true, List.all_eq_true] at h1
      cases ls with
      | nil => rfl
      | cons x r =>
        have hs := joinL_ne (ls := x :: r) (by simp) h1.2
        have hne : joinL (x :: r) ≠ [] := by
          intro e
          have h3 := congrArg List.length e
          unfold joinL at h3
          rw [List.map_cons, Lib.join_cons, List.length_append] at h3
          have := label_pos (h1.2 x List.mem_cons_self)
          rw [List.length_nil] at h3
          omega
        unfold labelsL
        rw [if_neg hne, hs, List.map_map]
        have : (mkB ∘ fun x : ByteArray => x.data.toList) = id := by funext z; exact data_mkB z
        rw [this, List.map_id]
    · rw [if_neg h2] at h
      cases (Prod.mk.inj h).2
  · rw [if_neg h1] at h
    cases (Prod.mk.inj h).2
theorem good_all {s : List UInt8} (h : goodL s = true) : (labelsL s).length ≤ 8 ∧ ∀ x ∈ labelsL s, isLabelL x = true := by
  unfold goodL at h
  simp only [Bool.and_eq_true, decide_eq_true_eq, List.all_eq_true] at h
  exact h.2
theorem join_split (s : List UInt8) : Lib.join (splitL 46 s) [46] = s := by
  have : ∀ n (s : List UInt8), s.length ≤ n → Lib.join (splitL 46 s) [46] = s := by
    intro n
    induction n with
    | zero =>
      intro s hs
      obtain rfl : s = [] := List.length_eq_zero_iff.1 (by omega)
      rfl
    | succ n ih =>
      intro s hs
      rcases place_or 46 s with ⟨_, h2⟩ | ⟨p, r, h1, h2, h3⟩
      · rw [splitL_none _ _ h2]
        rw [Lib.join_cons]
        simp [Lib.joinTail]
      · rw [h1, splitL_hit 46 p r h2]
        obtain ⟨q, qs, hq⟩ := List.exists_cons_of_ne_nil (splitL_ne 46 r)
        have := ih r (by rw [h1] at hs; simp at hs; omega)
        rw [hq] at this ⊢
        rw [Lib.join_cons, tail_cons, ← Lib.join_cons, this]
  exact this s.length s (Nat.le_refl _)
/-- A good name's labels give it back. -/
theorem name_back {s : ByteArray} (h : goodL s.data.toList = true) : nameR ((labelsL s.data.toList).map mkB) = (s, true) := by
  obtain ⟨h1, h2⟩ := good_all h
  have hj : joinL ((labelsL s.data.toList).map mkB) = s.data.toList := by
    unfold joinL
    rw [List.map_map]
    have : ((fun x : ByteArray => x.data.toList) ∘ mkB) = id := by funext z; exact mkB_data z
    rw [this, List.map_id]
    unfold labelsL
    split
    · next e => rw [e]; rfl
    · exact join_split _
  unfold nameR
  rw [if_pos, hj, if_pos h, data_mkB]
  simp only [Bool.and_eq_true, decide_eq_true_eq, List.all_eq_true, List.length_map]
  refine ⟨h1, fun x hx => ?_⟩
  obtain ⟨z, hz, rfl⟩ := List.mem_map.1 hx
  rw [mkB_data]
  exact h2 z hz
/-- The end of a good row of labels is a good name, too. -/
theorem name_end {l1 l2 : List ByteArray} (h : (nameR (l1 ++ l2)).2 = true) : (nameR l2).2 = true := by
  obtain ⟨hg, hl⟩ := labels_back (ls := l1 ++ l2) (s := (nameR (l1 ++ l2)).1) (Prod.ext rfl h)
  generalize (nameR (l1 ++ l2)).1 = s at hg hl
  obtain ⟨h1, h2⟩ := good_all hg
  have hlen : (l1 ++ l2).length ≤ 8 := by rw [hl, List.length_map]; exact h1
  have hall : ∀ x ∈ l1 ++ l2, isLabelL x.data.toList = true := by
    rw [hl]
    intro x hx
    obtain ⟨z, hz, rfl⟩ := List.mem_map.1 hx
    rw [mkB_data]
    exact h2 z hz
  have hs := good_size hg
  have hj : joinL (l1 ++ l2) = s.data.toList := by
    have := name_back hg
    rw [← hl] at this
    unfold nameR at this
    split at this
    · split at this
      · have := (Prod.mk.inj this).1
        rw [← this, mkB_data]
      · cases (Prod.mk.inj this).2
    · cases (Prod.mk.inj this).2
  have hsz : ∀ l1 : List ByteArray, (joinL l2).length ≤ (joinL (l1 ++ l2)).length := by
    intro l1
    induction l1 with
    | nil => exact Nat.le_refl _
    | cons x r ih =>
      unfold joinL at ih ⊢
      rw [List.cons_append, List.map_cons, Lib.join_cons]
      cases hr : (r ++ l2).map (·.data.toList) with
      | nil =>
        rw [hr] at ih
        have e : l2 = [] := by
          have : r ++ l2 = [] := by simpa using hr
          exact (List.append_eq_nil_iff.1 this).2
        rw [e]
        simp [Lib.join]
      | cons y q =>
        rw [hr, Lib.join_cons] at ih
        rw [tail_cons, List.length_append, List.length_cons]
        omega
  have hsz := hsz l1
  rw [hj] at hsz
  have hgood : goodL (joinL l2) = true := by
    unfold goodL
    cases l2 with
    | nil => rfl
    | cons x r =>
      have hsp := joinL_ne (ls := x :: r) (by simp) (fun z hz => hall z (List.mem_append_right _ hz))
      have hlab : labelsL (joinL (x :: r)) = (x :: r).map (·.data.toList) ∨ labelsL (joinL (x :: r)) = [] := by
        unfold labelsL
        split
        · exact .inr rfl
        · exact .inl hsp
      rw [List.length_append] at hlen
      rcases hlab with e | e
      · rw [e]
        simp only [Bool.and_eq_true, decide_eq_true_eq, List.all_eq_true]
        refine ⟨by omega, by rw [List.length_map]; omega, fun z hz => ?_⟩
        obtain ⟨q, hq, rfl⟩ := List.mem_map.1 hz
        exact hall q (List.mem_append_right _ hq)
      · rw [e]
        simp only [Bool.and_eq_true, decide_eq_true_eq, List.all_eq_true]
        exact ⟨by omega, by simp, fun z hz => by cases hz⟩
  unfold nameR
  rw [List.length_append] at hlen
  rw [if_pos, if_pos hgood]
  simp only [Bool.and_eq_true, decide_eq_true_eq, List.all_eq_true]
  exact ⟨by omega, fun z hz => hall z (List.mem_append_right _ hz)⟩
theorem cut_first' (s : ByteArray) (hs : s.size < 4611686018427387904) : ∃ q2 q3, strings_Cut.f s (⟨#[46]⟩ : ByteArray) = some (mkB ((splitL 46 s.data.toList).headD []), q2, q3) := by
  unfold strings_Cut.f stringslite_Cut.f internal_stringslite_Index.f
  rw [if_pos (show (⟨#[46]⟩ : ByteArray).size = 1 from rfl)]
  simp only [Option.bind_some]
  rw [show List.headD (⟨#[46]⟩ : ByteArray).data.toList 0 = 46 from rfl, show (⟨#[46]⟩ : ByteArray).size = 1 from rfl]
  rcases place_or 46 s.data.toList with ⟨h1, h2⟩ | ⟨p, r, h1, h2, h3⟩
  · rw [h1, if_neg (by omega), splitL_none _ _ h2]
    exact ⟨_, _, by show some (s, _, _) = some (mkB s.data.toList, _, _); rw [data_mkB]⟩
  · have hl : p.length + (r.length + 1) = s.size := by rw [size_len, h1]; simp
    rw [h3, show (((1 : Nat) : Int)) = 1 from rfl, w64n (by omega), if_pos (by omega), if_pos (by omega), if_pos (by omega), if_pos (by omega), if_pos (by omega), Int.toNat_natCast, Int.toNat_natCast, ext_mkB]
    refine ⟨s.extract (p.length + 1) s.size, true, ?_⟩
    have e : (s.data.toList.drop 0).take (p.length - 0) = (splitL 46 s.data.toList).headD [] := by
      rw [h1, splitL_hit 46 p r h2]
      simp
    rw [e]
    rfl
theorem ptr_hi (q : Nat) (h : q < 600) : wrap64 (192 + wrap64 (Int.tdiv (q : Int) 256)) % 256 = ((192 + q / 256 : Nat) : Int) := by
  rw [Int.tdiv_eq_ediv_of_nonneg (by omega)]
  have h1 : wrap64 ((q : Int) / 256) = ((q / 256 : Nat) : Int) := by unfold wrap64; omega
  rw [h1]
  have h2 : wrap64 (192 + ((q / 256 : Nat) : Int)) = ((192 + q / 256 : Nat) : Int) := by unfold wrap64; omega
  rw [h2]
  omega
theorem byteAt_behind (x y : ByteArray) (n i : Nat) (hn : x.size = n) (hi : i < y.data.toList.length) : byteAt (x ++ y) (n + i) = (y.data.toList[i]).toNat := by
  subst hn
  have hl0 : (x ++ y).data.toList = x.data.toList ++ y.data.toList := by simp
  have e2 : x.size + i < (x ++ y).data.toList.length := by rw [hl0, List.length_append, ← size_len]; omega
  unfold byteAt
  rw [bt_list _ _ e2, Int.toNat_natCast]
  have e4 : (x ++ y).data.toList[x.size + i] = y.data.toList[i] := by
    simp only [hl0]
    rw [List.getElem_append_right (by rw [← size_len]; omega)]
    congr 1
    rw [← size_len]
    omega
  rw [e4]
theorem put_hit (b ahead rest : ByteArray) (hb : b.size ≤ 600) (q : Nat) (hq : q < b.size) (hpos : 0 < rest.size) (ls : List ByteArray) (pl : List Int) (en : Nat) (g1 : Reads b q q ls pl en) :
    ∃ y pl', (b ++ ahead) ++ strOfNums [wrap64 (192 + wrap64 (Int.tdiv (q : Int) 256)) % 256, (q : Int) % 256] = (b ++ ahead) ++ y ∧ Reads ((b ++ ahead) ++ strOfNums [wrap64 (192 + wrap64 (Int.tdiv (q : Int) 256)) % 256, (q : Int) % 256]) (b.size + ahead.size) b.size ls pl' ((b ++ ahead) ++ strOfNums [wrap64 (192 + wrap64 (Int.tdiv (q : Int) 256)) % 256, (q : Int) % 256]).size ∧ y.size ≤ rest.size + (if rest.size = 0 then 1 else 2) := by
  have ew2 : (q : Int) % 256 = ((q % 256 : Nat) : Int) := by omega
  rw [ptr_hi q (by omega), ew2]
  have hy2 : (strOfNums [((192 + q / 256 : Nat) : Int), ((q % 256 : Nat) : Int)]).data.toList = [UInt8.ofNat (192 + q / 256), UInt8.ofNat (q % 256)] := by
    rw [strOfNums_data]
    simp only [List.map_cons, List.map_nil, Int.toNat_natCast]
  have hys : (strOfNums [((192 + q / 256 : Nat) : Int), ((q % 256 : Nat) : Int)]).size = 2 := by rw [strOfNums_size]; rfl
  generalize strOfNums [((192 + q / 256 : Nat) : Int), ((q % 256 : Nat) : Int)] = y at hy2 hys
  have hsz : ((b ++ ahead) ++ y).size = b.size + ahead.size + 2 := by rw [ByteArray.size_append, ByteArray.size_append, hys]
  have h0 := byteAt_behind (b ++ ahead) y (b.size + ahead.size) 0 ByteArray.size_append (by rw [hy2]; simp)
  have h1 := byteAt_behind (b ++ ahead) y (b.size + ahead.size) 1 ByteArray.size_append (by rw [hy2]; simp)
  simp only [hy2, List.getElem_cons_zero, List.getElem_cons_succ, UInt8.toNat_ofNat', Nat.add_zero] at h0 h1
  have hb0 : byteAt ((b ++ ahead) ++ y) (b.size + ahead.size) = 192 + q / 256 := by rw [h0]; omega
  have hb1 : byteAt ((b ++ ahead) ++ y) (b.size + ahead.size + 1) = q % 256 := by rw [h1]; omega
  have hptr : ptrOf ((b ++ ahead) ++ y) (b.size + ahead.size) = q := by
    unfold ptrOf
    rw [hb0, hb1]
    omega
  refine ⟨y, [], rfl, ?_, ?_⟩
  · rw [hsz]
    have g5 := g1.app (ahead ++ y)
    rw [← ByteArray.append_assoc] at g5
    exact .ptr _ _ _ pl en (by omega) (by omega) (by rw [hptr]; omega) (by rw [hptr]; exact g5)
  · rw [hys, if_neg (by omega)]; omega
set_option maxHeartbeats 2000000 in
/-- What PutName's loop lays behind a text: the name stands there. -/
theorem put_reads (b : ByteArray) (hb : b.size ≤ 600) (places : List Int) (hr : ∀ x ∈ places, 0 ≤ x ∧ x < (b.size : Int)) : ∀ (k : Nat) (ahead rest r : ByteArray), impl_putName.l0 k b places ahead rest = some r → goodL rest.data.toList = true →
    ∃ y pl, r = (b ++ ahead) ++ y ∧ Reads r (b.size + ahead.size) b.size ((labelsL rest.data.toList).map mkB) pl r.size ∧ y.size ≤ rest.size + (if rest.size = 0 then 1 else 2) := by
  intro k
  induction k with
  | zero => intro ahead rest r h; simp [impl_putName.l0] at h
  | succ k ih =>
    intro ahead rest r h hg
    unfold impl_putName.l0 at h
    by_cases c1 : rest.toList = ([] : List UInt8)
    · rw [if_pos c1] at h
      by_cases c2 : b.size + ahead.size < 1099511627776
      · rw [if_pos c2] at h
        obtain rfl := Option.some.inj h
        have e0 : rest.data.toList = [] := by rw [← Lib.toList_data]; exact c1
        have hz : rest.size = 0 := by rw [size_len, e0]; rfl
        have hsz : ((b ++ ahead) ++ (⟨#[0]⟩ : ByteArray)).size = b.size + ahead.size + 1 := by rw [ByteArray.size_append, ByteArray.size_append]; rfl
        refine ⟨(⟨#[0]⟩ : ByteArray), [], rfl, ?_, ?_⟩
        · rw [hsz, e0]
          refine .fin _ _ (by omega) ?_
          have e2 : b.size + ahead.size < ((b ++ ahead) ++ (⟨#[0]⟩ : ByteArray)).data.toList.length := by rw [← size_len]; omega
          unfold byteAt
          rw [bt_list _ _ e2]
          have e3 : ((b ++ ahead) ++ (⟨#[0]⟩ : ByteArray)).data.toList = (b ++ ahead).data.toList ++ [0] := by simp
          have e4 : ((b ++ ahead) ++ (⟨#[0]⟩ : ByteArray)).data.toList[b.size + ahead.size] = 0 := by
            simp only [e3]
            rw [List.getElem_append_right (by rw [← size_len, ByteArray.size_append]; omega)]
            simp
          rw [e4]
          rfl
        · rw [hz]; exact Nat.le_refl _
      · rw [if_neg c2] at h; cases h
    · rw [if_neg c1] at h
      have hne : rest.data.toList ≠ [] := by rw [← Lib.toList_data]; exact c1
      have hpos : 0 < rest.size := by rw [size_len]; exact List.length_pos_iff.2 hne
      by_cases c2 : putDef k b places = true
      · rw [if_pos c2] at h
        by_cases c3 : 0 ≤ idxP (putP k b rest) places 0
        · rw [if_pos c3] at h
          by_cases c4 : b.size + ahead.size < 1099511627776
          · rw [if_pos c4] at h
            obtain rfl := Option.some.inj h
            have hil := idxP_lt (putP k b rest) places
            have hx : ∃ x ∈ places, rd places (idxP (putP k b rest) places 0) = x ∧ putP k b rest x = true := by
              have : ∀ (xs : List Int) (i : Int), 0 ≤ i → 0 ≤ idxP (putP k b rest) xs i → i ≤ idxP (putP k b rest) xs i ∧ ∃ h : (idxP (putP k b rest) xs i - i).toNat < xs.length, putP k b rest (xs[(idxP (putP k b rest) xs i - i).toNat]) = true := by
                intro xs
                induction xs with
                | nil => intro i hi h0; simp [idxP] at h0
                | cons x r ih2 =>
                  intro i hi h0
                  unfold idxP at h0 ⊢
                  by_cases hq : putP k b rest x = true
                  · simp only [if_pos hq] at h0 ⊢
                    refine ⟨Int.le_refl _, by simp, ?_⟩
                    simpa using hq
                  · simp only [if_neg hq] at h0 ⊢
                    obtain ⟨j1, j2, j3⟩ := ih2 (i + 1) (by omega) h0
                    have e : (idxP (putP k b rest) r (i + 1) - i).toNat = (idxP (putP k b rest) r (i + 1) - (i + 1)).toNat + 1 := by omega
                    refine ⟨by omega, by rw [e, List.length_cons]; omega, ?_⟩
                    simp only [e, List.getElem_cons_succ]
                    exact j3
              obtain ⟨_, j2, j3⟩ := this places 0 (by omega) c3
              rw [Int.sub_zero] at j2
              have e3 : putP k b rest (places[(idxP (putP k b rest) places 0).toNat]'j2) = true := by
                have := j3
                simp only [Int.sub_zero] at this
                exact this
              refine ⟨_, List.getElem_mem j2, ?_, e3⟩
              unfold rd
              rw [List.getD_eq_getElem?_getD, List.getElem?_eq_getElem j2]
              rfl
            obtain ⟨x, hxm, hxr, hxp⟩ := hx
            rw [hxr]
            obtain ⟨hx0, hx1⟩ := hr x hxm
            obtain ⟨q, rfl⟩ : ∃ q : Nat, x = (q : Int) := ⟨x.toNat, by omega⟩
            have hty := List.all_eq_true.1 c2 (q : Int) hxm
            obtain ⟨t, ht⟩ := Option.isSome_iff_exists.1 hty
            unfold putP at hxp
            rw [ht] at hxp
            simp only [Bool.and_eq_true, beq_iff_eq] at hxp
            obtain ⟨ls, pl, en, g1, g2, g3, _, _⟩ := taken b hb ht hxp.1
            have e1 : t.1 = rest := ext_data (by rw [← Lib.toList_data, ← Lib.toList_data]; exact hxp.2)
            rw [e1] at g3
            obtain ⟨_, g4⟩ := labels_back g3
            rw [g4] at g1
            exact put_hit b ahead rest hb q (by omega) hpos _ _ _ g1
          · rw [if_neg c4] at h; cases h
        · rw [if_neg c3] at h
          obtain ⟨c, hc, h⟩ := Option.bind_eq_some_iff.mp h
          obtain ⟨q2, q3, hcut⟩ := cut_first' rest (by have := good_size hg; rw [← size_len] at this; omega)
          rw [hcut] at hc
          obtain rfl := Option.some.inj hc
          simp only at h
          by_cases c4 : ahead.size + (mkB ((splitL 46 rest.data.toList).headD [])).size < 1099511627776
          · rw [if_pos c4] at h
            obtain ⟨par, hpar, h⟩ := Option.bind_eq_some_iff.mp h
            rw [implParent_eq rest (by have := good_size hg; rw [← size_len] at this; omega)] at hpar
            obtain rfl := Option.some.inj hpar
            have hsp : labelsL rest.data.toList = splitL 46 rest.data.toList := by unfold labelsL; rw [if_neg hne]
            have hgl := good_all hg
            rw [hsp] at hgl
            -- the first label, and what is behind
            have hcons : ∃ p, splitL 46 rest.data.toList = p :: labelsL (parL rest.data.toList) ∧ rest.size = p.length + (if parL rest.data.toList = [] then 0 else (parL rest.data.toList).length + 1) := by
              rcases place_or 46 rest.data.toList with ⟨_, h1⟩ | ⟨p, r, h1, h2, _⟩
              · refine ⟨rest.data.toList, ?_, ?_⟩
                · rw [parL_none _ h1, splitL_none _ _ h1]; rfl
                · rw [parL_none _ h1, if_pos rfl, size_len]; omega
              · have hpr : parL rest.data.toList = r := by rw [h1]; exact parL_hit p r h2
                have hsl : splitL 46 rest.data.toList = p :: splitL 46 r := by rw [h1]; exact splitL_hit 46 p r h2
                have hrn : r ≠ [] := by
                  rintro rfl
                  have := hgl.2 [] (by rw [hsl]; simp [splitL])
                  revert this
                  decide
                refine ⟨p, ?_, ?_⟩
                · rw [hsl, hpr]; unfold labelsL; rw [if_neg hrn]
                · rw [hpr, if_neg hrn, size_len, h1]; simp
            obtain ⟨p, hp, hsz0⟩ := hcons
            rw [hp] at h c4 hgl
            simp only [List.headD_cons] at h c4
            have hpl := hgl.2 p List.mem_cons_self
            have hp1 := label_pos hpl
            have hp2 := label_size hpl
            have hgp : goodL (parL rest.data.toList) = true := by
              have hps := good_size hg
              unfold goodL
              simp only [Bool.and_eq_true, decide_eq_true_eq, List.all_eq_true]
              have := parL_len rest.data.toList
              rw [List.length_cons] at hgl
              exact ⟨by omega, by omega, fun z hz => hgl.2 z (List.mem_cons_of_mem _ hz)⟩
            have hl1 : strOfNums [((mkB p).size : Int) % 256] = mkB [UInt8.ofNat p.length] := by
              refine ext_data ?_
              rw [strOfNums_data, mkB_data, mkB_size]
              simp only [List.map_cons, List.map_nil]
              rw [show ((p.length : Int) % 256).toNat = p.length by omega]
            rw [hl1] at h
            obtain ⟨y, pl, g1, g2, g3⟩ := ih (ahead ++ (mkB [UInt8.ofNat p.length] ++ mkB p)) (mkB (parL rest.data.toList)) r h (by rw [mkB_data]; exact hgp)
            rw [mkB_data] at g2
            have hasz : (ahead ++ (mkB [UInt8.ofNat p.length] ++ mkB p)).size = ahead.size + (1 + p.length) := by rw [ByteArray.size_append, ByteArray.size_append, mkB_size, mkB_size]; rfl
            rw [hasz] at g2
            have hrl : r.data.toList = (b ++ ahead).data.toList ++ (UInt8.ofNat p.length :: (p ++ y.data.toList)) := by
              rw [g1]
              simp [mkB]
            have hlen : (b ++ ahead).data.toList.length = b.size + ahead.size := by rw [← size_len, ByteArray.size_append]
            have hrs : r.size = b.size + ahead.size + (1 + (p.length + y.size)) := by
              rw [size_len, hrl, List.length_append, hlen, List.length_cons, List.length_append, ← size_len]; omega
            have hb0 : byteAt r (b.size + ahead.size) = p.length := by
              have e2 : b.size + ahead.size < r.data.toList.length := by rw [← size_len]; omega
              unfold byteAt
              rw [bt_list _ _ e2]
              have e4 : r.data.toList[b.size + ahead.size] = UInt8.ofNat p.length := by
                simp only [hrl]
                rw [List.getElem_append_right (by omega)]
                simp [hlen]
              rw [e4, Int.toNat_natCast, UInt8.toNat_ofNat']
              omega
            have hraw : rawL r (b.size + ahead.size) = p := by
              unfold rawL
              rw [hb0, hrl, show b.size + ahead.size + 1 = (b ++ ahead).data.toList.length + 1 by omega, List.drop_append]
              rw [List.drop_of_length_le (by omega), List.nil_append, Nat.add_sub_cancel_left, List.drop_one, List.tail_cons, List.take_append_of_le_length (Nat.le_refl _), List.take_length]
            refine ⟨mkB [UInt8.ofNat p.length] ++ mkB p ++ y, ((b.size + ahead.size : Nat) : Int) :: pl, ?_, ?_, ?_⟩
            · rw [g1]
              simp only [ByteArray.append_assoc]
            · rw [hsp, hp, List.map_cons]
              have := Reads.lab (t := r) (b.size + ahead.size) b.size _ pl r.size (by omega) (by omega) (by omega) (by rw [hb0, show b.size + ahead.size + 1 + p.length = b.size + (ahead.size + (1 + p.length)) by omega]; exact g2)
              rw [hraw, label_low hpl] at this
              exact this
            · rw [ByteArray.size_append, ByteArray.size_append, mkB_size, mkB_size, if_neg (by omega)]
              rw [mkB_size] at g3
              rw [List.length_singleton]
              by_cases hpn : parL rest.data.toList = []
              · rw [if_pos hpn] at hsz0
                rw [hpn] at g3
                simp at g3
                omega
              · rw [if_neg hpn] at hsz0
                have : 0 < (parL rest.data.toList).length := List.length_pos_iff.2 hpn
                rw [if_neg (by omega)] at g3
                omega
          · rw [if_neg c4] at h; cases h
      · rw [if_neg c2] at h; cases h
end Go.Proofs.YtomcfhbmdoomlaaDoor.Pure

-- PurePutR
/- PutName and SuffixesOf: what stands in what they return. Conditions: the texts' sizes. -/
namespace Go.Proofs.YtomcfhbmdoomlaaDoor.Pure
open Go.RowKit Go.Proofs.YtomcfhbmdoomlaaDoor.P Go.Proofs.YtomcfhbmdoomlaaDoorW.PrintWords Go.Proofs.YtomcfhbmdoomlaaDoorW.PrintLast
set_option linter.unusedVariables false
set_option linter.unusedSimpArgs false
/-- What is laid behind a text. -/
def Laid (b s r : ByteArray) : Prop := ∃ y pl, r = b ++ y ∧ Reads r b.size b.size ((labelsL s.data.toList).map mkB) pl r.size ∧ y.size ≤ s.size + (if s.size = 0 then 1 else 2)
theorem put_laid (b s : ByteArray) (hb : b.size ≤ 600) (hg : goodL s.data.toList = true) : ∃ r, Ev (fun k => spec_l2Put.f k b s) r ∧ Ev (fun k => impl_putName.f k b s) r ∧ Laid b s r := by
  have hsz := good_size hg
  rw [← size_len] at hsz
  obtain ⟨r, e1, e2⟩ := put_both b hb s hsz hg
  refine ⟨r, e1, e2, ?_⟩
  obtain ⟨places, _, p2, _, p4⟩ := suff2 b hb b.size 0 [] (by omega) (by omega) (by simp; omega) (fun x hx => by cases hx)
  obtain ⟨K, e2⟩ := e2
  have h := e2 K (Nat.le_refl _)
  unfold impl_putName.f at h
  obtain ⟨pl, hp, h⟩ := Option.bind_eq_some_iff.mp h
  have e : pl = places := Ev.unique (Ev.of (fun k => impl_suffixesOf.mono b k) hp) (Ev.congr (fun k => rfl) p2)
  rw [e] at h
  obtain ⟨y, pl', h1, h2, h3⟩ := put_reads b hb places p4 K (⟨#[]⟩ : ByteArray) s r h hg
  have e0 : b ++ (⟨#[]⟩ : ByteArray) = b := by
    refine ext_data ?_
    simp
  rw [e0] at h1
  rw [show (⟨#[]⟩ : ByteArray).size = 0 from rfl, Nat.add_zero] at h2
  exact ⟨y, pl', h1, h2, h3⟩
theorem implPut_good {b x r : ByteArray} (hb : b.size ≤ 600) (hg : goodL x.data.toList = true) (e2 : Ev (fun k => impl_putName.f k b x) r) : Ev (fun k => impl_PutName.f k b x) (if (r.size : Int) > 600 then failP else (r, true)) := by
  refine Ev.congr (f := fun k => impl_PutName.j0 k b x false) (fun k => by unfold impl_PutName.f impl_GoodName.f; rw [if_neg (by omega), hg]; rfl) ?_
  refine Ev.step (f := fun k => (impl_putName.f k b x).bind fun t305 => (if (t305.size : Int) > 600 then (some failP) else (some (t305, true)))) (fun k => rfl) (Ev.bind e2 ?_)
  by_cases h : (r.size : Int) > 600
  · simp only [if_pos h]; exact Ev.now _
  · simp only [if_neg h]; exact Ev.now _
/-- PutName, whole. -/
theorem putname_full (b s : ByteArray) (hb : b.size ≤ 1048576) (hs : s.size ≤ 1048576) : ∃ r, Ev (fun k => spec_PutName.f k b s) r ∧ Ev (fun k => impl_PutName.f k b s) r ∧ (r.2 = true → b.size ≤ 600 ∧ goodL s.data.toList = true ∧ r.1.size ≤ 600 ∧ Laid b s r.1) := by
  by_cases h6 : b.size ≤ 600
  · by_cases hg : goodL s.data.toList = true
    · obtain ⟨r, e1, e2, e3⟩ := put_laid b s h6 hg
      refine ⟨_, specPut_good h6 hg e1, implPut_good h6 hg e2, fun h => ?_⟩
      by_cases hr : (r.size : Int) > 600
      · rw [if_pos hr] at h; cases h
      · rw [if_neg hr] at h ⊢
        exact ⟨h6, hg, by show r.size ≤ 600; omega, e3⟩
    · have hgf := Bool.eq_false_iff.mpr hg
      refine ⟨failP, specPut_bad h6 hs hgf, ?_, fun h => by cases h⟩
      refine Ev.congr (f := fun k => impl_PutName.j0 k b s true) (fun k => by unfold impl_PutName.f impl_GoodName.f; rw [if_neg (by omega), hgf]; rfl) ?_
      exact Ev.step (f := fun _ => some failP) (fun k => rfl) (Ev.now _)
  · refine ⟨failP, Ev.of (fun k => spec_PutName.mono _ _ _) (k := 1) ?_, Ev.of (fun k => impl_PutName.mono _ _ _) (k := 1) ?_, fun h => by cases h⟩
    · unfold spec_PutName.f; rw [if_pos (by omega)]; rfl
    · unfold impl_PutName.f; rw [if_pos (by omega)]; rfl
/-- A place at which a name stands. -/
def GoodPlace (s : ByteArray) (x : Int) : Prop := 0 ≤ x ∧ x < (s.size : Int) ∧ ∃ ls pl en, Reads s x.toNat x.toNat ls pl en ∧ ls.length ≤ 8 ∧ (nameR ls).2 = true
section
variable (s : ByteArray) (hs : s.size ≤ 600)
include hs
theorem suff3 : ∀ (n a : Nat) (acc : List Int), s.size - a ≤ n → a ≤ s.size → acc.length + 9 * n ≤ 100000 → (∀ x ∈ acc, GoodPlace s x ∧ x < (a : Int)) → acc.Pairwise (· < ·) →
    ∃ r, Ev (fun k => spec_l2Suffixes.l0 k s acc (a : Int)) r ∧ Ev (fun k => impl_suffixesOf.l0 k s acc (a : Int)) r ∧ r.length ≤ 100000 ∧ (∀ x ∈ r, GoodPlace s x) ∧ r.Pairwise (· < ·)
  | n, a, acc, hn, ha, hl, hacc, hpw => by
    by_cases h : (a : Int) < (s.size : Int)
    · obtain ⟨r, r', g1, g2, g3, g4⟩ := take_both2 s hs a ha
      have es : ∀ k, spec_l2Suffixes.l0 (k + 1) s acc (a : Int) = (spec_l2Take.f k s (a : Int)).bind fun bt178 => (if bt178.2.2.2 = true then (if acc.length + bt178.2.2.1.length < 17592186044416 then (spec_l2Suffixes.l0 k s (acc ++ bt178.2.2.1) bt178.2.1) else (none)) else (some acc)) := fun k => by
        conv => lhs; unfold spec_l2Suffixes.l0
        rw [if_pos h]
      have ei : ∀ k, impl_suffixesOf.l0 (k + 1) s acc (a : Int) = (impl_takeName.f k s (a : Int)).bind fun bt193 => (if bt193.2.2.2 = true then (if acc.length + bt193.2.1.length < 17592186044416 then (impl_suffixesOf.l0 k s (acc ++ bt193.2.1) bt193.2.2.1) else (none)) else (some acc)) := fun k => by
        conv => lhs; unfold impl_suffixesOf.l0
        rw [if_pos h]
      by_cases hr : r.2.2.2 = true
      · obtain ⟨q1, q2, q3, q4, q5, q6, q7⟩ := g4 hr
        obtain ⟨b, hb⟩ : ∃ b : Nat, r.2.1 = (b : Int) := ⟨r.2.1.toNat, by omega⟩
        have g2' := g2
        obtain ⟨K, gK⟩ := g2'
        have hr' := hr
        rw [g3] at hr'
        obtain ⟨ls, pl, en, t1, t2, t3, t4, t5⟩ := taken s hs (gK K (Nat.le_refl _)) hr'
        have hen : en = b := by rw [← q2, hb] at t5; omega
        subst hen
        have hpl : r.2.2.1 = pl := by rw [q3, t4]
        obtain ⟨b1, b2, b3, b4, b5⟩ := t1.bound
        have hgood : ∀ x ∈ pl, GoodPlace s x ∧ x < (en : Int) := by
          intro x hx
          obtain ⟨x1, x2⟩ := b3 x hx
          obtain ⟨l1, l2, pl', e1, e2⟩ := t1.place x hx
          refine ⟨⟨by omega, by omega, l2, pl', en, e2.more _ (by omega), ?_, ?_⟩, x2⟩
          · rw [e1, List.length_append] at t2; omega
          · exact name_end (l1 := l1) (by rw [← e1, t3])
        obtain ⟨t, f1, f2, f3⟩ := suff3 (n - 1) en (acc ++ r.2.2.1) (by omega) (by omega) (by rw [List.length_append]; omega) (by
          rw [hpl]
          intro x hx
          rcases List.mem_append.1 hx with hx | hx
          · have := hacc x hx
            exact ⟨this.1, by omega⟩
          · exact hgood x hx) (by
          rw [hpl]
          refine List.pairwise_append.2 ⟨hpw, b5, fun x hx y hy => ?_⟩
          have h1 := (hacc x hx).2
          have h2 := (b3 y hy).1
          omega)
        refine ⟨t, Ev.step es (Ev.bind g1 ?_), Ev.step ei (Ev.bind g2 ?_), f3⟩
        · simp only [if_pos hr, if_pos (show acc.length + r.2.2.1.length < 17592186044416 by omega), hb]
          exact f1
        · rw [g3] at hr
          simp only [if_pos hr, ← q3, ← q2, if_pos (show acc.length + r.2.2.1.length < 17592186044416 by omega), hb]
          exact f2
      · refine ⟨acc, Ev.step es (Ev.bind g1 ?_), Ev.step ei (Ev.bind g2 ?_), by omega, (fun x hx => (hacc x hx).1), hpw⟩
        · simp only [if_neg hr]; exact Ev.now _
        · rw [g3] at hr
          simp only [if_neg hr]; exact Ev.now _
    · refine ⟨acc, Ev.step (f := fun _ => some acc) (fun k => ?_) (Ev.now _), Ev.step (f := fun _ => some acc) (fun k => ?_) (Ev.now _), by omega, (fun x hx => (hacc x hx).1), hpw⟩
      · show spec_l2Suffixes.l0 (k + 1) s acc (a : Int) = _
        conv => lhs; unfold spec_l2Suffixes.l0
        rw [if_neg h]
      · show impl_suffixesOf.l0 (k + 1) s acc (a : Int) = _
        conv => lhs; unfold impl_suffixesOf.l0
        rw [if_neg h]
  termination_by n => n
end
/-- SuffixesOf, whole. -/
theorem suffixes_full (s : ByteArray) (hs : s.size ≤ 1048576) : ∃ r, Ev (fun k => spec_SuffixesOf.f k s) r ∧ Ev (fun k => impl_SuffixesOf.f k s) r ∧ r.1.length ≤ 100000 ∧ (∀ x ∈ r.1, s.size ≤ 600 ∧ GoodPlace s x) ∧ r.1.Pairwise (· < ·) := by
  by_cases h6 : (s.size : Int) > 600
  · exact ⟨([], false), Ev.congr (fun k => by unfold spec_SuffixesOf.f; rw [if_pos h6]) (Ev.now _), Ev.congr (fun k => by unfold impl_SuffixesOf.f; rw [if_pos h6]) (Ev.now _), by simp, (fun x hx => by cases hx), .nil⟩
  · obtain ⟨r, f1, f2, f3, f4, f5⟩ := suff3 s (by omega) s.size 0 [] (by omega) (by omega) (by simp; omega) (fun x hx => by cases hx) .nil
    exact ⟨(r, true), Ev.congr (fun k => by unfold spec_SuffixesOf.f; rw [if_neg h6]; rfl) (Ev.bind (f := fun _ t => some (t, true)) f1 (Ev.now _)), Ev.congr (fun k => by unfold impl_SuffixesOf.f; rw [if_neg h6]; rfl) (Ev.bind (f := fun _ t => some (t, true)) f2 (Ev.now _)), f3, (fun x hx => ⟨by omega, f4 x hx⟩), f5⟩
end Go.Proofs.YtomcfhbmdoomlaaDoor.Pure
