/- FnExactReadData: part 23 of 26 of my texts for this claim, joined; the theorem stands in the last. Conditions: none beyond the statement's. -/
import Derived.Test.YtiegkjimpclmaaaGreatDoorMFnExactReadDatax21
import Derived.Test.YtiegkjimpclmaaaGreatDoorMFnExactReadDatax14
import Derived.Test.YtiegkjimpclmaaaGreatDoorMFnExactReadDatax10
import Derived.Test.YtiegkjimpclmaaaGreatDoorMFnExactReadDatax20
-- PureData
/- 'laws.FnExactDataBytes': what DataBytes returns, in the reference and in the program. Conditions: the texts' sizes. -/
namespace Go.Proofs.YtiegkjimpclmaaaGreatDoor.Pure
open Go.RowKit Go.Proofs.YtiegkjimpclmaaaGreatDoor.P Go.Proofs.YtiegkjimpclmaaaGreatDoorW.PrintWords Go.Proofs.YtiegkjimpclmaaaGreatDoorW.PrintLast Go.Proofs.YtiegkjimpclmaaaGreatDoorW.PrintMore
set_option linter.unusedVariables false
set_option linter.unusedSimpArgs false
theorem split32_loop (s : ByteArray) (hs : s.size < 1099511627776) : ∀ (m i a : Nat) (acc : List ByteArray), i + m = s.size → a ≤ i → (∀ x ∈ (s.data.toList.drop a).take (i - a), x ≠ 32) → acc.length ≤ a →
    spec_l1Split.l0 (m + 1) s 32 acc (a : Int) (i : Int) = some (acc ++ (splitL 32 (s.data.toList.drop a)).map mkB)
  | 0, i, a, acc, him, hai, hx, hacc => by
    unfold spec_l1Split.l0
    rw [if_neg (by omega), if_pos (by omega), if_pos (by omega), if_pos (by omega)]
    rw [List.take_of_length_le (by rw [List.length_drop, ← size_len]; omega)] at hx
    rw [splitL_none 32 _ hx, Int.toNat_natCast, ext_end]
    rfl
  | m + 1, i, a, acc, him, hai, hx, hacc => by
    have hi : i < s.data.toList.length := by rw [← size_len]; omega
    unfold spec_l1Split.l0
    rw [if_pos (by omega), if_pos (by omega), bt_list s i hi, w64n (by omega)]
    have hd : s.data.toList.drop a = (s.data.toList.drop a).take (i - a) ++ s.data.toList[i] :: s.data.toList.drop (i + 1) := by
      conv => lhs; rw [← List.take_append_drop (i - a) (s.data.toList.drop a)]
      congr 1
      rw [List.drop_drop, show a + (i - a) = i by omega, List.drop_eq_getElem_cons hi]
    by_cases h : s.data.toList[i] = 32
    · rw [if_pos (by rw [h]; rfl), if_pos (by omega), if_pos (by omega), if_pos (by omega), if_pos (by omega), Int.toNat_natCast, Int.toNat_natCast, ext_mkB]
      rw [split32_loop s hs m (i + 1) (i + 1) _ (by omega) (by omega) (by simp) (by simp; omega)]
      conv => rhs; rw [hd, h, splitL_hit 32 _ _ hx]
      simp
    · rw [if_neg (by intro e; apply h; apply UInt8.toNat_inj.1; simpa using Int.ofNat.inj e)]
      refine split32_loop s hs m (i + 1) a acc (by omega) (by omega) ?_ hacc
      intro x hm
      rw [show i + 1 - a = (i - a) + 1 by omega, List.take_add_one] at hm
      rcases List.mem_append.1 hm with hm | hm
      · exact hx x hm
      · rw [List.getElem?_drop, show a + (i - a) = i by omega, List.getElem?_eq_getElem hi] at hm
        obtain rfl : x = s.data.toList[i] := by simpa using hm
        exact h

theorem split32_ev (s : ByteArray) (hs : s.size < 1099511627776) : Ev (fun k => spec_l1Split.f k s 32) ((splitL 32 s.data.toList).map mkB) := by
  refine Ev.of (fun k => spec_l1Split.mono _ _ _) (k := s.size + 1) ?_
  unfold spec_l1Split.f
  have := split32_loop s hs s.size 0 0 [] (by omega) (by omega) (by simp) (by simp)
  simpa using this

/-- The text of parts with dots between. -/
def unL : List (List UInt8) → List UInt8
  | [] => []
  | [p] => p
  | p :: q :: r => p ++ 46 :: unL (q :: r)
theorem unL_split : ∀ s : List UInt8, unL (splitL 46 s) = s
  | [] => rfl
  | x :: xs => by
    have ih := unL_split xs
    obtain ⟨p, ps, hp⟩ := List.exists_cons_of_ne_nil (splitL_ne 46 xs)
    unfold splitL
    rw [hp] at ih ⊢
    by_cases h : x = 46
    · rw [if_pos h]
      show [] ++ 46 :: unL (p :: ps) = _
      rw [ih, h]
      rfl
    · rw [if_neg h]
      cases ps with
      | nil => show x :: p = _; rw [show p = xs from ih]
      | cons q r =>
        show (x :: p) ++ 46 :: unL (q :: r) = _
        have ih2 : p ++ 46 :: unL (q :: r) = xs := ih
        rw [List.cons_append, ih2]
theorem label_dot {x : List UInt8} (h : isLabelL x = true) : ∀ y ∈ x, y ≠ 46 := by
  intro y hy e
  subst e
  unfold isLabelL at h
  simp only [Bool.or_eq_true, Bool.and_eq_true, beq_iff_eq, List.all_eq_true] at h
  rcases h with h | h
  · rw [h] at hy
    simp at hy
  · exact absurd (h.2 46 hy) (by decide)
theorem good_all {s : List UInt8} (h : goodL s = true) : (labelsL s).length ≤ 8 ∧ ∀ x ∈ labelsL s, isLabelL x = true := by
  unfold goodL at h
  simp only [Bool.and_eq_true, decide_eq_true_eq, List.all_eq_true] at h
  exact h.2
theorem big1 (n : Int) : Ev (fun k => impl_big.f k n 1) (strOfNums [n % 256]) := by
  refine Ev.of (fun k => impl_big.mono _ _ _) (k := 2) ?_
  show impl_big.f 2 n 1 = _
  simp [impl_big.f, impl_big.l0, wrap64, shr, IntKind.bits]
theorem num1 (n : Int) : Ev (fun k => spec_l3Number.f k n 1) (strOfNums [n % 256]) := by
  refine Ev.of (fun k => spec_l3Number.mono _ _ _) (k := 2) ?_
  show spec_l3Number.f 2 n 1 = _
  simp [spec_l3Number.f, spec_l3Number.l0, wrap64]
theorem big2 (n : Int) : Ev (fun k => impl_big.f k n 2) (strOfNums [n / 256 % 256, n % 256]) := by
  refine Ev.of (fun k => impl_big.mono _ _ _) (k := 3) ?_
  show impl_big.f 3 n 2 = _
  simp [impl_big.f, impl_big.l0, wrap64, shr, IntKind.bits]
theorem num2 (n : Int) : Ev (fun k => spec_l3Number.f k n 2) (strOfNums [n / 256 % 256, n % 256]) := by
  refine Ev.of (fun k => spec_l3Number.mono _ _ _) (k := 3) ?_
  show spec_l3Number.f 3 n 2 = _
  simp [spec_l3Number.f, spec_l3Number.l0, wrap64]
theorem big4 (n : Int) : Ev (fun k => impl_big.f k n 4) (strOfNums [n / 16777216 % 256, n / 65536 % 256, n / 256 % 256, n % 256]) := by
  refine Ev.of (fun k => impl_big.mono _ _ _) (k := 5) ?_
  show impl_big.f 5 n 4 = _
  simp [impl_big.f, impl_big.l0, wrap64, shr, IntKind.bits]
theorem num4 (n : Int) : Ev (fun k => spec_l3Number.f k n 4) (strOfNums [n / 16777216 % 256, n / 65536 % 256, n / 256 % 256, n % 256]) := by
  refine Ev.of (fun k => spec_l3Number.mono _ _ _) (k := 5) ?_
  show spec_l3Number.f 5 n 4 = _
  simp [spec_l3Number.f, spec_l3Number.l0, wrap64, Int.ediv_ediv_of_nonneg]
/-- Is a text a name that data may have? -/
def targL (l : List UInt8) : Bool := decide (l ≠ []) && (goodL l && !l.contains 42)
theorem contains_eq (s : ByteArray) : strings_Contains.f s (⟨#[42]⟩ : ByteArray) = some (s.data.toList.contains 42) := by
  unfold strings_Contains.f strings_Index.f internal_stringslite_Index.f
  rw [if_pos (show (⟨#[42]⟩ : ByteArray).size = 1 from rfl)]
  simp only [Option.bind_some]
  rw [show List.headD (⟨#[42]⟩ : ByteArray).data.toList 0 = 42 from rfl]
  congr 1
  rcases place_or 42 s.data.toList with ⟨h1, h2⟩ | ⟨p, r, h1, h2, h3⟩
  · rw [h1]
    have : s.data.toList.contains 42 = false := by
      rw [Bool.eq_false_iff]
      intro h
      rw [List.contains_iff_mem] at h
      exact h2 42 h rfl
    rw [this]
    rfl
  · rw [h3]
    have : s.data.toList.contains 42 = true := by
      rw [List.contains_iff_mem, h1]
      simp
    rw [this]
    exact decide_eq_true (by omega)
theorem target_impl (s : ByteArray) : impl_isTarget.f s = some (targL s.data.toList) := by
  unfold impl_isTarget.f impl_GoodName.f targL
  rw [Lib.toList_data, contains_eq]
  by_cases h : s.data.toList = []
  · rw [if_pos h, decide_eq_false (by simp [h])]; rfl
  · rw [if_neg h, decide_eq_true h, Option.bind_some, Bool.true_and]
    cases goodL s.data.toList with
    | true => rfl
    | false => rfl
theorem split_mem : ∀ (l : List UInt8) (b : UInt8), b ≠ 46 → (b ∈ l ↔ ∃ p ∈ splitL 46 l, b ∈ p)
  | [], b, hb => by simp [splitL]
  | x :: xs, b, hb => by
    have ih := split_mem xs b hb
    obtain ⟨p, ps, hp⟩ := List.exists_cons_of_ne_nil (splitL_ne 46 xs)
    unfold splitL
    rw [hp] at ih ⊢
    by_cases h : x = 46
    · rw [if_pos h, List.mem_cons, ih]
      constructor
      · rintro (e | ⟨q, hq, hb2⟩)
        · exact absurd (e.trans h) hb
        · exact ⟨q, List.mem_cons_of_mem _ hq, hb2⟩
      · rintro ⟨q, hq, hb2⟩
        rcases List.mem_cons.1 hq with rfl | hq
        · cases hb2
        · exact .inr ⟨q, hq, hb2⟩
    · rw [if_neg h, List.mem_cons, ih]
      constructor
      · rintro (e | ⟨q, hq, hb2⟩)
        · exact ⟨x :: p, List.mem_cons_self, by rw [e]; exact List.mem_cons_self⟩
        · rcases List.mem_cons.1 hq with rfl | hq
          · exact ⟨x :: q, List.mem_cons_self, List.mem_cons_of_mem _ hb2⟩
          · exact ⟨q, List.mem_cons_of_mem _ hq, hb2⟩
      · rintro ⟨q, hq, hb2⟩
        rcases List.mem_cons.1 hq with rfl | hq
        · rcases List.mem_cons.1 hb2 with e | hb2
          · exact .inl e
          · exact .inr ⟨p, List.mem_cons_self, hb2⟩
        · exact .inr ⟨q, List.mem_cons_of_mem _ hq, hb2⟩
theorem star_label {s : List UInt8} (h : goodL s = true) : s.contains 42 = true ↔ ∃ p ∈ labelsL s, p = [42] := by
  rw [List.contains_iff_mem]
  unfold labelsL
  by_cases h0 : s = []
  · rw [if_pos h0, h0]; simp
  · rw [if_neg h0, split_mem s 42 (by decide)]
    have hg := (good_all h).2
    unfold labelsL at hg
    rw [if_neg h0] at hg
    constructor
    · rintro ⟨p, hp, h42⟩
      refine ⟨p, hp, ?_⟩
      have := hg p hp
      unfold isLabelL at this
      rw [Bool.or_eq_true, beq_iff_eq, Bool.and_eq_true, List.all_eq_true] at this
      rcases this with e | e
      · exact e
      · exact absurd (e.2 42 h42) (by decide)
    · rintro ⟨p, hp, rfl⟩
      exact ⟨_, hp, List.mem_cons_self⟩
theorem td_rd (l : List ByteArray) (i : Nat) (h : i < l.length) : rdOf ByteArray.empty l (i : Int) = l[i] := by
  unfold rdOf
  rw [Int.toNat_natCast, List.getD_eq_getElem?_getD, List.getElem?_eq_getElem h]
  rfl
theorem target_loop (s : ByteArray) (l : List ByteArray) (hl : l.length < 1099511627776) : ∀ (m i : Nat) (ok : Bool), i + m = l.length →
    Ev (fun k => spec_l3Target.l0 k s ok l (l.length : Int) (i : Int)) (ok && ((l.drop i).all (fun x => decide (x.data.toList ≠ [42])) && decide (s.data.toList ≠ [])))
  | 0, i, ok, him => by
    rw [List.drop_of_length_le (by omega), List.all_nil, Bool.true_and]
    refine Ev.step (f := fun _ => some (ok && decide (s.data.toList ≠ []))) (fun k => ?_) (Ev.now _)
    show spec_l3Target.l0 (k + 1) s ok l (l.length : Int) (i : Int) = _
    conv => lhs; unfold spec_l3Target.l0
    rw [if_neg (by omega), Lib.toList_data]
    cases ok with
    | true =>
      rw [if_pos rfl, Bool.true_and]
      congr 1
      by_cases h : s.data.toList = []
      · rw [h]; simp
      · rw [decide_eq_true h, bne_iff_ne.mpr h]
    | false => rfl
  | m + 1, i, ok, him => by
    have hi : i < l.length := by omega
    have ih := target_loop s l hl m (i + 1) (ok && decide (l[i].data.toList ≠ [42])) (by omega)
    have e : (ok && decide (l[i].data.toList ≠ [42]) && ((l.drop (i + 1)).all (fun x => decide (x.data.toList ≠ [42])) && decide (s.data.toList ≠ []))) = (ok && ((l.drop i).all (fun x => decide (x.data.toList ≠ [42])) && decide (s.data.toList ≠ []))) := by
      rw [List.drop_eq_getElem_cons hi]
      rw [List.all_cons]
      cases ok
      · rfl
      · rw [Bool.true_and, Bool.true_and, Bool.and_assoc]
    rw [e] at ih
    refine Ev.step (fun k => ?_) ih
    show spec_l3Target.l0 (k + 1) s ok l (l.length : Int) (i : Int) = _
    conv => lhs; unfold spec_l3Target.l0
    rw [if_pos (by omega), if_pos (by omega), if_pos (by omega), td_rd l i hi, w64n (by omega), Lib.toList_data]
    cases ok with
    | true =>
      rw [if_pos rfl, Bool.true_and]
      congr 1
      by_cases h : l[i].data.toList = [42]
      · rw [h]; simp
      · rw [decide_eq_true h, bne_iff_ne.mpr h]
    | false => rfl
theorem Ev.unique {α : Type} {g : Nat → Option α} {r r' : α} (h : Ev g r) (h' : Ev g r') : r = r' := by
  obtain ⟨K, h⟩ := h
  obtain ⟨K', h'⟩ := h'
  have h1 := h (max K K') (by omega)
  rw [h' (max K K') (by omega)] at h1
  exact (Option.some.inj h1).symm
theorem labels_short (s : ByteArray) (hs : s.size ≤ 1048576) (r : List ByteArray × Bool) (e : Ev (fun k => spec_l1Labels.f k s) r) : r.1.length < 1099511627776 := by
  by_cases h : s.data.toList = []
  · have h2 : Ev (fun k => spec_l1Labels.f k s) ([], true) := Ev.congr (fun k => by unfold spec_l1Labels.f; rw [if_pos (by rw [Lib.toList_data]; exact h)]) (Ev.now _)
    rw [Ev.unique e h2]
    simp
  · have hlen : ((splitL 46 s.data.toList).map mkB).length ≤ s.size + 1 := by rw [List.length_map, size_len]; exact splitL_len _ _
    have h2 : Ev (fun k => spec_l1Labels.f k s) (labsR s ((splitL 46 s.data.toList).map mkB) 0) := by
      refine Ev.congr (f := fun k => (spec_l1Split.f k s 46).bind fun t => spec_l1Labels.l0 k s t t (t.length : Int) 0) (fun k => ?_) (Ev.bind (split_ev s (by omega)) ?_)
      · show spec_l1Labels.f k s = _
        unfold spec_l1Labels.f
        rw [if_neg (by rw [Lib.toList_data]; exact h)]
      · refine labels_loop s _ ?_ (by omega) _ 0 (Nat.zero_add _)
        intro p hp
        obtain ⟨q, hq, rfl⟩ := List.mem_map.1 hp
        have := splitL_part 46 _ q hq
        rw [mkB_size]
        rw [← size_len] at this
        omega
    rw [Ev.unique e h2]
    unfold labsR
    split
    · split
      · show ((splitL 46 s.data.toList).map mkB).length < _; omega
      · show ((splitL 46 s.data.toList).map mkB).length < _; omega
    · simp
theorem target_spec (s : ByteArray) (hs : s.size ≤ 1048576) : Ev (fun k => spec_l3Target.f k s) (targL s.data.toList) := by
  obtain ⟨r, e1, e2, e3⟩ := labels_ev s (by omega)
  have hlen : r.1.length < 1099511627776 := by
    by_cases h : r.2 = true
    · rw [e3 h, List.length_map]
      have := (good_all (e2.symm.trans h)).1
      omega
    · exact labels_short s hs r e1
  refine Ev.congr (fun k => rfl) (Ev.bind e1 ?_)
  have := target_loop s r.1 hlen r.1.length 0 r.2 (by omega)
  rw [List.drop_zero] at this
  have et : (r.2 && (r.1.all (fun x => decide (x.data.toList ≠ [42])) && decide (s.data.toList ≠ []))) = targL s.data.toList := by
    unfold targL
    rw [e2]
    cases hg : goodL s.data.toList with
    | false => simp
    | true =>
      rw [e3 (e2.trans hg), Bool.true_and, Bool.true_and, Bool.and_comm]
      congr 1
      have h1 := star_label hg
      rw [Bool.eq_iff_iff, List.all_eq_true, Bool.not_eq_true', Bool.eq_false_iff]
      constructor
      · intro h2 h3
        obtain ⟨p, hp, rfl⟩ := h1.1 h3
        exact of_decide_eq_true (h2 (mkB [42]) (List.mem_map.2 ⟨_, hp, rfl⟩)) (mkB_data _)
      · intro h2 x hx
        refine decide_eq_true fun h3 => ?_
        obtain ⟨p, hp, rfl⟩ := List.mem_map.1 hx
        rw [mkB_data] at h3
        exact h2 (h1.2 ⟨p, hp, h3⟩)
  rw [et] at this
  exact this
end Go.Proofs.YtiegkjimpclmaaaGreatDoor.Pure

-- PureReadT
/- What stands at a place of a text: the labels of a name (the part of PureRead that the readings of data need). Conditions: the texts are short. -/
namespace Go.Proofs.YtiegkjimpclmaaaGreatDoor.Pure
open Go.RowKit Go.Proofs.YtiegkjimpclmaaaGreatDoor.P Go.Proofs.YtiegkjimpclmaaaGreatDoorW.PrintWords Go.Proofs.YtiegkjimpclmaaaGreatDoorW.PrintLast
set_option linter.unusedVariables false
set_option linter.unusedSimpArgs false
set_option linter.unusedSectionVars false

/-- At the place a stand the labels ls; pointers lead below le. pl: the places of the labels that stand there themselves; en: the place behind. -/
inductive Reads (t : ByteArray) : Nat → Nat → List ByteArray → List Int → Nat → Prop
  | fin (a le : Nat) (h : a < t.size) (h0 : byteAt t a = 0) : Reads t a le [] [] (a + 1)
  | ptr (a le : Nat) (ls : List ByteArray) (pl : List Int) (en : Nat) (h : a + 1 < t.size) (h0 : 192 ≤ byteAt t a) (hp : ptrOf t a < le) (hr : Reads t (ptrOf t a) (ptrOf t a) ls pl en) : Reads t a le ls [] (a + 2)
  | lab (a le : Nat) (ls : List ByteArray) (pl : List Int) (en : Nat) (h0 : 0 < byteAt t a) (h1 : byteAt t a < 64) (h2 : a + 1 + byteAt t a ≤ t.size) (hr : Reads t (a + 1 + byteAt t a) le ls pl en) :
      Reads t a le (mkB ((rawL t a).map lowB) :: ls) ((a : Int) :: pl) en

theorem Reads.more {t : ByteArray} {a le : Nat} {ls : List ByteArray} {pl : List Int} {en : Nat} (h : Reads t a le ls pl en) : ∀ le', le ≤ le' → Reads t a le' ls pl en := by
  induction h with
  | fin a le h h0 => exact fun le' _ => .fin a le' h h0
  | ptr a le ls pl en h h0 hp hr ih => exact fun le' hl => .ptr a le' ls pl en h h0 (by omega) hr
  | lab a le ls pl en h0 h1 h2 hr ih => exact fun le' hl => .lab a le' ls pl en h0 h1 h2 (ih le' hl)

theorem byteAt_app (b x : ByteArray) (a : Nat) (h : a < b.size) : byteAt (b ++ x) a = byteAt b a := by
  have h1 : a < b.data.toList.length := by rw [← size_len]; exact h
  have h2 : a < (b ++ x).data.toList.length := by rw [← size_len, ByteArray.size_append]; omega
  have e := bt_list b a h1
  have e2 := bt_list (b ++ x) a h2
  have e3 : (b ++ x).data.toList = b.data.toList ++ x.data.toList := by simp
  have e4 : (b ++ x).data.toList[a] = b.data.toList[a] := by
    simp only [e3]
    exact List.getElem_append_left h1
  unfold byteAt
  rw [e, e2, e4]
theorem rawL_app (b x : ByteArray) (a : Nat) (h : a + 1 + byteAt b a ≤ b.size) : rawL (b ++ x) a = rawL b a := by
  unfold rawL
  rw [byteAt_app b x a (by omega), show (b ++ x).data.toList = b.data.toList ++ x.data.toList by simp, List.drop_append_of_le_length (by rw [← size_len]; omega), List.take_append_of_le_length (by rw [List.length_drop, ← size_len]; omega)]
theorem ptrOf_app (b x : ByteArray) (a : Nat) (h : a + 1 < b.size) : ptrOf (b ++ x) a = ptrOf b a := by
  unfold ptrOf
  rw [byteAt_app b x a (by omega), byteAt_app b x (a + 1) h]
theorem Reads.app {b : ByteArray} {a le : Nat} {ls : List ByteArray} {pl : List Int} {en : Nat} (h : Reads b a le ls pl en) (x : ByteArray) : Reads (b ++ x) a le ls pl en := by
  induction h with
  | fin a le h h0 => exact .fin a le (by rw [ByteArray.size_append]; omega) (by rw [byteAt_app b x a h]; exact h0)
  | ptr a le ls pl en h h0 hp hr ih =>
    have e := ptrOf_app b x a h
    exact .ptr a le ls pl en (by rw [ByteArray.size_append]; omega) (by rw [byteAt_app b x a (by omega)]; exact h0) (by rw [e]; exact hp) (by rw [e]; exact ih)
  | lab a le ls pl en h0 h1 h2 hr ih =>
    have e := byteAt_app b x a (by omega)
    have e2 := rawL_app b x a h2
    have := Reads.lab (t := b ++ x) a le ls pl en (by rw [e]; exact h0) (by rw [e]; exact h1) (by rw [e, ByteArray.size_append]; omega) (by rw [e]; exact ih)
    rw [e2] at this
    exact this
theorem Reads.bound {t : ByteArray} {a le : Nat} {ls : List ByteArray} {pl : List Int} {en : Nat} (h : Reads t a le ls pl en) : a < en ∧ en ≤ t.size ∧ (∀ x ∈ pl, (a : Int) ≤ x ∧ x < (en : Int)) ∧ pl.length ≤ ls.length ∧ pl.Pairwise (· < ·) := by
  induction h with
  | fin a le h h0 => exact ⟨by omega, by omega, (fun x hx => by cases hx), Nat.le_refl _, .nil⟩
  | ptr a le ls pl en h h0 hp hr ih => exact ⟨by omega, by omega, (fun x hx => by cases hx), Nat.zero_le _, .nil⟩
  | lab a le ls pl en h0 h1 h2 hr ih =>
    obtain ⟨i1, i2, i3, i4, i5⟩ := ih
    refine ⟨by omega, i2, fun x hx => ?_, by simpa using i4, List.pairwise_cons.2 ⟨fun x hx => by have := i3 x hx; omega, i5⟩⟩
    rcases List.mem_cons.1 hx with rfl | hx
    · omega
    · have := i3 x hx; omega
/-- At each of its own places stands an end of the name. -/
theorem Reads.place {t : ByteArray} {a le : Nat} {ls : List ByteArray} {pl : List Int} {en : Nat} (h : Reads t a le ls pl en) : ∀ x ∈ pl, ∃ ls1 ls2 pl', ls = ls1 ++ ls2 ∧ Reads t x.toNat le ls2 pl' en := by
  induction h with
  | fin a le h h0 => exact fun x hx => by cases hx
  | ptr a le ls pl en h h0 hp hr ih => exact fun x hx => by cases hx
  | lab a le ls pl en h0 h1 h2 hr ih =>
    intro x hx
    rcases List.mem_cons.1 hx with rfl | hx
    · exact ⟨[], _, _, rfl, .lab a le ls pl en h0 h1 h2 hr⟩
    · obtain ⟨l1, l2, p', e, h'⟩ := ih x hx
      exact ⟨mkB ((rawL t a).map lowB) :: l1, l2, p', by rw [e]; rfl, h'⟩

section
variable (s : ByteArray) (hs : s.size ≤ 600)
include hs
theorem reads_take {a le : Nat} {ls : List ByteArray} {pl : List Int} {en : Nat} (h : Reads s a le ls pl en) : ∀ (L : List ByteArray) (p : List Int) (e : Int), L.length + ls.length ≤ 8 → p.length ≤ L.length →
    Ev (fun k => impl_takeName.l0 k s (a : Int) L p (le : Int) e) ((nameR (L ++ ls)).1, (if e < 0 then p ++ pl else p), (if e < 0 then (en : Int) else e), (nameR (L ++ ls)).2) := by
  induction h with
  | fin a le h h0 =>
    intro L p e hL hp
    have hi := impl_end s hs 0 a L p le e h (by simp at hL; omega) h0
    rw [List.append_nil, List.append_nil, ite_self]
    exact Ev.of (fun k => (impl_takeName.mono_l k).1 _ _ _ _ _ _) hi
  | ptr a le ls pl en h h0 hp' hr ih =>
    intro L p e hL hp
    have := ih L p (endOf e (a + 2)) hL hp
    have he : ¬ endOf e (a + 2) < 0 := by unfold endOf; split <;> omega
    rw [if_neg he, if_neg he] at this
    rw [List.append_nil, ite_self]
    have e2 : endOf e (a + 2) = if e < 0 then ((a + 2 : Nat) : Int) else e := rfl
    rw [e2] at this
    exact Ev.step (fun k => rfl) (Ev.step (g := fun k => impl_takeName.l0 (k + 1) s (a : Int) L p (le : Int) e) (fun k => (impl_ptr s hs k a L p le e (by omega) (by omega) h0 h).trans (if_neg (by omega))) this)
  | lab a le ls pl en h0 h1 h2 hr ih =>
    intro L p e hL hp
    rw [List.length_cons] at hL
    have := ih (L ++ [mkB ((rawL s a).map lowB)]) (plc e p a) e (by simp; omega) (by unfold plc; split <;> simp <;> omega)
    have ep : (if e < 0 then plc e p a ++ pl else plc e p a) = if e < 0 then p ++ (a : Int) :: pl else p := by
      unfold plc
      split
      · simp
      · rfl
    rw [ep, List.append_assoc] at this
    exact Ev.step (fun k => rfl) (Ev.step (fun k => rfl) (Ev.step (g := fun k => impl_takeName.l0 (k + 2) s (a : Int) L p (le : Int) e) (fun k => impl_lab s hs k a L p le e (by omega) (by omega) (by omega) h0 h1 h2) this))
theorem take_reads : ∀ (n a : Nat) (L : List ByteArray) (p : List Int) (le : Nat) (e : Int), le * 10 + (9 - L.length) ≤ n → L.length ≤ 9 → p.length ≤ L.length →
    (∃ ls pl en, Reads s a le ls pl en ∧ L.length + ls.length ≤ 8) ∨ ∃ r, Ev (fun k => impl_takeName.l0 k s (a : Int) L p (le : Int) e) r ∧ r.1 = (⟨#[]⟩ : ByteArray) ∧ r.2.2.2 = false
  | n, a, L, p, le, e, hn, hL, hp => by
    by_cases ho : s.size ≤ a ∨ 8 < L.length
    · exact .inr ⟨failI, Ev.of (fun k => (impl_takeName.mono_l k).1 _ _ _ _ _ _) (impl_out s hs 0 a L p le e ho), rfl, rfl⟩
    · have h1 : a < s.size := by omega
      have h2 : L.length ≤ 8 := by omega
      by_cases v0 : byteAt s a = 0
      · exact .inl ⟨[], [], a + 1, .fin a le h1 v0, by simpa using h2⟩
      · by_cases v1 : 192 ≤ byteAt s a
        · by_cases h3 : a + 1 < s.size
          · by_cases hle : ((ptrOf s a : Nat) : Int) ≥ (le : Int)
            · exact .inr ⟨failI, Ev.of (fun k => (impl_takeName.mono_l k).1 _ _ _ _ _ _) ((impl_ptr s hs 0 a L p le e h1 h2 v1 h3).trans (if_pos hle)), rfl, rfl⟩
            · rcases take_reads (n - 10) (ptrOf s a) L p (ptrOf s a) (endOf e (a + 2)) (by omega) hL hp with ⟨ls, pl, en, g1, g2⟩ | ⟨r, g1, g2⟩
              · exact .inl ⟨ls, [], a + 2, .ptr a le ls pl en h3 v1 (by omega) g1, g2⟩
              · exact .inr ⟨r, Ev.step (fun k => rfl) (Ev.step (g := fun k => impl_takeName.l0 (k + 1) s (a : Int) L p (le : Int) e) (fun k => (impl_ptr s hs k a L p le e h1 h2 v1 h3).trans (if_neg hle)) g1), g2⟩
          · exact .inr ⟨failI, Ev.of (fun k => (impl_takeName.mono_l k).1 _ _ _ _ _ _) (impl_ptr_out s hs 0 a L p le e h1 h2 v1 (by omega)), rfl, rfl⟩
        · by_cases h3 : 64 ≤ byteAt s a ∨ s.size < a + 1 + byteAt s a
          · exact .inr ⟨failI, Ev.of (fun k => (impl_takeName.mono_l k).1 _ _ _ _ _ _) (impl_lab_out s hs 0 a L p le e h1 h2 (by omega) (by omega) h3), rfl, rfl⟩
          · rcases take_reads (n - 1) (a + 1 + byteAt s a) (L ++ [mkB ((rawL s a).map lowB)]) (plc e p a) le e (by simp; omega) (by simp; omega) (by unfold plc; split <;> simp <;> omega) with ⟨ls, pl, en, g1, g2⟩ | ⟨r, g1, g2⟩
            · exact .inl ⟨_, _, _, .lab a le ls pl en (by omega) (by omega) (by omega) g1, by simp at g2 ⊢; omega⟩
            · exact .inr ⟨r, Ev.step (fun k => rfl) (Ev.step (fun k => rfl) (Ev.step (g := fun k => impl_takeName.l0 (k + 2) s (a : Int) L p (le : Int) e) (fun k => impl_lab s hs k a L p le e h1 h2 (by omega) (by omega) (by omega) (by omega)) g1)), g2⟩
  termination_by n => n
  decreasing_by all_goals omega
/-- A name that is taken: what stands there. -/
theorem taken {k a : Nat} {t : ByteArray × List Int × Int × Bool} (h : impl_takeName.f k s (a : Int) = some t) (ht : t.2.2.2 = true) : ∃ ls pl en, Reads s a a ls pl en ∧ ls.length ≤ 8 ∧ nameR ls = (t.1, true) ∧ t.2.1 = pl ∧ t.2.2.1 = (en : Int) := by
  have hE : Ev (fun k => impl_takeName.l0 k s (a : Int) [] [] (a : Int) (-1)) t := Ev.of (fun k => (impl_takeName.mono_l k).1 _ _ _ _ _ _) (k := k) h
  rcases take_reads s hs (a * 10 + 9) a [] [] a (-1) (by simp) (by simp) (by simp) with ⟨ls, pl, en, g1, g2⟩ | ⟨r, g1, g2⟩
  · have g3 := reads_take s hs g1 [] [] (-1) g2 (by simp)
    have e := Ev.unique hE g3
    rw [if_pos (by decide), if_pos (by decide), List.nil_append, List.nil_append] at e
    refine ⟨ls, pl, en, g1, by simpa using g2, ?_, by rw [e], by rw [e]⟩
    rw [e] at ht ⊢
    exact Prod.ext rfl ht
  · rw [Ev.unique hE g1] at ht
    rw [ht] at g2
    cases g2.2
theorem take_fail {t : ByteArray × List Int × Int × Bool} (h : Ev (fun k => impl_takeName.f k s 0) t) (ht : t.2.2.2 = false) : t.1 = (⟨#[]⟩ : ByteArray) := by
  have hE : Ev (fun k => impl_takeName.l0 k s ((0 : Nat) : Int) [] [] ((0 : Nat) : Int) (-1)) t := h
  rcases take_reads s hs (0 * 10 + 9) 0 [] [] 0 (-1) (by simp) (by simp) (by simp) with ⟨ls, pl, en, g1, g2⟩ | ⟨r, g1, g2⟩
  · have g3 := reads_take s hs g1 [] [] (-1) g2 (by simp)
    have e := Ev.unique hE g3
    rw [List.nil_append] at e
    rw [e] at ht ⊢
    show (nameR ls).1 = _
    replace ht : (nameR ls).2 = false := ht
    unfold nameR at ht ⊢
    split
    · rename_i c
      rw [if_pos c] at ht
      split
      · rename_i c2
        rw [if_pos c2] at ht
        cases ht
      · rfl
    · rfl
  · rw [Ev.unique hE g1]
    exact g2.1
end

theorem label_low {x : List UInt8} (h : isLabelL x = true) : x.map lowB = x := by
  have : ∀ y ∈ x, lowB y = y := by
    intro y hy
    unfold isLabelL at h
    simp only [Bool.or_eq_true, Bool.and_eq_true, beq_iff_eq, List.all_eq_true] at h
    rcases h with h | h
    · rw [h] at hy
      rw [List.mem_singleton.1 hy]
      decide
    · have hy := h.2 y hy
      unfold labelByte at hy
      simp only [Bool.or_eq_true, decide_eq_true_eq, beq_iff_eq] at hy
      unfold lowB
      rw [if_neg]
      rintro ⟨h1, h2⟩
      rcases hy with ((hy | hy) | rfl) | rfl
      · omega
      · omega
      · revert h1; decide
      · revert h2; decide
  rw [List.map_congr_left this, List.map_id']
theorem joinL_ne {ls : List ByteArray} (hne : ls ≠ []) (h : ∀ x ∈ ls, isLabelL x.data.toList = true) : splitL 46 (joinL ls) = ls.map (·.data.toList) := by
  unfold joinL
  refine split_join _ (by simpa using hne) fun x hx => ?_
  obtain ⟨z, hz, rfl⟩ := List.mem_map.1 hx
  exact label_dot (h z hz)
theorem label_pos {x : List UInt8} (h : isLabelL x = true) : 1 ≤ x.length := by
  unfold isLabelL at h
  simp only [Bool.or_eq_true, Bool.and_eq_true, beq_iff_eq, decide_eq_true_eq] at h
  rcases h with h | h
  · rw [h]; simp
  · exact h.1.1
/-- A name from its labels. -/
theorem labels_back {ls : List ByteArray} {s : ByteArray} (h : nameR ls = (s, true)) : goodL s.data.toList = true ∧ ls = (labelsL s.data.toList).map mkB := by
  unfold nameR at h
  by_cases h1 : (decide (ls.length ≤ 8) && ls.all fun x => isLabelL x.data.toList) = true
  · rw [if_pos h1] at h
    by_cases h2 : goodL (joinL ls) = true
    · rw [if_pos h2] at h
      obtain ⟨rfl, _⟩ := Prod.mk.inj h
      rw [mkB_data]
      refine ⟨h2, ?_⟩
      simp only [Bool.and_eq_true, List.all_eq_true] at h1
      cases ls with
      | nil => rfl
      | cons x r =>
        have hs := joinL_ne (ls := x :: r) (by simp) h1.2
        have hne : joinL (x :: r) ≠ [] := by
          intro e
          have h3 := congrArg List.length e
          unfold joinL at h3
          rw [List.map_cons, Lib.join_cons, List.length_append] at h3
          have := label_pos (h1.2 x List.mem_cons_self)
          rw [List.length_nil] at h3
          omega
        unfold labelsL
        rw [if_neg hne, hs, List.map_map]
        have : (mkB ∘ fun x : ByteArray => x.data.toList) = id := by funext z; exact data_mkB z
        rw [this, List.map_id]
    · rw [if_neg h2] at h
      cases (Prod.mk.inj h).2
  · rw [if_neg h1] at h
    cases (Prod.mk.inj h).2
theorem reads_len {t : ByteArray} {a le : Nat} {ls : List ByteArray} {pl : List Int} {en : Nat} (h : Reads t a le ls pl en) : le = 0 → en = a + (ls.map fun x => 1 + x.size).sum + 1 := by
  induction h with
  | fin a le h h0 => intro _; simp
  | ptr a le ls pl en h h0 hp hr ih => intro e; omega
  | lab a le ls pl en h0 h1 h2 hr ih =>
    intro e
    rw [ih e, List.map_cons, List.sum_cons]
    have : (mkB ((rawL t a).map lowB)).size = byteAt t a := by
      rw [mkB_size, List.length_map]
      unfold rawL
      rw [List.length_take, List.length_drop, ← size_len]
      omega
    omega
end Go.Proofs.YtiegkjimpclmaaaGreatDoor.Pure
