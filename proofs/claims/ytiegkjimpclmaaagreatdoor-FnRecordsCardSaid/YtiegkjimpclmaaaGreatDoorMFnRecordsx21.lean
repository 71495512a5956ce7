/- FnRecords: part 22 of 29 of my texts for this claim, joined; the theorem stands in the last. Conditions: none beyond the statement's. -/
import Derived.Sort.Walk0
import Derived.Sort.Statements
import Derived.Lib.SlicesCompact
import Derived.Test.YtiegkjimpclmaaaGreatDoorMFnRecordsx18
import Derived.Test.YtiegkjimpclmaaaGreatDoorMFnRecordsx20
namespace Go.Proofs.YtiegkjimpclmaaaGreatDoor.Pure
open Go.RowKit Go.Proofs.YtiegkjimpclmaaaGreatDoor.P Go.Proofs.YtiegkjimpclmaaaGreatDoorW.PrintWords Go.Proofs.YtiegkjimpclmaaaGreatDoorW.PrintLast Go.Proofs.YtiegkjimpclmaaaGreatDoorW.PrintMore
set_option linter.unusedVariables false
set_option linter.unusedSimpArgs false
theorem split32_loop (s : ByteArray) (hs : s.size < 1099511627776) : ∀ (m i a : Nat) (acc : List ByteArray), i + m = s.size → a ≤ i → (∀ x ∈ (s.data.toList.drop a).take (i - a), x ≠ 32) → acc.length ≤ a →
 spec_l1Split.l0 (m + 1) s 32 acc (a : Int) (i : Int) = some (acc ++ (splitL 32 (s.data.toList.drop a)).map mkB)
 | 0, i, a, acc, him, hai, hx, hacc => by
  unfold spec_l1Split.l0
  rw [if_neg (by omega), if_pos (by omega), if_pos (by omega), if_pos (by omega)]
  rw [List.take_of_length_le (by rw [List.length_drop, ← size_len]; omega)] at hx
  rw [splitL_none 32 _ hx, Int.toNat_natCast, ext_end]
  rfl
 | m + 1, i, a, acc, him, hai, hx, hacc => by
  have hi : i < s.data.toList.length := by rw [← size_len]; omega
  unfold spec_l1Split.l0
  rw [if_pos (by omega), if_pos (by omega), bt_list s i hi, w64n (by omega)]
  have hd : s.data.toList.drop a = (s.data.toList.drop a).take (i - a) ++ s.data.toList[i] :: s.data.toList.drop (i + 1) := by
   conv => lhs; rw [← List.take_append_drop (i - a) (s.data.toList.drop a)]
   congr 1
   rw [List.drop_drop, show a + (i - a) = i by omega, List.drop_eq_getElem_cons hi]
  by_cases h : s.data.toList[i] = 32
  · rw [if_pos (by rw [h]; rfl), if_pos (by omega), if_pos (by omega), if_pos (by omega), if_pos (by omega), Int.toNat_natCast, Int.toNat_natCast, ext_mkB]
    rw [split32_loop s hs m (i + 1) (i + 1) _ (by omega) (by omega) (by simp) (by simp; omega)]
    conv => rhs; rw [hd, h, splitL_hit 32 _ _ hx]
    simp
  · rw [if_neg (by intro e; apply h; apply UInt8.toNat_inj.1; simpa using Int.ofNat.inj e)]
    refine split32_loop s hs m (i + 1) a acc (by omega) (by omega) ?_ hacc
    intro x hm
    rw [show i + 1 - a = (i - a) + 1 by omega, List.take_add_one] at hm
    rcases List.mem_append.1 hm with hm | hm
    · exact hx x hm
    · rw [List.getElem?_drop, show a + (i - a) = i by omega, List.getElem?_eq_getElem hi] at hm
      obtain rfl : x = s.data.toList[i] := by simpa using hm
      exact h
theorem split32_ev (s : ByteArray) (hs : s.size < 1099511627776) : Ev (fun k => spec_l1Split.f k s 32) ((splitL 32 s.data.toList).map mkB) := by
 refine Ev.of (fun k => spec_l1Split.mono _ _ _) (k := s.size + 1) ?_
 unfold spec_l1Split.f
 have := split32_loop s hs s.size 0 0 [] (by omega) (by omega) (by simp) (by simp)
 simpa using this
def unL : List (List UInt8) → List UInt8
 | [] => []
 | [p] => p
 | p :: q :: r => p ++ 46 :: unL (q :: r)
theorem label_dot {x : List UInt8} (h : isLabelL x = true) : ∀ y ∈ x, y ≠ 46 := by
 intro y hy e
 subst e
 unfold isLabelL at h
 simp only [Bool.or_eq_true, Bool.and_eq_true, beq_iff_eq, List.all_eq_true] at h
 rcases h with h | h
 · rw [h] at hy
   simp at hy
 · exact absurd (h.2 46 hy) (by decide)
theorem good_all {s : List UInt8} (h : goodL s = true) : (labelsL s).length ≤ 8 ∧ ∀ x ∈ labelsL s, isLabelL x = true := by
 unfold goodL at h
 simp only [Bool.and_eq_true, decide_eq_true_eq, List.all_eq_true] at h
 exact h.2
theorem big1 (n : Int) : Ev (fun k => impl_big.f k n 1) (strOfNums [n % 256]) := by
 refine Ev.of (fun k => impl_big.mono _ _ _) (k := 2) ?_
 show impl_big.f 2 n 1 = _
 simp [impl_big.f, impl_big.l0, wrap64, shr, IntKind.bits]
theorem num1 (n : Int) : Ev (fun k => spec_l3Number.f k n 1) (strOfNums [n % 256]) := by
 refine Ev.of (fun k => spec_l3Number.mono _ _ _) (k := 2) ?_
 show spec_l3Number.f 2 n 1 = _
 simp [spec_l3Number.f, spec_l3Number.l0, wrap64]
theorem big2 (n : Int) : Ev (fun k => impl_big.f k n 2) (strOfNums [n / 256 % 256, n % 256]) := by
 refine Ev.of (fun k => impl_big.mono _ _ _) (k := 3) ?_
 show impl_big.f 3 n 2 = _
 simp [impl_big.f, impl_big.l0, wrap64, shr, IntKind.bits]
theorem num2 (n : Int) : Ev (fun k => spec_l3Number.f k n 2) (strOfNums [n / 256 % 256, n % 256]) := by
 refine Ev.of (fun k => spec_l3Number.mono _ _ _) (k := 3) ?_
 show spec_l3Number.f 3 n 2 = _
 simp [spec_l3Number.f, spec_l3Number.l0, wrap64]
theorem big4 (n : Int) : Ev (fun k => impl_big.f k n 4) (strOfNums [n / 16777216 % 256, n / 65536 % 256, n / 256 % 256, n % 256]) := by
 refine Ev.of (fun k => impl_big.mono _ _ _) (k := 5) ?_
 show impl_big.f 5 n 4 = _
 simp [impl_big.f, impl_big.l0, wrap64, shr, IntKind.bits]
theorem num4 (n : Int) : Ev (fun k => spec_l3Number.f k n 4) (strOfNums [n / 16777216 % 256, n / 65536 % 256, n / 256 % 256, n % 256]) := by
 refine Ev.of (fun k => spec_l3Number.mono _ _ _) (k := 5) ?_
 show spec_l3Number.f 5 n 4 = _
 simp [spec_l3Number.f, spec_l3Number.l0, wrap64, Int.ediv_ediv_of_nonneg]
def targL (l : List UInt8) : Bool := decide (l ≠ []) && (goodL l && !l.contains 42)
theorem contains_eq (s : ByteArray) : strings_Contains.f s (⟨#[42]⟩ : ByteArray) = some (s.data.toList.contains 42) := by
 unfold strings_Contains.f strings_Index.f internal_stringslite_Index.f
 rw [if_pos (show (⟨#[42]⟩ : ByteArray).size = 1 from rfl)]
 simp only [Option.bind_some]
 rw [show List.headD (⟨#[42]⟩ : ByteArray).data.toList 0 = 42 from rfl]
 congr 1
 rcases place_or 42 s.data.toList with ⟨h1, h2⟩ | ⟨p, r, h1, h2, h3⟩
 · rw [h1]
   have : s.data.toList.contains 42 = false := by
    rw [Bool.eq_false_iff]
    intro h
    rw [List.contains_iff_mem] at h
    exact h2 42 h rfl
   rw [this]
   rfl
 · rw [h3]
   have : s.data.toList.contains 42 = true := by
    rw [List.contains_iff_mem, h1]
    simp
   rw [this]
   exact decide_eq_true (by omega)
theorem target_impl (s : ByteArray) : impl_isTarget.f s = some (targL s.data.toList) := by
 unfold impl_isTarget.f impl_GoodName.f targL
 rw [Lib.toList_data, contains_eq]
 by_cases h : s.data.toList = []
 · rw [if_pos h, decide_eq_false (by simp [h])]; rfl
 · rw [if_neg h, decide_eq_true h, Option.bind_some, Bool.true_and]
   cases goodL s.data.toList with
   | true => rfl
   | false => rfl
theorem split_mem : ∀ (l : List UInt8) (b : UInt8), b ≠ 46 → (b ∈ l ↔ ∃ p ∈ splitL 46 l, b ∈ p)
 | [], b, hb => by simp [splitL]
 | x :: xs, b, hb => by
  have ih := split_mem xs b hb
  obtain ⟨p, ps, hp⟩ := List.exists_cons_of_ne_nil (splitL_ne 46 xs)
  unfold splitL
  rw [hp] at ih ⊢
  by_cases h : x = 46
  · rw [if_pos h, List.mem_cons, ih]
    constructor
    · rintro (e | ⟨q, hq, hb2⟩)
      · exact absurd (e.trans h) hb
      · exact ⟨q, List.mem_cons_of_mem _ hq, hb2⟩
    · rintro ⟨q, hq, hb2⟩
      rcases List.mem_cons.1 hq with rfl | hq
      · cases hb2
      · exact .inr ⟨q, hq, hb2⟩
  · rw [if_neg h, List.mem_cons, ih]
    constructor
    · rintro (e | ⟨q, hq, hb2⟩)
      · exact ⟨x :: p, List.mem_cons_self, by rw [e]; exact List.mem_cons_self⟩
      · rcases List.mem_cons.1 hq with rfl | hq
        · exact ⟨x :: q, List.mem_cons_self, List.mem_cons_of_mem _ hb2⟩
        · exact ⟨q, List.mem_cons_of_mem _ hq, hb2⟩
    · rintro ⟨q, hq, hb2⟩
      rcases List.mem_cons.1 hq with rfl | hq
      · rcases List.mem_cons.1 hb2 with e | hb2
        · exact .inl e
        · exact .inr ⟨p, List.mem_cons_self, hb2⟩
      · exact .inr ⟨q, List.mem_cons_of_mem _ hq, hb2⟩
theorem star_label {s : List UInt8} (h : goodL s = true) : s.contains 42 = true ↔ ∃ p ∈ labelsL s, p = [42] := by
 rw [List.contains_iff_mem]
 unfold labelsL
 by_cases h0 : s = []
 · rw [if_pos h0, h0]; simp
 · rw [if_neg h0, split_mem s 42 (by decide)]
   have hg := (good_all h).2
   unfold labelsL at hg
   rw [if_neg h0] at hg
   constructor
   · rintro ⟨p, hp, h42⟩
     refine ⟨p, hp, ?_⟩
     have := hg p hp
     unfold isLabelL at this
     rw [Bool.or_eq_true, beq_iff_eq, Bool.and_eq_true, List.all_eq_true] at this
     rcases this with e | e
     · exact e
     · exact absurd (e.2 42 h42) (by decide)
   · rintro ⟨p, hp, rfl⟩
     exact ⟨_, hp, List.mem_cons_self⟩
theorem td_rd (l : List ByteArray) (i : Nat) (h : i < l.length) : rdOf ByteArray.empty l (i : Int) = l[i] := by
 unfold rdOf
 rw [Int.toNat_natCast, List.getD_eq_getElem?_getD, List.getElem?_eq_getElem h]
 rfl
theorem target_loop (s : ByteArray) (l : List ByteArray) (hl : l.length < 1099511627776) : ∀ (m i : Nat) (ok : Bool), i + m = l.length →
 Ev (fun k => spec_l3Target.l0 k s ok l (l.length : Int) (i : Int)) (ok && ((l.drop i).all (fun x => decide (x.data.toList ≠ [42])) && decide (s.data.toList ≠ [])))
 | 0, i, ok, him => by
  rw [List.drop_of_length_le (by omega), List.all_nil, Bool.true_and]
  refine Ev.step (f := fun _ => some (ok && decide (s.data.toList ≠ []))) (fun k => ?_) (Ev.now _)
  show spec_l3Target.l0 (k + 1) s ok l (l.length : Int) (i : Int) = _
  conv => lhs; unfold spec_l3Target.l0
  rw [if_neg (by omega), Lib.toList_data]
  cases ok with
  | true =>
   rw [if_pos rfl, Bool.true_and]
   congr 1
   by_cases h : s.data.toList = []
   · rw [h]; simp
   · rw [decide_eq_true h, bne_iff_ne.mpr h]
  | false => rfl
 | m + 1, i, ok, him => by
  have hi : i < l.length := by omega
  have ih := target_loop s l hl m (i + 1) (ok && decide (l[i].data.toList ≠ [42])) (by omega)
  have e : (ok && decide (l[i].data.toList ≠ [42]) && ((l.drop (i + 1)).all (fun x => decide (x.data.toList ≠ [42])) && decide (s.data.toList ≠ []))) = (ok && ((l.drop i).all (fun x => decide (x.data.toList ≠ [42])) && decide (s.data.toList ≠ []))) := by
   rw [List.drop_eq_getElem_cons hi]
   rw [List.all_cons]
   cases ok
   · rfl
   · rw [Bool.true_and, Bool.true_and, Bool.and_assoc]
  rw [e] at ih
  refine Ev.step (fun k => ?_) ih
  show spec_l3Target.l0 (k + 1) s ok l (l.length : Int) (i : Int) = _
  conv => lhs; unfold spec_l3Target.l0
  rw [if_pos (by omega), if_pos (by omega), if_pos (by omega), td_rd l i hi, w64n (by omega), Lib.toList_data]
  cases ok with
  | true =>
   rw [if_pos rfl, Bool.true_and]
   congr 1
   by_cases h : l[i].data.toList = [42]
   · rw [h]; simp
   · rw [decide_eq_true h, bne_iff_ne.mpr h]
  | false => rfl
theorem Ev.unique {α : Type} {g : Nat → Option α} {r r' : α} (h : Ev g r) (h' : Ev g r') : r = r' := by
 obtain ⟨K, h⟩ := h
 obtain ⟨K', h'⟩ := h'
 have h1 := h (max K K') (by omega)
 rw [h' (max K K') (by omega)] at h1
 exact (Option.some.inj h1).symm
theorem labels_short (s : ByteArray) (hs : s.size ≤ 1048576) (r : List ByteArray × Bool) (e : Ev (fun k => spec_l1Labels.f k s) r) : r.1.length < 1099511627776 := by
 by_cases h : s.data.toList = []
 · have h2 : Ev (fun k => spec_l1Labels.f k s) ([], true) := Ev.congr (fun k => by unfold spec_l1Labels.f; rw [if_pos (by rw [Lib.toList_data]; exact h)]) (Ev.now _)
   rw [Ev.unique e h2]
   simp
 · have hlen : ((splitL 46 s.data.toList).map mkB).length ≤ s.size + 1 := by rw [List.length_map, size_len]; exact splitL_len _ _
   have h2 : Ev (fun k => spec_l1Labels.f k s) (labsR s ((splitL 46 s.data.toList).map mkB) 0) := by
    refine Ev.congr (f := fun k => (spec_l1Split.f k s 46).bind fun t => spec_l1Labels.l0 k s t t (t.length : Int) 0) (fun k => ?_) (Ev.bind (split_ev s (by omega)) ?_)
    · show spec_l1Labels.f k s = _
      unfold spec_l1Labels.f
      rw [if_neg (by rw [Lib.toList_data]; exact h)]
    · refine labels_loop s _ ?_ (by omega) _ 0 (Nat.zero_add _)
      intro p hp
      obtain ⟨q, hq, rfl⟩ := List.mem_map.1 hp
      have := splitL_part 46 _ q hq
      rw [mkB_size]
      rw [← size_len] at this
      omega
   rw [Ev.unique e h2]
   unfold labsR
   split
   · split
     · show ((splitL 46 s.data.toList).map mkB).length < _; omega
     · show ((splitL 46 s.data.toList).map mkB).length < _; omega
   · simp
theorem target_spec (s : ByteArray) (hs : s.size ≤ 1048576) : Ev (fun k => spec_l3Target.f k s) (targL s.data.toList) := by
 obtain ⟨r, e1, e2, e3⟩ := labels_ev s (by omega)
 have hlen : r.1.length < 1099511627776 := by
  by_cases h : r.2 = true
  · rw [e3 h, List.length_map]
    have := (good_all (e2.symm.trans h)).1
    omega
  · exact labels_short s hs r e1
 refine Ev.congr (fun k => rfl) (Ev.bind e1 ?_)
 have := target_loop s r.1 hlen r.1.length 0 r.2 (by omega)
 rw [List.drop_zero] at this
 have et : (r.2 && (r.1.all (fun x => decide (x.data.toList ≠ [42])) && decide (s.data.toList ≠ []))) = targL s.data.toList := by
  unfold targL
  rw [e2]
  cases hg : goodL s.data.toList with
  | false => simp
  | true =>
   rw [e3 (e2.trans hg), Bool.true_and, Bool.true_and, Bool.and_comm]
   congr 1
   have h1 := star_label hg
   rw [Bool.eq_iff_iff, List.all_eq_true, Bool.not_eq_true', Bool.eq_false_iff]
   constructor
   · intro h2 h3
     obtain ⟨p, hp, rfl⟩ := h1.1 h3
     exact of_decide_eq_true (h2 (mkB [42]) (List.mem_map.2 ⟨_, hp, rfl⟩)) (mkB_data _)
   · intro h2 x hx
     refine decide_eq_true fun h3 => ?_
     obtain ⟨p, hp, rfl⟩ := List.mem_map.1 hx
     rw [mkB_data] at h3
     exact h2 (h1.2 ⟨p, hp, h3⟩)
 rw [et] at this
 exact this
end Go.Proofs.YtiegkjimpclmaaaGreatDoor.Pure
namespace Go.Proofs.YtiegkjimpclmaaaGreatDoor.Pure
open Go.RowKit Go.Proofs.YtiegkjimpclmaaaGreatDoor.P Go.Proofs.YtiegkjimpclmaaaGreatDoorW.PrintWords Go.Proofs.YtiegkjimpclmaaaGreatDoorW.PrintLast
set_option linter.unusedVariables false
set_option linter.unusedSimpArgs false
theorem cmpP_lt (a b : ByteArray) : cmpP a b = if a.data.toList < b.data.toList then -1 else if b.data.toList < a.data.toList then 1 else 0 := by
 unfold cmpP
 rw [Go.Proofs.bytesLess_eq, Go.Proofs.bytesLess_eq, Lib.toList_data, Lib.toList_data]
 simp only [decide_eq_true_eq]
theorem lst_tri (a b : List UInt8) : a < b ∨ a = b ∨ b < a := by
 by_cases h1 : a < b
 · exact .inl h1
 · by_cases h2 : b < a
   · exact .inr (.inr h2)
   · exact .inr (.inl (List.le_antisymm h2 h1))
theorem cmpP_zero (a b : ByteArray) : cmpP a b = 0 ↔ a = b := by
 rw [cmpP_lt]
 rcases lst_tri a.data.toList b.data.toList with h | h | h
 · rw [if_pos h]
   refine ⟨fun h0 => by omega, fun e => ?_⟩
   rw [e] at h
   exact absurd h (List.lt_irrefl _)
 · have hn : ¬ a.data.toList < b.data.toList := by rw [h]; exact List.lt_irrefl _
   have hn2 : ¬ b.data.toList < a.data.toList := by rw [h]; exact List.lt_irrefl _
   rw [if_neg hn, if_neg hn2]
   exact ⟨fun _ => ext_data h, fun _ => rfl⟩
 · have hn : ¬ a.data.toList < b.data.toList := fun h' => absurd (List.lt_trans h h') (List.lt_irrefl _)
   rw [if_neg hn, if_pos h]
   refine ⟨fun h0 => by omega, fun e => ?_⟩
   rw [e] at h
   exact absurd h (List.lt_irrefl _)
theorem cmpP_neg (a b : ByteArray) : cmpP b a = - cmpP a b := by
 rw [cmpP_lt, cmpP_lt]
 by_cases h : a.data.toList < b.data.toList
 · have hn : ¬ b.data.toList < a.data.toList := fun h' => absurd (List.lt_trans h h') (List.lt_irrefl _)
   rw [if_neg hn, if_pos h, if_pos h]; rfl
 · by_cases h' : b.data.toList < a.data.toList
   · rw [if_pos h', if_neg h, if_pos h']
   · rw [if_neg h', if_neg h, if_neg h, if_neg h']; rfl
theorem cmpP_range (a b : ByteArray) : cmpP a b = -1 ∨ cmpP a b = 0 ∨ cmpP a b = 1 := by
 rw [cmpP_lt]
 split
 · exact .inl rfl
 · split
   · exact .inr (.inr rfl)
   · exact .inr (.inl rfl)
theorem cmpL_zero : ∀ x y : List ByteArray, cmpL x y = 0 ↔ x = y
 | [], [] => ⟨fun _ => rfl, fun _ => rfl⟩
 | [], _ :: _ => ⟨fun h => by simp [cmpL] at h, fun h => by cases h⟩
 | _ :: _, [] => ⟨fun h => by simp [cmpL] at h, fun h => by cases h⟩
 | a :: x, b :: y => by
  unfold cmpL
  by_cases h : cmpP a b = 0
  · rw [if_pos h, cmpL_zero x y, (cmpP_zero a b).1 h]
    exact ⟨fun e => by rw [e], fun e => by injection e⟩
  · rw [if_neg h]
    refine ⟨fun e => absurd e h, fun e => ?_⟩
    injection e with e1 e2
    exact absurd ((cmpP_zero a b).2 e1) h
theorem cmpL_neg : ∀ x y : List ByteArray, cmpL y x = - cmpL x y
 | [], [] => rfl
 | [], _ :: _ => rfl
 | _ :: _, [] => rfl
 | a :: x, b :: y => by
  unfold cmpL
  have hn := cmpP_neg a b
  by_cases h : cmpP a b = 0
  · rw [if_pos h, if_pos (by rw [hn, h]; rfl), cmpL_neg x y]
  · rw [if_neg h, if_neg (by rw [hn]; omega), hn]
theorem cmpL_range : ∀ x y : List ByteArray, cmpL x y = -1 ∨ cmpL x y = 0 ∨ cmpL x y = 1
 | [], [] => .inr (.inl rfl)
 | [], _ :: _ => .inl rfl
 | _ :: _, [] => .inr (.inr rfl)
 | a :: x, b :: y => by
  unfold cmpL
  split
  · exact cmpL_range x y
  · exact cmpP_range a b
def unO : List (List UInt8) → List UInt8
 | [] => []
 | [p] => p
 | p :: q :: r => p ++ 46 :: unO (q :: r)
theorem unO_split : ∀ s : List UInt8, unO (splitL 46 s) = s
 | [] => rfl
 | x :: xs => by
  have ih := unO_split xs
  obtain ⟨p, ps, hp⟩ := List.exists_cons_of_ne_nil (splitL_ne 46 xs)
  unfold splitL
  rw [hp] at ih ⊢
  by_cases h : x = 46
  · rw [if_pos h]
    show [] ++ 46 :: unO (p :: ps) = _
    rw [ih, h]
    rfl
  · rw [if_neg h]
    cases ps with
    | nil => show x :: p = _; rw [show p = xs from ih]
    | cons q r =>
     show (x :: p) ++ 46 :: unO (q :: r) = _
     have ih2 : p ++ 46 :: unO (q :: r) = xs := ih
     rw [List.cons_append, ih2]
theorem labels_inj {a b : List UInt8} (h : labelsL a = labelsL b) : a = b := by
 unfold labelsL at h
 by_cases ha : a = []
 · rw [if_pos ha] at h
   by_cases hb : b = []
   · rw [ha, hb]
   · rw [if_neg hb] at h
     exact absurd h.symm (splitL_ne 46 b)
 · rw [if_neg ha] at h
   by_cases hb : b = []
   · rw [if_pos hb] at h
     exact absurd h (splitL_ne 46 a)
   · rw [if_neg hb] at h
     rw [← unO_split a, ← unO_split b, h]
theorem ord_zero (a b : List UInt8) : ordL a b = 0 ↔ a = b := by
 unfold ordL
 rw [cmpL_zero]
 refine ⟨fun h => ?_, fun h => by rw [h]⟩
 have h1 := List.reverse_inj.1 h
 refine labels_inj ?_
 have h2 := congrArg (List.map fun x : ByteArray => x.data.toList) h1
 rw [List.map_map, List.map_map] at h2
 have : ((fun x : ByteArray => x.data.toList) ∘ mkB) = id := by funext z; exact mkB_data z
 rwa [this, List.map_id, List.map_id] at h2
theorem ord_neg (a b : List UInt8) : ordL b a = - ordL a b := cmpL_neg _ _
theorem ord_range (a b : List UInt8) : ordL a b = -1 ∨ ordL a b = 0 ∨ ordL a b = 1 := cmpL_range _ _
def leN (x y : List UInt8) : Bool := !decide (ordL y x < 0)
def sortL (l : List (List UInt8)) : List (List UInt8) := Lib.compact (l.mergeSort leN)
def sortR (l : List ByteArray) : List ByteArray × Bool :=
 if decide (l.length ≤ 60) && l.all (fun x => goodL x.data.toList) then ((sortL (l.map (·.data.toList))).map mkB, true) else ([], false)
end Go.Proofs.YtiegkjimpclmaaaGreatDoor.Pure
namespace Go.Proofs.YtiegkjimpclmaaaGreatDoor.Pure
open Go.RowKit Go.Proofs.YtiegkjimpclmaaaGreatDoor.P Go.Proofs.YtiegkjimpclmaaaGreatDoorW.PrintWords Go.Proofs.YtiegkjimpclmaaaGreatDoorW.PrintLast Go.Proofs.YtiegkjimpclmaaaGreatDoorW.PrintMore
set_option linter.unusedVariables false
set_option linter.unusedSimpArgs false
theorem cur_up {a : Int} {p q : Nat} (h : Cur a p) (k : p ≤ q) : Cur a q := ⟨h.1, by have := h.2; omega⟩
theorem among_some {l : List Int} (hl : Bytes l) {at_ sd : Int} {n : Nat} (hc : Cur at_ n) (hn : n < 4611686018427387000) (zs : List Int) (hz : 0 < zs.length) :
 ∃ x at2 sd2, spec_l1Cur_among.f l at_ sd zs = some (x, at2, sd2) ∧ x ∈ zs ∧ Cur at2 (n + 2) := by
 unfold spec_l1Cur_among.f
 obtain ⟨i, at2, sd2, e, hi, hc2⟩ := pick_some hl hc (by omega) (sd := sd) (zs.length : Int)
 rw [e]
 simp only [Option.bind_some]
 have hlt : i < (zs.length : Int) := by omega
 rw [if_pos hi.1, if_pos hlt]
 refine ⟨_, _, _, rfl, ?_, hc2⟩
 have h2 : i.toNat < zs.length := by omega
 rw [rd, List.getD_eq_getElem?_getD, List.getElem?_eq_getElem h2]
 exact List.getElem_mem h2
theorem target_some {l : List Int} (hl : Bytes l) {at_ sd : Int} {n : Nat} (hc : Cur at_ n) (hn : n < 4611686018427387000) :
 ∃ x at2 sd2, spec_l1Cur_target.f l at_ sd = some (x, at2, sd2) ∧ x.size ≤ 15 ∧ Cur at2 (n + 2) := by
 unfold spec_l1Cur_target.f
 obtain ⟨x, at2, sd2, e, hx, hc2⟩ := of_some hl hc (by omega) (sd := sd) ([(⟨#[97, 46, 101, 120, 46, 99, 111, 109]⟩ : ByteArray), (⟨#[98, 46, 101, 120, 46, 99, 111, 109]⟩ : ByteArray), (⟨#[110, 115, 46, 101, 120, 46, 99, 111, 109]⟩ : ByteArray), (⟨#[119, 119, 119, 46, 99, 111, 109]⟩ : ByteArray), (⟨#[120, 49, 46, 115, 117, 98, 46, 101, 120, 46, 99, 111, 109]⟩ : ByteArray)] : List ByteArray) (by decide)
 exact ⟨x, at2, sd2, by rw [e]; rfl, size_le (by decide) hx, hc2⟩
theorem one_some {l : List Int} (hl : Bytes l) {at_ sd : Int} {n : Nat} (hc : Cur at_ n) (hn : n < 4611686018427387900) (m : Int) :
 ∃ x at2 sd2, spec_l1Cur_one.f l at_ sd m = some (x, at2, sd2) ∧ Cur at2 (n + 2) := by
 obtain ⟨i, at2, sd2, e, hi, hc2⟩ := pick_some hl hc hn (sd := sd) m
 exact ⟨_, at2, sd2, by unfold spec_l1Cur_one.f; rw [e]; rfl, hc2⟩
theorem rec_j1 {l : List Int} (hl : Bytes l) {at_ sd : Int} {n : Nat} (hc : Cur at_ n) (hn : n < 4611686018427380000) (a : ByteArray) (b c : Int) (d : ByteArray) (hd : d.size ≤ 40) :
 ∃ b' c' d' at2 sd2, Ev (fun k => spec_l1Cur_record.j1 k l at_ sd a b c d) (a, b', c', d', at2, sd2) ∧ d'.size ≤ 40 ∧ Cur at2 (n + 4) := by
 obtain ⟨i, at2, sd2, e, hi, hc2⟩ := pick_some hl hc (by omega) (sd := sd) 40
 by_cases h0 : i = 0
 · obtain ⟨x, at3, sd3, e3, hx, hc3⟩ := among_some hl hc2 (by omega) (sd := sd2) ([(-1), 0, 100000, 100001] : List Int) (by decide)
   refine ⟨b, x, d, at3, sd3, Ev.step (f := fun _ => some (a, b, x, d, at3, sd3)) (fun k => ?_) (Ev.now _), hd, hc3⟩
   show (spec_l1Cur_pick.f l at_ sd 40).bind _ = _
   rw [e]
   simp only [Option.bind_some]
   rw [if_pos h0, e3]
   rfl
 · by_cases h1 : i = 1
   · obtain ⟨x, at3, sd3, e3, hx, hc3⟩ := of_some hl hc2 (by omega) (sd := sd2) ([(⟨#[49, 46, 50, 46, 51]⟩ : ByteArray), (⟨#[50, 53, 54, 46, 49, 46, 49, 46, 49]⟩ : ByteArray), (⟨#[42]⟩ : ByteArray), (⟨#[52, 50, 57, 52, 57, 54, 55, 50, 57, 53]⟩ : ByteArray), (⟨#[52, 50, 57, 52, 57, 54, 55, 50, 57, 54]⟩ : ByteArray), (⟨#[55, 48, 48, 48, 48, 32, 97, 46, 98]⟩ : ByteArray), (⟨#[48, 49, 46, 50, 46, 51, 46, 52]⟩ : ByteArray), (⟨#[1]⟩ : ByteArray)] : List ByteArray) (by decide)
     refine ⟨b, c, x, at3, sd3, Ev.step (f := fun _ => some (a, b, c, x, at3, sd3)) (fun k => ?_) (Ev.now _), size_le (by decide) hx, hc3⟩
     show (spec_l1Cur_pick.f l at_ sd 40).bind _ = _
     rw [e]
     simp only [Option.bind_some]
     rw [if_neg h0, if_pos h1, e3]
     rfl
   · by_cases h2 : i = 2
     · obtain ⟨x, at3, sd3, e3, hx, hc3⟩ := pick_some hl hc2 (by omega) (sd := sd2) 20
       refine ⟨x, c, d, at3, sd3, Ev.step (f := fun _ => some (a, x, c, d, at3, sd3)) (fun k => ?_) (Ev.now _), hd, hc3⟩
       show (spec_l1Cur_pick.f l at_ sd 40).bind _ = _
       rw [e]
       simp only [Option.bind_some]
       rw [if_neg h0, if_neg h1, if_pos h2, e3]
       rfl
     · refine ⟨b, c, d, at2, sd2, Ev.step (f := fun _ => some (a, b, c, d, at2, sd2)) (fun k => ?_) (Ev.now _), hd, cur_up hc2 (by omega)⟩
       show (spec_l1Cur_pick.f l at_ sd 40).bind _ = _
       rw [e]
       simp only [Option.bind_some]
       rw [if_neg h0, if_neg h1, if_neg h2]
theorem rec_j0 {l : List Int} (hl : Bytes l) {at_ sd : Int} {n : Nat} (hc : Cur at_ n) (hn : n < 4611686018427370000) (x14 : Int) (x25 : Bool) (a : ByteArray) (b c : Int) (d : ByteArray) :
 ∃ b' c' d' at2 sd2, Ev (fun k => spec_l1Cur_record.j0 k x14 x25 l at_ sd a b c d) (a, b', c', d', at2, sd2) ∧ d'.size ≤ 40 ∧ Cur at2 (n + 8) := by
 by_cases h0 : x25 = true
 · obtain ⟨x, at2, sd2, e, hx, hc2⟩ := target_some hl hc (by omega) (sd := sd)
   obtain ⟨b', c', d', at3, sd3, e3, h3, hc3⟩ := rec_j1 hl hc2 (by omega) (sd := sd2) a b c x (by omega)
   refine ⟨b', c', d', at3, sd3, Ev.step (fun k => ?_) e3, h3, cur_up hc3 (by omega)⟩
   show (if x25 = true then _ else _) = _
   rw [if_pos h0, e, Option.bind_some]
 · by_cases h6 : x14 = 6
   · obtain ⟨i, at2, sd2, e, hi, hc2⟩ := pick_some hl hc (by omega) (sd := sd) 20
     have hs := itB_size i hi.1 (by omega)
     obtain ⟨b', c', d', at3, sd3, e3, h3, hc3⟩ := rec_j1 hl hc2 (by omega) (sd := sd2) a b c (itB i) (by omega)
     refine ⟨b', c', d', at3, sd3, Ev.step (f := fun k => (spec_l1Num.f k i).bind fun t => spec_l1Cur_record.j1 k l at2 sd2 a b c t) (fun k => ?_) (Ev.bind (num_it i hi.1 (by omega)) e3), h3, cur_up hc3 (by omega)⟩
     show (if x25 = true then _ else _) = _
     rw [if_neg h0, if_pos h6, e, Option.bind_some]
   · by_cases h15 : x14 = 15
     · obtain ⟨i, at2, sd2, e, hi, hc2⟩ := pick_some hl hc (by omega) (sd := sd) 30
       have hs := itB_size i hi.1 (by omega)
       obtain ⟨x, at3, sd3, e3, hx, hc3⟩ := target_some hl hc2 (by omega) (sd := sd2)
       have hz : (itB i ++ (⟨#[32]⟩ : ByteArray)).size = (itB i).size + 1 := by rw [ByteArray.size_append]; rfl
       obtain ⟨b', c', d', at4, sd4, e4, h4, hc4⟩ := rec_j1 hl hc3 (by omega) (sd := sd3) a b c ((itB i ++ (⟨#[32]⟩ : ByteArray)) ++ x) (by rw [ByteArray.size_append, hz]; omega)
       refine ⟨b', c', d', at4, sd4, Ev.step (f := fun k => (spec_l1Num.f k i).bind fun t => (if t.size + 1 ≤ 9223372036854775807 then ((spec_l1Cur_target.f l at2 sd2).bind fun bt => (if (t ++ (⟨#[32]⟩ : ByteArray)).size + bt.1.size ≤ 9223372036854775807 then (spec_l1Cur_record.j1 k l bt.2.1 bt.2.2 a b c ((t ++ (⟨#[32]⟩ : ByteArray)) ++ bt.1)) else (none))) else (none))) (fun k => ?_) (Ev.bind (num_it i hi.1 (by omega)) ?_), h4, cur_up hc4 (by omega)⟩
       · show (if x25 = true then _ else _) = _
         rw [if_neg h0, if_neg h6, if_pos h15, e, Option.bind_some]
       · simp only [if_pos (show (itB i).size + 1 ≤ 9223372036854775807 by omega), e3, Option.bind_some, if_pos (show (itB i ++ (⟨#[32]⟩ : ByteArray)).size + x.size ≤ 9223372036854775807 by rw [hz]; omega)]
         exact e4
     · obtain ⟨x, at2, sd2, e, hx, hc2⟩ := of_some hl hc (by omega) (sd := sd) ([(⟨#[104, 101, 108, 108, 111]⟩ : ByteArray), (⟨#[]⟩ : ByteArray), (⟨#[118, 61, 49, 32, 120]⟩ : ByteArray)] : List ByteArray) (by decide)
       have hsz : x.size ≤ 40 := size_le (by decide) hx
       obtain ⟨b', c', d', at3, sd3, e3, h3, hc3⟩ := rec_j1 hl hc2 (by omega) (sd := sd2) a b c x hsz
       refine ⟨b', c', d', at3, sd3, Ev.step (fun k => ?_) e3, h3, cur_up hc3 (by omega)⟩
       show (if x25 = true then _ else _) = _
       rw [if_neg h0, if_neg h6, if_neg h15, e, Option.bind_some]
theorem rec_some {l : List Int} (hl : Bytes l) {at_ sd : Int} {n : Nat} (hc : Cur at_ n) (hn : n < 4611686018427360000) :
 ∃ a b c d at2 sd2, Ev (fun k => spec_l1Cur_record.f k l at_ sd) (a, b, c, d, at2, sd2) ∧ a.size ≤ 60 ∧ d.size ≤ 40 ∧ Cur at2 (n + 40) := by
 obtain ⟨a, at2, sd2, e, ha, hc2⟩ := name_some hl hc (by omega) (sd := sd)
 obtain ⟨b, at3, sd3, e3, hb, hc3⟩ := among_some hl hc2 (by omega) (sd := sd2) ([1, 1, 1, 2, 5, 15, 16, 6] : List Int) (by decide)
 obtain ⟨c, at4, sd4, e4, hc', hc4⟩ := among_some hl hc3 (by omega) (sd := sd3) ([5, 60, 60, 300] : List Int) (by decide)
 by_cases h1 : b = 1
 · obtain ⟨x, at5, sd5, e5, hx, hc5⟩ := of_some hl hc4 (by omega) (sd := sd4) ([(⟨#[49, 46, 50, 46, 51, 46, 52]⟩ : ByteArray), (⟨#[49, 46, 50, 46, 51, 46, 53]⟩ : ByteArray), (⟨#[49, 48, 46, 48, 46, 48, 46, 49]⟩ : ByteArray), (⟨#[57, 46, 57, 46, 57, 46, 57]⟩ : ByteArray)] : List ByteArray) (by decide)
   have hsz : x.size ≤ 40 := size_le (by decide) hx
   obtain ⟨b', c', d', at6, sd6, e6, h6, hc6⟩ := rec_j1 hl hc5 (by omega) (sd := sd5) a b c x hsz
   refine ⟨a, b', c', d', at6, sd6, Ev.congr (fun k => rfl) (Ev.bind e ?_), ha, h6, cur_up hc6 (by omega)⟩
   simp only [e3, Option.bind_some, e4, if_pos h1, e5]
   exact e6
 · by_cases h2 : b = 2
   · obtain ⟨b', c', d', at6, sd6, e6, h6, hc6⟩ := rec_j0 hl hc4 (by omega) (sd := sd4) b (b == 2) a b c (⟨#[]⟩ : ByteArray)
     refine ⟨a, b', c', d', at6, sd6, Ev.congr (fun k => rfl) (Ev.bind e ?_), ha, h6, cur_up hc6 (by omega)⟩
     simp only [e3, Option.bind_some, e4, if_neg h1, if_pos h2]
     exact e6
   · obtain ⟨b', c', d', at6, sd6, e6, h6, hc6⟩ := rec_j0 hl hc4 (by omega) (sd := sd4) b (b == 5) a b c (⟨#[]⟩ : ByteArray)
     refine ⟨a, b', c', d', at6, sd6, Ev.congr (fun k => rfl) (Ev.bind e ?_), ha, h6, cur_up hc6 (by omega)⟩
     simp only [e3, Option.bind_some, e4, if_neg h1, if_neg h2]
     exact e6
end Go.Proofs.YtiegkjimpclmaaaGreatDoor.Pure
namespace Go.Proofs.YtiegkjimpclmaaaGreatDoor.P
open Go.RowKit Go.Proofs.YtiegkjimpclmaaaGreatDoorW.PrintWords Go.Proofs.YtiegkjimpclmaaaGreatDoorW.PrintLast Go.Proofs.YtiegkjimpclmaaaGreatDoorW.PrintMore
attribute [local go_sem] max2_int min2_int max_two min_two max_three min_three max_four min_four
set_option linter.unusedVariables false
set_option linter.unusedSimpArgs false
def spec_l3Name.f (k : Nat) (a0 : ByteArray) : Option (ByteArray) := if (a0.size : Int) = 0 then (some (⟨#[]⟩ : ByteArray)) else ((spec_l2Take.f k a0 0).bind fun bt137 => (if bt137.2.2.2 = true then (if bt137.2.1 = (a0.size : Int) then (some bt137.1) else (some (⟨#[]⟩ : ByteArray))) else (some (⟨#[]⟩ : ByteArray))))
set_option maxHeartbeats 8000000 in
set_option maxRecDepth 100000 in
theorem spec_l3Name.calls (k : Nat) (a0 : ByteArray) (r : ByteArray) (w : World) (h : spec_l3Name.f k a0 = some r) :
 Calls Tryz.prog 53 #[.string a0] w fun e w' => e = .returned (.string r) ∧ Below w.heap.size w w' := by
 have HB := a0_ (Below.refl w.heap.size w)
 have H := h
 clear h
 unfold spec_l3Name.f at H
 by_cases c2 : (a0.size : Int) = 0
 case pos =>
  rw [if_pos c2] at H
  have c2b0 := beq_iff_eq.mpr c2
  have c2b1 := bne_eq_false_iff_eq.mpr c2
  clear c2
  obtain rfl := Option.some.inj H
  go_enter Tryz.func53, Tryz.ntmps53
  go_wp2
  go_ret
  exact ⟨rr_, bq0_⟩
 rw [if_neg c2] at H
 have c2b0 := beq_eq_false_iff_ne.mpr c2
 have c2b1 := bne_iff_ne.mpr c2
 obtain ⟨⟨t137, t138, t139, t140⟩, A30, H⟩ := Option.bind_eq_some_iff.mp H
 have A3 := a0_ A30
 clear A30
 by_cases c4 : t140 = true
 case neg =>
  replace c4 := Bool.eq_false_iff.mpr c4
  subst c4
  rw [if_neg (show ¬ (false = true) by decide)] at H
  obtain rfl := Option.some.inj H
  go_enter Tryz.func53, Tryz.ntmps53
  go_wp2_with (first | ((with_reducible refine gate_callee (f := 115) rfl ?_); refine goesL_ (some 12) rfl rfl Tryz.func115 (by kernel_rfl) rfl #[.string a0, .int .i64 0] rfl argsS_ ?_; (with_reducible refine (spec_l2Take.calls k a0 0 t137 t138 t139 false _ A3.out).mono ?_); rintro e w8 ⟨v141, rfl, ho0, hb⟩; refine ⟨_, rfl, ?_⟩; have HO142 := a0_ (Kd.R_lower ho0 (below_size bq0_)); replace HB := a0_ (below_step bq0_ hb); clear hb; (try clear ho0)))
  go_ret
  exact ⟨rr_, bq0_⟩
 subst c4
 rw [if_pos rfl] at H
 by_cases c5 : t138 = (a0.size : Int)
 case neg =>
  rw [if_neg c5] at H
  have c5b0 := beq_eq_false_iff_ne.mpr c5
  have c5b1 := bne_iff_ne.mpr c5
  obtain rfl := Option.some.inj H
  go_enter Tryz.func53, Tryz.ntmps53
  go_wp2_with (first | ((with_reducible refine gate_callee (f := 115) rfl ?_); refine goesL_ (some 12) rfl rfl Tryz.func115 (by kernel_rfl) rfl #[.string a0, .int .i64 0] rfl argsS_ ?_; (with_reducible refine (spec_l2Take.calls k a0 0 t137 t138 t139 true _ A3.out).mono ?_); rintro e w7 ⟨v141, rfl, ho0, hb⟩; refine ⟨_, rfl, ?_⟩; have HO142 := a0_ (Kd.R_lower ho0 (below_size bq0_)); replace HB := a0_ (below_step bq0_ hb); clear hb; (try clear ho0)))
  go_ret
  exact ⟨rr_, bq0_⟩
 rw [if_pos c5] at H
 have c5b0 := beq_iff_eq.mpr c5
 have c5b1 := bne_eq_false_iff_eq.mpr c5
 clear c5
 obtain rfl := Option.some.inj H
 go_enter Tryz.func53, Tryz.ntmps53
 go_wp2_with (first | ((with_reducible refine gate_callee (f := 115) rfl ?_); refine goesL_ (some 12) rfl rfl Tryz.func115 (by kernel_rfl) rfl #[.string a0, .int .i64 0] rfl argsS_ ?_; (with_reducible refine (spec_l2Take.calls k a0 0 t137 t138 t139 true _ A3.out).mono ?_); rintro e w6 ⟨v141, rfl, ho0, hb⟩; refine ⟨_, rfl, ?_⟩; have HO142 := a0_ (Kd.R_lower ho0 (below_size bq0_)); replace HB := a0_ (below_step bq0_ hb); clear hb; (try clear ho0)))
 go_ret
 exact ⟨rr_, bq0_⟩
def impl_CompareRecords.f (k : Nat) (a0_0 : ByteArray) (a0_1 : Int) (a0_2 : Int) (a0_3 : ByteArray) (a1_0 : ByteArray) (a1_1 : Int) (a1_2 : Int) (a1_3 : ByteArray) : Option (Int × Bool) := (impl_GoodRecord.f k a0_0 a0_1 a0_2 a0_3).bind fun t795 => (if t795 = true then ((impl_GoodRecord.f k a1_0 a1_1 a1_2 a1_3).bind fun t796 => (if t796 = true then ((impl_compareRecords.f k a0_0 a0_1 a0_2 a0_3 a1_0 a1_1 a1_2 a1_3).bind fun t797 => (some (t797, true))) else (some (0, false)))) else (some (0, false)))
set_option maxHeartbeats 8000000 in
set_option maxRecDepth 100000 in
theorem impl_CompareRecords.calls (k : Nat) (a0_0 : ByteArray) (a0_1 : Int) (a0_2 : Int) (a0_3 : ByteArray) (a1_0 : ByteArray) (a1_1 : Int) (a1_2 : Int) (a1_3 : ByteArray) (r1 : Int) (r2 : Bool) (w : World) (h : impl_CompareRecords.f k a0_0 a0_1 a0_2 a0_3 a1_0 a1_1 a1_2 a1_3 = some (r1, r2)) (hv_ : Vars w := by exact vv_) :
 Calls Tryz.prog 36 #[.agg #[.string a0_0, .int .i64 a0_1, .int .i64 a0_2, .string a0_3], .agg #[.string a1_0, .int .i64 a1_1, .int .i64 a1_2, .string a1_3]] w fun e w' => e = .returned (.tuple #[.int .i64 r1, .bool r2]) ∧ Below w.heap.size w w' := by
 have HV_ := a0_ hv_
 clear hv_
 have hu45 := Tryz.underlying45
 have HB := a0_ (Below.refl w.heap.size w)
 have H := h
 clear h
 unfold impl_CompareRecords.f at H
 obtain ⟨t795, A30, H⟩ := Option.bind_eq_some_iff.mp H
 have A3 := a0_ A30
 clear A30
 by_cases c4 : t795 = true
 case neg =>
  replace c4 := Bool.eq_false_iff.mpr c4
  subst c4
  rw [if_neg (show ¬ (false = true) by decide)] at H
  simp only [Option.some.injEq, Prod.mk.injEq] at H
  obtain ⟨rfl, rfl⟩ := H
  go_enter Tryz.func36, Tryz.ntmps36
  go_wp2_with (first | ((with_reducible refine gate_dst (N := 2) rfl ?_); refine boxS_ 2 #[.string a0_0, .int .i64 a0_1, .int .i64 a0_2, .string a0_3] 45 (fun gb793 hg w25 hbox hb => ?_); have n0_ := a0_ (below_step bq0_ hb); have n1_ := a0_ (hbox); have n2_ := a0_ (gw_ hg : w.heap.size ≤ gb793); have n3_ := n2_; clear HB; have HB := n0_; have BK793 := n1_; have GW793 := n2_; have GE793 := n3_; clear n0_ n1_ n2_ n3_; clear hb hbox hg) | ((with_reducible refine gate_dst (N := 3) rfl ?_); refine boxS_ 3 #[.string a1_0, .int .i64 a1_1, .int .i64 a1_2, .string a1_3] 45 (fun gb794 hg w26 hbox hb => ?_); have n0_ := a0_ (bkB_ BK793 hb); have n1_ := a0_ (below_step bq1_ hb); have n2_ := a0_ (hbox); have n3_ := a0_ (gw_ hg (below_size bq1_) : w.heap.size ≤ gb794); have n4_ := n3_; have n5_ := a0_ ((by rw [hg]; exact Nat.ne_of_lt (blk_lt (g := gb793) (o := .cells #[.string a0_0, .int .i64 a0_1, .int .i64 a0_2, .string a0_3] 45 (0, 0)) (kB_ BK793.out)) : gb793 ≠ gb794)); have n6_ := a0_ ((by rw [hg]; exact Nat.ne_of_gt (blk_lt (g := gb793) (o := .cells #[.string a0_0, .int .i64 a0_1, .int .i64 a0_2, .string a0_3] 45 (0, 0)) (kB_ BK793.out)) : gb794 ≠ gb793)); clear BK793; clear HB; have BK793 := n0_; have HB := n1_; have BK794 := n2_; have GW794 := n3_; have GE794 := n4_; have NB793_794 := n5_; have NB794_793 := n6_; clear n0_ n1_ n2_ n3_ n4_ n5_ n6_; clear hb hbox hg; have hnb27 := NB793_794.out; have hnc27 := NB794_793.out; obtain ⟨z28_0, z28_1, z28_2, z28_3, q28_0, q28_1, q28_2, q28_3⟩ := bk4_ BK793.out) | ((with_reducible refine gate_callee (f := 29) rfl ?_); refine goesL_ (some 7) rfl rfl Tryz.func29 (by kernel_rfl) rfl #[.agg #[.string a0_0, .int .i64 a0_1, .int .i64 a0_2, .string a0_3]] rfl argsS_ ?_; (with_reducible refine (impl_GoodRecord.calls k a0_0 a0_1 a0_2 a0_3 false _ A3.out).mono ?_); rintro e w29 ⟨rfl, hb⟩; refine ⟨_, rfl, ?_⟩; replace BK793 := a0_ (bkB_ BK793 hb); replace BK794 := a0_ (bkB_ BK794 hb); replace HB := a0_ (below_step bq1_ hb); clear hb))
  go_ret2
  exact ⟨rr_, bq1_⟩
 subst c4
 rw [if_pos rfl] at H
 obtain ⟨t796, A50, H⟩ := Option.bind_eq_some_iff.mp H
 have A5 := a0_ A50
 clear A50
 by_cases c6 : t796 = true
 case neg =>
  replace c6 := Bool.eq_false_iff.mpr c6
  subst c6
  rw [if_neg (show ¬ (false = true) by decide)] at H
  simp only [Option.some.injEq, Prod.mk.injEq] at H
  obtain ⟨rfl, rfl⟩ := H
  go_enter Tryz.func36, Tryz.ntmps36
  go_wp2_with (first | ((with_reducible refine gate_dst (N := 2) rfl ?_); refine boxS_ 2 #[.string a0_0, .int .i64 a0_1, .int .i64 a0_2, .string a0_3] 45 (fun gb793 hg w18 hbox hb => ?_); have n0_ := a0_ (below_step bq0_ hb); have n1_ := a0_ (hbox); have n2_ := a0_ (gw_ hg : w.heap.size ≤ gb793); have n3_ := n2_; clear HB; have HB := n0_; have BK793 := n1_; have GW793 := n2_; have GE793 := n3_; clear n0_ n1_ n2_ n3_; clear hb hbox hg) | ((with_reducible refine gate_dst (N := 3) rfl ?_); refine boxS_ 3 #[.string a1_0, .int .i64 a1_1, .int .i64 a1_2, .string a1_3] 45 (fun gb794 hg w19 hbox hb => ?_); have n0_ := a0_ (bkB_ BK793 hb); have n1_ := a0_ (below_step bq1_ hb); have n2_ := a0_ (hbox); have n3_ := a0_ (gw_ hg (below_size bq1_) : w.heap.size ≤ gb794); have n4_ := n3_; have n5_ := a0_ ((by rw [hg]; exact Nat.ne_of_lt (blk_lt (g := gb793) (o := .cells #[.string a0_0, .int .i64 a0_1, .int .i64 a0_2, .string a0_3] 45 (0, 0)) (kB_ BK793.out)) : gb793 ≠ gb794)); have n6_ := a0_ ((by rw [hg]; exact Nat.ne_of_gt (blk_lt (g := gb793) (o := .cells #[.string a0_0, .int .i64 a0_1, .int .i64 a0_2, .string a0_3] 45 (0, 0)) (kB_ BK793.out)) : gb794 ≠ gb793)); clear BK793; clear HB; have BK793 := n0_; have HB := n1_; have BK794 := n2_; have GW794 := n3_; have GE794 := n4_; have NB793_794 := n5_; have NB794_793 := n6_; clear n0_ n1_ n2_ n3_ n4_ n5_ n6_; clear hb hbox hg; have hnb20 := NB793_794.out; have hnc20 := NB794_793.out; obtain ⟨z21_0, z21_1, z21_2, z21_3, q21_0, q21_1, q21_2, q21_3⟩ := bk4_ BK793.out) | ((with_reducible refine gate_callee (f := 29) rfl ?_); refine goesL_ (some 7) rfl rfl Tryz.func29 (by kernel_rfl) rfl #[.agg #[.string a0_0, .int .i64 a0_1, .int .i64 a0_2, .string a0_3]] rfl argsS_ ?_; (with_reducible refine (impl_GoodRecord.calls k a0_0 a0_1 a0_2 a0_3 true _ A3.out).mono ?_); rintro e w22 ⟨rfl, hb⟩; refine ⟨_, rfl, ?_⟩; replace BK793 := a0_ (bkB_ BK793 hb); replace BK794 := a0_ (bkB_ BK794 hb); replace HB := a0_ (below_step bq1_ hb); clear hb; obtain ⟨z23_0, z23_1, z23_2, z23_3, q23_0, q23_1, q23_2, q23_3⟩ := bk4_ BK794.out) | (go_at_call 29; (with_reducible refine (impl_GoodRecord.calls k a1_0 a1_1 a1_2 a1_3 false _ A5.out).mono ?_); rintro e w24 ⟨rfl, hb⟩; replace BK793 := a0_ (bkB_ BK793 hb); replace BK794 := a0_ (bkB_ BK794 hb); replace HB := a0_ (below_step bq1_ hb); clear hb))
  go_ret2
  exact ⟨rr_, bq1_⟩
 subst c6
 rw [if_pos rfl] at H
 obtain ⟨t797, A70, H⟩ := Option.bind_eq_some_iff.mp H
 have A7 := a0_ A70
 clear A70
 simp only [Option.some.injEq, Prod.mk.injEq] at H
 obtain ⟨rfl, rfl⟩ := H
 go_enter Tryz.func36, Tryz.ntmps36
 go_wp2_with (first | ((with_reducible refine gate_dst (N := 2) rfl ?_); refine boxS_ 2 #[.string a0_0, .int .i64 a0_1, .int .i64 a0_2, .string a0_3] 45 (fun gb793 hg w8 hbox hb => ?_); have n0_ := a0_ (below_step bq0_ hb); have n1_ := a0_ (hbox); have n2_ := a0_ (gw_ hg : w.heap.size ≤ gb793); have n3_ := n2_; clear HB; have HB := n0_; have BK793 := n1_; have GW793 := n2_; have GE793 := n3_; clear n0_ n1_ n2_ n3_; clear hb hbox hg) | ((with_reducible refine gate_dst (N := 3) rfl ?_); refine boxS_ 3 #[.string a1_0, .int .i64 a1_1, .int .i64 a1_2, .string a1_3] 45 (fun gb794 hg w9 hbox hb => ?_); have n0_ := a0_ (bkB_ BK793 hb); have n1_ := a0_ (below_step bq1_ hb); have n2_ := a0_ (hbox); have n3_ := a0_ (gw_ hg (below_size bq1_) : w.heap.size ≤ gb794); have n4_ := n3_; have n5_ := a0_ ((by rw [hg]; exact Nat.ne_of_lt (blk_lt (g := gb793) (o := .cells #[.string a0_0, .int .i64 a0_1, .int .i64 a0_2, .string a0_3] 45 (0, 0)) (kB_ BK793.out)) : gb793 ≠ gb794)); have n6_ := a0_ ((by rw [hg]; exact Nat.ne_of_gt (blk_lt (g := gb793) (o := .cells #[.string a0_0, .int .i64 a0_1, .int .i64 a0_2, .string a0_3] 45 (0, 0)) (kB_ BK793.out)) : gb794 ≠ gb793)); clear BK793; clear HB; have BK793 := n0_; have HB := n1_; have BK794 := n2_; have GW794 := n3_; have GE794 := n4_; have NB793_794 := n5_; have NB794_793 := n6_; clear n0_ n1_ n2_ n3_ n4_ n5_ n6_; clear hb hbox hg; have hnb10 := NB793_794.out; have hnc10 := NB794_793.out; obtain ⟨z11_0, z11_1, z11_2, z11_3, q11_0, q11_1, q11_2, q11_3⟩ := bk4_ BK793.out) | ((with_reducible refine gate_callee (f := 29) rfl ?_); refine goesL_ (some 7) rfl rfl Tryz.func29 (by kernel_rfl) rfl #[.agg #[.string a0_0, .int .i64 a0_1, .int .i64 a0_2, .string a0_3]] rfl argsS_ ?_; (with_reducible refine (impl_GoodRecord.calls k a0_0 a0_1 a0_2 a0_3 true _ A3.out).mono ?_); rintro e w12 ⟨rfl, hb⟩; refine ⟨_, rfl, ?_⟩; replace BK793 := a0_ (bkB_ BK793 hb); replace BK794 := a0_ (bkB_ BK794 hb); replace HB := a0_ (below_step bq1_ hb); clear hb; obtain ⟨z13_0, z13_1, z13_2, z13_3, q13_0, q13_1, q13_2, q13_3⟩ := bk4_ BK794.out) | (go_at_call 29; (with_reducible refine (impl_GoodRecord.calls k a1_0 a1_1 a1_2 a1_3 true _ A5.out).mono ?_); rintro e w14 ⟨rfl, hb⟩; replace BK793 := a0_ (bkB_ BK793 hb); replace BK794 := a0_ (bkB_ BK794 hb); replace HB := a0_ (below_step bq1_ hb); clear hb; obtain ⟨z15_0, z15_1, z15_2, z15_3, q15_0, q15_1, q15_2, q15_3⟩ := bk4_ BK793.out; obtain ⟨z16_0, z16_1, z16_2, z16_3, q16_0, q16_1, q16_2, q16_3⟩ := bk4_ BK794.out) | ((with_reducible refine gate_callee (f := 77) rfl ?_); refine goesL_ (some 16) rfl rfl Tryz.func77 (by kernel_rfl) rfl #[.agg #[.string a0_0, .int .i64 a0_1, .int .i64 a0_2, .string a0_3], .agg #[.string a1_0, .int .i64 a1_1, .int .i64 a1_2, .string a1_3]] rfl argsS_ ?_; (with_reducible refine (impl_compareRecords.calls k a0_0 a0_1 a0_2 a0_3 a1_0 a1_1 a1_2 a1_3 t797 _ A7.out).mono ?_); rintro e w17 ⟨rfl, hb⟩; refine ⟨_, rfl, ?_⟩; replace BK793 := a0_ (bkB_ BK793 hb); replace BK794 := a0_ (bkB_ BK794 hb); replace HB := a0_ (below_step bq1_ hb); clear hb))
 go_ret2
 exact ⟨rr_, bq1_⟩
def impl_nameIn.f (k : Nat) (a0 : ByteArray) : Option (ByteArray) := (impl_takeName.f k a0 0).bind fun bt276 => (some bt276.1)
theorem impl_nameIn.mono : ∀ a0 k, LeO (impl_nameIn.f k a0) (impl_nameIn.f (k + 1) a0) := by
 intro a0 k
 unfold impl_nameIn.f
 repeat' first
  | (with_reducible exact impl_takeName.mono _ _ _)
  | (with_reducible exact LeO.refl _)
  | (with_reducible exact LeO.none _)
  | (with_reducible refine LeO.ite ?_ ?_)
  | (with_reducible refine LeO.bind ?_ (fun _ => ?_))
  | exact impl_takeName.mono _ _ _
  | exact LeO.none _
  | refine LeO.ite ?_ ?_
  | refine LeO.bind ?_ (fun _ => ?_)
set_option maxHeartbeats 8000000 in
set_option maxRecDepth 100000 in
theorem impl_nameIn.calls (k : Nat) (a0 : ByteArray) (r : ByteArray) (w : World) (h : impl_nameIn.f k a0 = some r) :
 Calls Tryz.prog 58 #[.string a0] w fun e w' => e = .returned (.string r) ∧ Below w.heap.size w w' := by
 have HB := a0_ (Below.refl w.heap.size w)
 have H := h
 clear h
 unfold impl_nameIn.f at H
 obtain ⟨⟨t276, t277, t278, t279⟩, A20, H⟩ := Option.bind_eq_some_iff.mp H
 have A2 := a0_ A20
 clear A20
 obtain rfl := Option.some.inj H
 go_enter Tryz.func58, Tryz.ntmps58
 go_wp2_with (first | ((with_reducible refine gate_callee (f := 125) rfl ?_); refine goesL_ (some 9) rfl rfl Tryz.func125 (by kernel_rfl) rfl #[.string a0, .int .i64 0] rfl argsS_ ?_; (with_reducible refine (impl_takeName.calls k a0 0 t276 t277 t278 t279 _ A2.out).mono ?_); rintro e w3 ⟨v280, rfl, ho0, hb⟩; refine ⟨_, rfl, ?_⟩; have HO281 := a0_ (Kd.R_lower ho0 (below_size bq0_)); replace HB := a0_ (below_step bq0_ hb); clear hb; (try clear ho0)))
 go_ret
 exact ⟨rr_, bq0_⟩
end Go.Proofs.YtiegkjimpclmaaaGreatDoor.P
