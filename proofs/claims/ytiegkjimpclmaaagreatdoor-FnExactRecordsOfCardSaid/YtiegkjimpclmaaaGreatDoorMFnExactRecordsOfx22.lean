/- FnExactRecordsOf: part 23 of 28 of my texts for this claim, joined; the theorem stands in the last. Conditions: none beyond the statement's. -/
import Derived.Test.YtiegkjimpclmaaaGreatDoorMFnExactRecordsOfx21
import Derived.Sort.Walk0
import Derived.Sort.Statements
import Derived.Lib.SlicesCompact
namespace Go.Proofs.YtiegkjimpclmaaaGreatDoor.Pure
open Go.RowKit Go.Proofs.YtiegkjimpclmaaaGreatDoor.P Go.Proofs.YtiegkjimpclmaaaGreatDoorW.PrintWords Go.Proofs.YtiegkjimpclmaaaGreatDoorW.PrintLast Go.Proofs.YtiegkjimpclmaaaGreatDoorW.PrintMore
set_option linter.unusedVariables false
set_option linter.unusedSimpArgs false
theorem split32_loop (s : ByteArray) (hs : s.size < 1099511627776) : ∀ (m i a : Nat) (acc : List ByteArray), i + m = s.size → a ≤ i → (∀ x ∈ (s.data.toList.drop a).take (i - a), x ≠ 32) → acc.length ≤ a →
 spec_l1Split.l0 (m + 1) s 32 acc (a : Int) (i : Int) = some (acc ++ (splitL 32 (s.data.toList.drop a)).map mkB)
 | 0, i, a, acc, him, hai, hx, hacc => by
  unfold spec_l1Split.l0
  rw [if_neg (by omega), if_pos (by omega), if_pos (by omega), if_pos (by omega)]
  rw [List.take_of_length_le (by rw [List.length_drop, ← size_len]; omega)] at hx
  rw [splitL_none 32 _ hx, Int.toNat_natCast, ext_end]
  rfl
 | m + 1, i, a, acc, him, hai, hx, hacc => by
  have hi : i < s.data.toList.length := by rw [← size_len]; omega
  unfold spec_l1Split.l0
  rw [if_pos (by omega), if_pos (by omega), bt_list s i hi, w64n (by omega)]
  have hd : s.data.toList.drop a = (s.data.toList.drop a).take (i - a) ++ s.data.toList[i] :: s.data.toList.drop (i + 1) := by
   conv => lhs; rw [← List.take_append_drop (i - a) (s.data.toList.drop a)]
   congr 1
   rw [List.drop_drop, show a + (i - a) = i by omega, List.drop_eq_getElem_cons hi]
  by_cases h : s.data.toList[i] = 32
  · rw [if_pos (by rw [h]; rfl), if_pos (by omega), if_pos (by omega), if_pos (by omega), if_pos (by omega), Int.toNat_natCast, Int.toNat_natCast, ext_mkB]
    rw [split32_loop s hs m (i + 1) (i + 1) _ (by omega) (by omega) (by simp) (by simp; omega)]
    conv => rhs; rw [hd, h, splitL_hit 32 _ _ hx]
    simp
  · rw [if_neg (by intro e; apply h; apply UInt8.toNat_inj.1; simpa using Int.ofNat.inj e)]
    refine split32_loop s hs m (i + 1) a acc (by omega) (by omega) ?_ hacc
    intro x hm
    rw [show i + 1 - a = (i - a) + 1 by omega, List.take_add_one] at hm
    rcases List.mem_append.1 hm with hm | hm
    · exact hx x hm
    · rw [List.getElem?_drop, show a + (i - a) = i by omega, List.getElem?_eq_getElem hi] at hm
      obtain rfl : x = s.data.toList[i] := by simpa using hm
      exact h
theorem split32_ev (s : ByteArray) (hs : s.size < 1099511627776) : Ev (fun k => spec_l1Split.f k s 32) ((splitL 32 s.data.toList).map mkB) := by
 refine Ev.of (fun k => spec_l1Split.mono _ _ _) (k := s.size + 1) ?_
 unfold spec_l1Split.f
 have := split32_loop s hs s.size 0 0 [] (by omega) (by omega) (by simp) (by simp)
 simpa using this
def unL : List (List UInt8) → List UInt8
 | [] => []
 | [p] => p
 | p :: q :: r => p ++ 46 :: unL (q :: r)
theorem good_all {s : List UInt8} (h : goodL s = true) : (labelsL s).length ≤ 8 ∧ ∀ x ∈ labelsL s, isLabelL x = true := by
 unfold goodL at h
 simp only [Bool.and_eq_true, decide_eq_true_eq, List.all_eq_true] at h
 exact h.2
theorem big1 (n : Int) : Ev (fun k => impl_big.f k n 1) (strOfNums [n % 256]) := by
 refine Ev.of (fun k => impl_big.mono _ _ _) (k := 2) ?_
 show impl_big.f 2 n 1 = _
 simp [impl_big.f, impl_big.l0, wrap64, shr, IntKind.bits]
theorem num1 (n : Int) : Ev (fun k => spec_l3Number.f k n 1) (strOfNums [n % 256]) := by
 refine Ev.of (fun k => spec_l3Number.mono _ _ _) (k := 2) ?_
 show spec_l3Number.f 2 n 1 = _
 simp [spec_l3Number.f, spec_l3Number.l0, wrap64]
theorem big2 (n : Int) : Ev (fun k => impl_big.f k n 2) (strOfNums [n / 256 % 256, n % 256]) := by
 refine Ev.of (fun k => impl_big.mono _ _ _) (k := 3) ?_
 show impl_big.f 3 n 2 = _
 simp [impl_big.f, impl_big.l0, wrap64, shr, IntKind.bits]
theorem num2 (n : Int) : Ev (fun k => spec_l3Number.f k n 2) (strOfNums [n / 256 % 256, n % 256]) := by
 refine Ev.of (fun k => spec_l3Number.mono _ _ _) (k := 3) ?_
 show spec_l3Number.f 3 n 2 = _
 simp [spec_l3Number.f, spec_l3Number.l0, wrap64]
theorem big4 (n : Int) : Ev (fun k => impl_big.f k n 4) (strOfNums [n / 16777216 % 256, n / 65536 % 256, n / 256 % 256, n % 256]) := by
 refine Ev.of (fun k => impl_big.mono _ _ _) (k := 5) ?_
 show impl_big.f 5 n 4 = _
 simp [impl_big.f, impl_big.l0, wrap64, shr, IntKind.bits]
theorem num4 (n : Int) : Ev (fun k => spec_l3Number.f k n 4) (strOfNums [n / 16777216 % 256, n / 65536 % 256, n / 256 % 256, n % 256]) := by
 refine Ev.of (fun k => spec_l3Number.mono _ _ _) (k := 5) ?_
 show spec_l3Number.f 5 n 4 = _
 simp [spec_l3Number.f, spec_l3Number.l0, wrap64, Int.ediv_ediv_of_nonneg]
def targL (l : List UInt8) : Bool := decide (l ≠ []) && (goodL l && !l.contains 42)
theorem contains_eq (s : ByteArray) : strings_Contains.f s (⟨#[42]⟩ : ByteArray) = some (s.data.toList.contains 42) := by
 unfold strings_Contains.f strings_Index.f internal_stringslite_Index.f
 rw [if_pos (show (⟨#[42]⟩ : ByteArray).size = 1 from rfl)]
 simp only [Option.bind_some]
 rw [show List.headD (⟨#[42]⟩ : ByteArray).data.toList 0 = 42 from rfl]
 congr 1
 rcases place_or 42 s.data.toList with ⟨h1, h2⟩ | ⟨p, r, h1, h2, h3⟩
 · rw [h1]
   have : s.data.toList.contains 42 = false := by
    rw [Bool.eq_false_iff]
    intro h
    rw [List.contains_iff_mem] at h
    exact h2 42 h rfl
   rw [this]
   rfl
 · rw [h3]
   have : s.data.toList.contains 42 = true := by
    rw [List.contains_iff_mem, h1]
    simp
   rw [this]
   exact decide_eq_true (by omega)
theorem target_impl (s : ByteArray) : impl_isTarget.f s = some (targL s.data.toList) := by
 unfold impl_isTarget.f impl_GoodName.f targL
 rw [Lib.toList_data, contains_eq]
 by_cases h : s.data.toList = []
 · rw [if_pos h, decide_eq_false (by simp [h])]; rfl
 · rw [if_neg h, decide_eq_true h, Option.bind_some, Bool.true_and]
   cases goodL s.data.toList with
   | true => rfl
   | false => rfl
theorem split_mem : ∀ (l : List UInt8) (b : UInt8), b ≠ 46 → (b ∈ l ↔ ∃ p ∈ splitL 46 l, b ∈ p)
 | [], b, hb => by simp [splitL]
 | x :: xs, b, hb => by
  have ih := split_mem xs b hb
  obtain ⟨p, ps, hp⟩ := List.exists_cons_of_ne_nil (splitL_ne 46 xs)
  unfold splitL
  rw [hp] at ih ⊢
  by_cases h : x = 46
  · rw [if_pos h, List.mem_cons, ih]
    constructor
    · rintro (e | ⟨q, hq, hb2⟩)
      · exact absurd (e.trans h) hb
      · exact ⟨q, List.mem_cons_of_mem _ hq, hb2⟩
    · rintro ⟨q, hq, hb2⟩
      rcases List.mem_cons.1 hq with rfl | hq
      · cases hb2
      · exact .inr ⟨q, hq, hb2⟩
  · rw [if_neg h, List.mem_cons, ih]
    constructor
    · rintro (e | ⟨q, hq, hb2⟩)
      · exact ⟨x :: p, List.mem_cons_self, by rw [e]; exact List.mem_cons_self⟩
      · rcases List.mem_cons.1 hq with rfl | hq
        · exact ⟨x :: q, List.mem_cons_self, List.mem_cons_of_mem _ hb2⟩
        · exact ⟨q, List.mem_cons_of_mem _ hq, hb2⟩
    · rintro ⟨q, hq, hb2⟩
      rcases List.mem_cons.1 hq with rfl | hq
      · rcases List.mem_cons.1 hb2 with e | hb2
        · exact .inl e
        · exact .inr ⟨p, List.mem_cons_self, hb2⟩
      · exact .inr ⟨q, List.mem_cons_of_mem _ hq, hb2⟩
theorem star_label {s : List UInt8} (h : goodL s = true) : s.contains 42 = true ↔ ∃ p ∈ labelsL s, p = [42] := by
 rw [List.contains_iff_mem]
 unfold labelsL
 by_cases h0 : s = []
 · rw [if_pos h0, h0]; simp
 · rw [if_neg h0, split_mem s 42 (by decide)]
   have hg := (good_all h).2
   unfold labelsL at hg
   rw [if_neg h0] at hg
   constructor
   · rintro ⟨p, hp, h42⟩
     refine ⟨p, hp, ?_⟩
     have := hg p hp
     unfold isLabelL at this
     rw [Bool.or_eq_true, beq_iff_eq, Bool.and_eq_true, List.all_eq_true] at this
     rcases this with e | e
     · exact e
     · exact absurd (e.2 42 h42) (by decide)
   · rintro ⟨p, hp, rfl⟩
     exact ⟨_, hp, List.mem_cons_self⟩
theorem td_rd (l : List ByteArray) (i : Nat) (h : i < l.length) : rdOf ByteArray.empty l (i : Int) = l[i] := by
 unfold rdOf
 rw [Int.toNat_natCast, List.getD_eq_getElem?_getD, List.getElem?_eq_getElem h]
 rfl
theorem target_loop (s : ByteArray) (l : List ByteArray) (hl : l.length < 1099511627776) : ∀ (m i : Nat) (ok : Bool), i + m = l.length →
 Ev (fun k => spec_l3Target.l0 k s ok l (l.length : Int) (i : Int)) (ok && ((l.drop i).all (fun x => decide (x.data.toList ≠ [42])) && decide (s.data.toList ≠ [])))
 | 0, i, ok, him => by
  rw [List.drop_of_length_le (by omega), List.all_nil, Bool.true_and]
  refine Ev.step (f := fun _ => some (ok && decide (s.data.toList ≠ []))) (fun k => ?_) (Ev.now _)
  show spec_l3Target.l0 (k + 1) s ok l (l.length : Int) (i : Int) = _
  conv => lhs; unfold spec_l3Target.l0
  rw [if_neg (by omega), Lib.toList_data]
  cases ok with
  | true =>
   rw [if_pos rfl, Bool.true_and]
   congr 1
   by_cases h : s.data.toList = []
   · rw [h]; simp
   · rw [decide_eq_true h, bne_iff_ne.mpr h]
  | false => rfl
 | m + 1, i, ok, him => by
  have hi : i < l.length := by omega
  have ih := target_loop s l hl m (i + 1) (ok && decide (l[i].data.toList ≠ [42])) (by omega)
  have e : (ok && decide (l[i].data.toList ≠ [42]) && ((l.drop (i + 1)).all (fun x => decide (x.data.toList ≠ [42])) && decide (s.data.toList ≠ []))) = (ok && ((l.drop i).all (fun x => decide (x.data.toList ≠ [42])) && decide (s.data.toList ≠ []))) := by
   rw [List.drop_eq_getElem_cons hi]
   rw [List.all_cons]
   cases ok
   · rfl
   · rw [Bool.true_and, Bool.true_and, Bool.and_assoc]
  rw [e] at ih
  refine Ev.step (fun k => ?_) ih
  show spec_l3Target.l0 (k + 1) s ok l (l.length : Int) (i : Int) = _
  conv => lhs; unfold spec_l3Target.l0
  rw [if_pos (by omega), if_pos (by omega), if_pos (by omega), td_rd l i hi, w64n (by omega), Lib.toList_data]
  cases ok with
  | true =>
   rw [if_pos rfl, Bool.true_and]
   congr 1
   by_cases h : l[i].data.toList = [42]
   · rw [h]; simp
   · rw [decide_eq_true h, bne_iff_ne.mpr h]
  | false => rfl
theorem Ev.unique {α : Type} {g : Nat → Option α} {r r' : α} (h : Ev g r) (h' : Ev g r') : r = r' := by
 obtain ⟨K, h⟩ := h
 obtain ⟨K', h'⟩ := h'
 have h1 := h (max K K') (by omega)
 rw [h' (max K K') (by omega)] at h1
 exact (Option.some.inj h1).symm
theorem labels_short (s : ByteArray) (hs : s.size ≤ 1048576) (r : List ByteArray × Bool) (e : Ev (fun k => spec_l1Labels.f k s) r) : r.1.length < 1099511627776 := by
 by_cases h : s.data.toList = []
 · have h2 : Ev (fun k => spec_l1Labels.f k s) ([], true) := Ev.congr (fun k => by unfold spec_l1Labels.f; rw [if_pos (by rw [Lib.toList_data]; exact h)]) (Ev.now _)
   rw [Ev.unique e h2]
   simp
 · have hlen : ((splitL 46 s.data.toList).map mkB).length ≤ s.size + 1 := by rw [List.length_map, size_len]; exact splitL_len _ _
   have h2 : Ev (fun k => spec_l1Labels.f k s) (labsR s ((splitL 46 s.data.toList).map mkB) 0) := by
    refine Ev.congr (f := fun k => (spec_l1Split.f k s 46).bind fun t => spec_l1Labels.l0 k s t t (t.length : Int) 0) (fun k => ?_) (Ev.bind (split_ev s (by omega)) ?_)
    · show spec_l1Labels.f k s = _
      unfold spec_l1Labels.f
      rw [if_neg (by rw [Lib.toList_data]; exact h)]
    · refine labels_loop s _ ?_ (by omega) _ 0 (Nat.zero_add _)
      intro p hp
      obtain ⟨q, hq, rfl⟩ := List.mem_map.1 hp
      have := splitL_part 46 _ q hq
      rw [mkB_size]
      rw [← size_len] at this
      omega
   rw [Ev.unique e h2]
   unfold labsR
   split
   · split
     · show ((splitL 46 s.data.toList).map mkB).length < _; omega
     · show ((splitL 46 s.data.toList).map mkB).length < _; omega
   · simp
theorem target_spec (s : ByteArray) (hs : s.size ≤ 1048576) : Ev (fun k => spec_l3Target.f k s) (targL s.data.toList) := by
 obtain ⟨r, e1, e2, e3⟩ := labels_ev s (by omega)
 have hlen : r.1.length < 1099511627776 := by
  by_cases h : r.2 = true
  · rw [e3 h, List.length_map]
    have := (good_all (e2.symm.trans h)).1
    omega
  · exact labels_short s hs r e1
 refine Ev.congr (fun k => rfl) (Ev.bind e1 ?_)
 have := target_loop s r.1 hlen r.1.length 0 r.2 (by omega)
 rw [List.drop_zero] at this
 have et : (r.2 && (r.1.all (fun x => decide (x.data.toList ≠ [42])) && decide (s.data.toList ≠ []))) = targL s.data.toList := by
  unfold targL
  rw [e2]
  cases hg : goodL s.data.toList with
  | false => simp
  | true =>
   rw [e3 (e2.trans hg), Bool.true_and, Bool.true_and, Bool.and_comm]
   congr 1
   have h1 := star_label hg
   rw [Bool.eq_iff_iff, List.all_eq_true, Bool.not_eq_true', Bool.eq_false_iff]
   constructor
   · intro h2 h3
     obtain ⟨p, hp, rfl⟩ := h1.1 h3
     exact of_decide_eq_true (h2 (mkB [42]) (List.mem_map.2 ⟨_, hp, rfl⟩)) (mkB_data _)
   · intro h2 x hx
     refine decide_eq_true fun h3 => ?_
     obtain ⟨p, hp, rfl⟩ := List.mem_map.1 hx
     rw [mkB_data] at h3
     exact h2 (h1.2 ⟨p, hp, h3⟩)
 rw [et] at this
 exact this
end Go.Proofs.YtiegkjimpclmaaaGreatDoor.Pure
namespace Go.Proofs.YtiegkjimpclmaaaGreatDoor.Pure
open Go.RowKit Go.Proofs.YtiegkjimpclmaaaGreatDoor.P Go.Proofs.YtiegkjimpclmaaaGreatDoorW.PrintWords Go.Proofs.YtiegkjimpclmaaaGreatDoorW.PrintLast
set_option linter.unusedVariables false
set_option linter.unusedSimpArgs false
theorem cmpP_lt (a b : ByteArray) : cmpP a b = if a.data.toList < b.data.toList then -1 else if b.data.toList < a.data.toList then 1 else 0 := by
 unfold cmpP
 rw [Go.Proofs.bytesLess_eq, Go.Proofs.bytesLess_eq, Lib.toList_data, Lib.toList_data]
 simp only [decide_eq_true_eq]
theorem lst_tri (a b : List UInt8) : a < b ∨ a = b ∨ b < a := by
 by_cases h1 : a < b
 · exact .inl h1
 · by_cases h2 : b < a
   · exact .inr (.inr h2)
   · exact .inr (.inl (List.le_antisymm h2 h1))
theorem cmpP_zero (a b : ByteArray) : cmpP a b = 0 ↔ a = b := by
 rw [cmpP_lt]
 rcases lst_tri a.data.toList b.data.toList with h | h | h
 · rw [if_pos h]
   refine ⟨fun h0 => by omega, fun e => ?_⟩
   rw [e] at h
   exact absurd h (List.lt_irrefl _)
 · have hn : ¬ a.data.toList < b.data.toList := by rw [h]; exact List.lt_irrefl _
   have hn2 : ¬ b.data.toList < a.data.toList := by rw [h]; exact List.lt_irrefl _
   rw [if_neg hn, if_neg hn2]
   exact ⟨fun _ => ext_data h, fun _ => rfl⟩
 · have hn : ¬ a.data.toList < b.data.toList := fun h' => absurd (List.lt_trans h h') (List.lt_irrefl _)
   rw [if_neg hn, if_pos h]
   refine ⟨fun h0 => by omega, fun e => ?_⟩
   rw [e] at h
   exact absurd h (List.lt_irrefl _)
theorem cmpL_zero : ∀ x y : List ByteArray, cmpL x y = 0 ↔ x = y
 | [], [] => ⟨fun _ => rfl, fun _ => rfl⟩
 | [], _ :: _ => ⟨fun h => by simp [cmpL] at h, fun h => by cases h⟩
 | _ :: _, [] => ⟨fun h => by simp [cmpL] at h, fun h => by cases h⟩
 | a :: x, b :: y => by
  unfold cmpL
  by_cases h : cmpP a b = 0
  · rw [if_pos h, cmpL_zero x y, (cmpP_zero a b).1 h]
    exact ⟨fun e => by rw [e], fun e => by injection e⟩
  · rw [if_neg h]
    refine ⟨fun e => absurd e h, fun e => ?_⟩
    injection e with e1 e2
    exact absurd ((cmpP_zero a b).2 e1) h
def unO : List (List UInt8) → List UInt8
 | [] => []
 | [p] => p
 | p :: q :: r => p ++ 46 :: unO (q :: r)
theorem unO_split : ∀ s : List UInt8, unO (splitL 46 s) = s
 | [] => rfl
 | x :: xs => by
  have ih := unO_split xs
  obtain ⟨p, ps, hp⟩ := List.exists_cons_of_ne_nil (splitL_ne 46 xs)
  unfold splitL
  rw [hp] at ih ⊢
  by_cases h : x = 46
  · rw [if_pos h]
    show [] ++ 46 :: unO (p :: ps) = _
    rw [ih, h]
    rfl
  · rw [if_neg h]
    cases ps with
    | nil => show x :: p = _; rw [show p = xs from ih]
    | cons q r =>
     show (x :: p) ++ 46 :: unO (q :: r) = _
     have ih2 : p ++ 46 :: unO (q :: r) = xs := ih
     rw [List.cons_append, ih2]
theorem labels_inj {a b : List UInt8} (h : labelsL a = labelsL b) : a = b := by
 unfold labelsL at h
 by_cases ha : a = []
 · rw [if_pos ha] at h
   by_cases hb : b = []
   · rw [ha, hb]
   · rw [if_neg hb] at h
     exact absurd h.symm (splitL_ne 46 b)
 · rw [if_neg ha] at h
   by_cases hb : b = []
   · rw [if_pos hb] at h
     exact absurd h (splitL_ne 46 a)
   · rw [if_neg hb] at h
     rw [← unO_split a, ← unO_split b, h]
theorem ord_zero (a b : List UInt8) : ordL a b = 0 ↔ a = b := by
 unfold ordL
 rw [cmpL_zero]
 refine ⟨fun h => ?_, fun h => by rw [h]⟩
 have h1 := List.reverse_inj.1 h
 refine labels_inj ?_
 have h2 := congrArg (List.map fun x : ByteArray => x.data.toList) h1
 rw [List.map_map, List.map_map] at h2
 have : ((fun x : ByteArray => x.data.toList) ∘ mkB) = id := by funext z; exact mkB_data z
 rwa [this, List.map_id, List.map_id] at h2
def leN (x y : List UInt8) : Bool := !decide (ordL y x < 0)
def sortL (l : List (List UInt8)) : List (List UInt8) := Lib.compact (l.mergeSort leN)
def sortR (l : List ByteArray) : List ByteArray × Bool :=
 if decide (l.length ≤ 60) && l.all (fun x => goodL x.data.toList) then ((sortL (l.map (·.data.toList))).map mkB, true) else ([], false)
end Go.Proofs.YtiegkjimpclmaaaGreatDoor.Pure
namespace Go.Proofs.YtiegkjimpclmaaaGreatDoor.P
open Go.RowKit Go.Proofs.YtiegkjimpclmaaaGreatDoorW.PrintWords Go.Proofs.YtiegkjimpclmaaaGreatDoorW.PrintLast Go.Proofs.YtiegkjimpclmaaaGreatDoorW.PrintMore
attribute [local go_sem] max2_int min2_int max_two min_two max_three min_three max_four min_four
set_option linter.unusedVariables false
set_option linter.unusedSimpArgs false
mutual
def impl_areRising.l0 : Nat → List (S45) → List (S45) → Int → Int → Option (Bool)
 | 0, _, _, _, _ => none
 | k + 1, x0, x5, x6, x7 => if x7 < x6 then (if 0 ≤ x7 then (if x7 < (x5.length : Int) then ((impl_GoodRecord.f k ((rd_T45 x5 x7).f0) ((rd_T45 x5 x7).f1) ((rd_T45 x5 x7).f2) ((rd_T45 x5 x7).f3)).bind fun t417 => (if t417 = true then (if x7 > 0 then (if 0 ≤ (wrap64 (x7 - 1)) then (if (wrap64 (x7 - 1)) < (x0.length : Int) then ((impl_compareRecords.f k ((rd_T45 x0 (wrap64 (x7 - 1))).f0) ((rd_T45 x0 (wrap64 (x7 - 1))).f1) ((rd_T45 x0 (wrap64 (x7 - 1))).f2) ((rd_T45 x0 (wrap64 (x7 - 1))).f3) ((rd_T45 x5 x7).f0) ((rd_T45 x5 x7).f1) ((rd_T45 x5 x7).f2) ((rd_T45 x5 x7).f3)).bind fun t419 => (impl_areRising.j1 k x0 x5 x6 x7 (decide (t419 ≥ 0)))) else (none)) else (none)) else (impl_areRising.j1 k x0 x5 x6 x7 false)) else (impl_areRising.j1 k x0 x5 x6 x7 true))) else (none)) else (none)) else (some true)
def impl_areRising.j1 : Nat → List (S45) → List (S45) → Int → Int → Bool → Option (Bool)
 | 0, _, _, _, _, _ => none
 | k + 1, x0, x5, x6, x7, x28 => if x28 = true then (some false) else (impl_areRising.l0 k x0 x5 x6 (wrap64 (x7 + 1)))
end
def impl_areRising.f (k : Nat) (l0 : List (S45)) : Option (Bool) := impl_areRising.l0 k l0 l0 (l0.length : Int) 0
def impl_areRising.T4 : Bool × List (List Nat × List Nat) := (true, [([], []), ([0], [0]), ([1], [1]), ([2, 1], [2]), ([3], [3]), ([4, 3], [3, 4]), ([5, 3, 3], [3, 5]), ([6], [6]), ([6], [6]), ([8, 6], [6, 8]), ([7, 9, 6], [6, 7, 9]), ([10, 6], [6, 10]), ([6], [6]), ([11, 12, 6, 6], [6, 11, 12]), ([13, 6], [6, 13]), ([6, 14, 3], [3, 6, 14]), ([3, 15], [3, 15])])
def impl_areRising.B4 : List Nat := [0, 1, 3, 7, 15, 31, 63, 127, 127, 383, 1023, 2047, 127, 8191, 16383, 32767, 65535]
theorem impl_areRising.tab4 : rtab .any (opsOf Tryz.f66 4) = impl_areRising.T4 := by kernel_rfl
theorem impl_areRising.bits4 : waitsOk impl_areRising.T4.2 impl_areRising.B4 = true := by kernel_rfl
set_option maxHeartbeats 8000000 in
set_option maxRecDepth 100000 in
theorem impl_areRising.calls (k : Nat) (A0 : Option Addr) (c0 : Nat) (l0 : List (S45)) (r : Bool) (w : World) (hr0 : Kd.C k45 w A0 l0.length l0) (hc0 : l0.length ≤ c0) (h : impl_areRising.f k l0 = some r) (hv_ : Vars w := by exact vv_) :
 Calls Tryz.prog 66 #[.slice A0 l0.length c0] w fun e w' => e = .returned (.bool r) ∧ Below w.heap.size w w' := by
 have HV_ := a0_ hv_
 clear hv_
 have hu45 := Tryz.underlying45
 have HR0 := a0_ hr0
 have HC0 := a0_ hc0
 clear hr0 hc0
 have HB := a0_ (Below.refl w.heap.size w)
 have H := h
 clear h
 unfold impl_areRising.f at H
 have H' := a0_ H
 clear H
 go_enter Tryz.func66, Tryz.ntmps66
 go_wp2
 go_loopg [7] k (fun kq v7 w' => ∃ (x7_1 : Int), v7 = .int .i64 x7_1 ∧ Aside0 (impl_areRising.l0 kq l0 l0 (l0.length : Int) x7_1 = some r) ∧ Aside0 (kq ≤ k) ∧ Aside0 (Below w.heap.size w w'))
 case atStart => exact ⟨(0), rs_, H', ⟨Nat.le_refl _⟩, ⟨bq0_⟩⟩
 case round =>
  clear H'
  obtain ⟨x7_1, rfl, HA, HK1, HB⟩ := hrel
  cases gk with
  | zero => exact absurd HA.out (by simp [impl_areRising.l0])
  | succ k1 =>
   have H := HA.out
   clear HA
   simp only [impl_areRising.l0] at H
   by_cases c2 : x7_1 < (l0.length : Int)
   case neg =>
    rw [if_neg c2] at H
    have c2b0 := decide_eq_false c2
    clear c2
    obtain rfl := Option.some.inj H
    go_wp2
    go_ret
    exact ⟨rr_, bq0_⟩
   rw [if_pos c2] at H
   have c2b0 := decide_eq_true c2
   clear c2
   by_cases c3 : 0 ≤ x7_1
   case neg =>
    rw [if_neg c3] at H
    exact absurd H (by simp)
   rw [if_pos c3] at H
   have c3b0 := decide_eq_true c3
   clear c3
   by_cases c4 : x7_1 < (l0.length : Int)
   case neg =>
    rw [if_neg c4] at H
    exact absurd H (by simp)
   rw [if_pos c4] at H
   have c4b0 := decide_eq_true c4
   clear c4
   have HC5 := a0_ H
   clear H
   have p415 : 0 ≤ (x7_1 : Int) := dec_
   have q415 : x7_1 < (l0.length : Int) := dec_
   obtain ⟨ad415, e415, hx415_0, hx415_1, hx415_2, hx415_3⟩ := at_T45 HR0.out x7_1 p415 q415
   cases e415
   obtain ⟨hx415_0, hx415_1, hx415_2, hx415_3⟩ := up4_ HB.out hx415_0 hx415_1 hx415_2 hx415_3
   replace p415 := eq_true p415
   replace q415 := eq_true q415
   go_upto_region 4 with (first | ((with_reducible refine gate_dst (N := 4) rfl ?_); refine boxS_ 4 #[.string (⟨#[]⟩ : ByteArray), .int .i64 0, .int .i64 0, .string (⟨#[]⟩ : ByteArray)] 45 (fun gb416 hg w6 hbox hb => ?_); have n0_ := a0_ (below_step bq0_ hb); have n1_ := a0_ (hbox); have n2_ := a0_ (gw_ hg : w.heap.size ≤ gb416); have n3_ := n2_; clear HB; have HB := n0_; have BK416 := n1_; have GW416 := n2_; have GE416 := n3_; clear n0_ n1_ n2_ n3_; clear hb hbox hg; obtain ⟨z7_0, z7_1, z7_2, z7_3, q7_0, q7_1, q7_2, q7_3⟩ := bk4_ BK416.out))
   (try simp only [Act.put, List.setIfInBounds_toArray, List.set_cons_zero, List.set_cons_succ])
   go_cut [28] (fun v28 wc => ∃ (kq : Nat) (x28_4 : Bool), v28 = .bool x28_4 ∧ Aside0 (impl_areRising.j1 kq l0 l0 (l0.length : Int) x7_1 x28_4 = some r) ∧ Aside0 (kq ≤ k1) ∧ Aside0 (wc.heap[gb416]? = some (.cells #[.string ((rd_T45 l0 x7_1).f0), .int .i64 ((rd_T45 l0 x7_1).f1), .int .i64 ((rd_T45 l0 x7_1).f2), .string ((rd_T45 l0 x7_1).f3)] 45 (0, 0))) ∧ Aside0 (Below w.heap.size w wc))
   case first =>
    have H := HC5.out
    clear HC5
    obtain ⟨t417, A80, H⟩ := Option.bind_eq_some_iff.mp H
    have A8 := a0_ A80
    clear A80
    by_cases c9 : t417 = true
    case neg =>
     replace c9 := Bool.eq_false_iff.mpr c9
     subst c9
     rw [if_neg (show ¬ (false = true) by decide)] at H
     have H' := a0_ H
     clear H
     try go_wp2
     have n0_ : Aside0 (((((w6.setCell ⟨gb416, 0, none⟩ (.string ((rd_T45 l0 x7_1).f0))).setCell ⟨gb416, 1, none⟩ (.int .i64 ((rd_T45 l0 x7_1).f1))).setCell ⟨gb416, 2, none⟩ (.int .i64 ((rd_T45 l0 x7_1).f2))).setCell ⟨gb416, 3, none⟩ (.string ((rd_T45 l0 x7_1).f3))).heap[gb416]? = some (.cells #[.string ((rd_T45 l0 x7_1).f0), .int .i64 ((rd_T45 l0 x7_1).f1), .int .i64 ((rd_T45 l0 x7_1).f2), .string ((rd_T45 l0 x7_1).f3)] 45 (0, 0))) := ⟨put4_ BK416.out⟩
     have n1_ : Aside0 (Below w.heap.size w ((((w6.setCell ⟨gb416, 0, none⟩ (.string ((rd_T45 l0 x7_1).f0))).setCell ⟨gb416, 1, none⟩ (.int .i64 ((rd_T45 l0 x7_1).f1))).setCell ⟨gb416, 2, none⟩ (.int .i64 ((rd_T45 l0 x7_1).f2))).setCell ⟨gb416, 3, none⟩ (.string ((rd_T45 l0 x7_1).f3)))) := ⟨bq1_⟩
     (try clear BK416)
     (try clear HB)
     generalize ((((w6.setCell ⟨gb416, 0, none⟩ (.string ((rd_T45 l0 x7_1).f0))).setCell ⟨gb416, 1, none⟩ (.int .i64 ((rd_T45 l0 x7_1).f1))).setCell ⟨gb416, 2, none⟩ (.int .i64 ((rd_T45 l0 x7_1).f2))).setCell ⟨gb416, 3, none⟩ (.string ((rd_T45 l0 x7_1).f3))) = w22 at n0_ n1_ ⊢
     have BK416 := n0_
     have HB := n1_
     clear n0_ n1_
     replace BK416 := a0_ (blk_drew BK416.out)
     replace HB := a0_ (below_drew1 HB.out)
     refine start_ (n := 17) (S := fun w' => w'.cell? ⟨gb416, 0, none⟩ = some (.string ((rd_T45 l0 x7_1).f0)) ∧ w'.cell? ⟨gb416, 1, none⟩ = some (.int .i64 ((rd_T45 l0 x7_1).f1)) ∧ w'.cell? ⟨gb416, 2, none⟩ = some (.int .i64 ((rd_T45 l0 x7_1).f2)) ∧ w'.cell? ⟨gb416, 3, none⟩ = some (.string ((rd_T45 l0 x7_1).f3))) (ds := []) #[false, false, false, false, false, false, false, false, false, false, false, false, false, false, false, false, false] (by kernel_rfl) rfl rfl ⟨(blk_cell BK416.out 0).trans rfl, (blk_cell BK416.out 1).trans rfl, (blk_cell BK416.out 2).trans rfl, (blk_cell BK416.out 3).trans rfl⟩ (fun hHeld => ?_); refine with_tabW impl_areRising.tab4 impl_areRising.bits4 (fun HT_ HW_ => ?_)
     generalize w22.drew = w23 at BK416 HB hHeld ⊢
     refine takeS_ 0 (some 12) ?_
     refine oneS_ 1 (some 13) (fun K hK => ?_)
     refine goes_ Tryz.func29 (by kernel_rfl) rfl #[.agg #[.string ((rd_T45 l0 x7_1).f0), .int .i64 ((rd_T45 l0 x7_1).f1), .int .i64 ((rd_T45 l0 x7_1).f2), .string ((rd_T45 l0 x7_1).f3)]] (by rfl) rfl rfl argsS_ ?_
     with_reducible refine (impl_GoodRecord.calls k1 ((rd_T45 l0 x7_1).f0) ((rd_T45 l0 x7_1).f1) ((rd_T45 l0 x7_1).f2) ((rd_T45 l0 x7_1).f3) false _ A8.out).mono ?_
     rintro e w24 ⟨rfl, hb⟩
     refine ⟨_, rfl, ?_⟩
     replace BK416 := a0_ (bkB_ BK416 hb)
     replace HB := a0_ (below_step bq1_ hb)
     (try clear hb)
     (try clear hb2)
     (try clear hk)
     (try clear hi)
     refine hK.out _ _ ⟨(blk_cell BK416.out 0).trans rfl, (blk_cell BK416.out 1).trans rfl, (blk_cell BK416.out 2).trans rfl, (blk_cell BK416.out 3).trans rfl⟩ (fun hHeld => ?_)
     clear hK K
     refine normS_ ?_
     refine pureS_ 2 (some 14) ?_
     refine pureS_ 3 (some 15) ?_
     refine skipS_ 4 (some 16) ?_
     refine skipS_ 5 (some 17) ?_
     refine skipS_ 6 (some 18) ?_
     refine skipS_ 7 (some 19) ?_
     refine skipS_ 8 (some 20) ?_
     refine skipS_ 9 (some 21) ?_
     refine skipS_ 10 (some 22) ?_
     refine skipS_ 11 (some 23) ?_
     refine skipS_ 12 (some 24) ?_
     refine skipS_ 13 (some 25) ?_
     refine skipS_ 14 (some 26) ?_
     refine skipS_ 15 (some 27) ?_
     refine pureS_ 16 (some 28) ?_
     refine done_ (done_of HT_.out (by kernel_rfl)) ?_
     try go_wp2
     go_meet
     case rel => exact ⟨_, (true), rs_, H', ⟨by have := HK1.out; first | omega | exact Nat.le_refl _⟩, ⟨bz_⟩, ⟨bq1_⟩⟩
    subst c9
    rw [if_pos rfl] at H
    by_cases c10 : x7_1 > 0
    case neg =>
     rw [if_neg c10] at H
     have c10b0 := decide_eq_false c10
     clear c10
     (first | rw [c10b0] | (simp only [i64_w, i32_w]; rw [c10b0]) | skip)
     have H' := a0_ H
     clear H
     try go_wp2
     have n0_ : Aside0 (((((w6.setCell ⟨gb416, 0, none⟩ (.string ((rd_T45 l0 x7_1).f0))).setCell ⟨gb416, 1, none⟩ (.int .i64 ((rd_T45 l0 x7_1).f1))).setCell ⟨gb416, 2, none⟩ (.int .i64 ((rd_T45 l0 x7_1).f2))).setCell ⟨gb416, 3, none⟩ (.string ((rd_T45 l0 x7_1).f3))).heap[gb416]? = some (.cells #[.string ((rd_T45 l0 x7_1).f0), .int .i64 ((rd_T45 l0 x7_1).f1), .int .i64 ((rd_T45 l0 x7_1).f2), .string ((rd_T45 l0 x7_1).f3)] 45 (0, 0))) := ⟨put4_ BK416.out⟩
     have n1_ : Aside0 (Below w.heap.size w ((((w6.setCell ⟨gb416, 0, none⟩ (.string ((rd_T45 l0 x7_1).f0))).setCell ⟨gb416, 1, none⟩ (.int .i64 ((rd_T45 l0 x7_1).f1))).setCell ⟨gb416, 2, none⟩ (.int .i64 ((rd_T45 l0 x7_1).f2))).setCell ⟨gb416, 3, none⟩ (.string ((rd_T45 l0 x7_1).f3)))) := ⟨bq1_⟩
     (try clear BK416)
     (try clear HB)
     generalize ((((w6.setCell ⟨gb416, 0, none⟩ (.string ((rd_T45 l0 x7_1).f0))).setCell ⟨gb416, 1, none⟩ (.int .i64 ((rd_T45 l0 x7_1).f1))).setCell ⟨gb416, 2, none⟩ (.int .i64 ((rd_T45 l0 x7_1).f2))).setCell ⟨gb416, 3, none⟩ (.string ((rd_T45 l0 x7_1).f3))) = w19 at n0_ n1_ ⊢
     have BK416 := n0_
     have HB := n1_
     clear n0_ n1_
     replace BK416 := a0_ (blk_drew BK416.out)
     replace HB := a0_ (below_drew1 HB.out)
     refine start_ (n := 17) (S := fun w' => w'.cell? ⟨gb416, 0, none⟩ = some (.string ((rd_T45 l0 x7_1).f0)) ∧ w'.cell? ⟨gb416, 1, none⟩ = some (.int .i64 ((rd_T45 l0 x7_1).f1)) ∧ w'.cell? ⟨gb416, 2, none⟩ = some (.int .i64 ((rd_T45 l0 x7_1).f2)) ∧ w'.cell? ⟨gb416, 3, none⟩ = some (.string ((rd_T45 l0 x7_1).f3))) (ds := []) #[false, false, false, false, false, false, false, false, false, false, false, false, false, false, false, false, false] (by kernel_rfl) rfl rfl ⟨(blk_cell BK416.out 0).trans rfl, (blk_cell BK416.out 1).trans rfl, (blk_cell BK416.out 2).trans rfl, (blk_cell BK416.out 3).trans rfl⟩ (fun hHeld => ?_); refine with_tabW impl_areRising.tab4 impl_areRising.bits4 (fun HT_ HW_ => ?_)
     generalize w19.drew = w20 at BK416 HB hHeld ⊢
     refine takeS_ 0 (some 12) ?_
     refine oneS_ 1 (some 13) (fun K hK => ?_)
     refine goes_ Tryz.func29 (by kernel_rfl) rfl #[.agg #[.string ((rd_T45 l0 x7_1).f0), .int .i64 ((rd_T45 l0 x7_1).f1), .int .i64 ((rd_T45 l0 x7_1).f2), .string ((rd_T45 l0 x7_1).f3)]] (by rfl) rfl rfl argsS_ ?_
     with_reducible refine (impl_GoodRecord.calls k1 ((rd_T45 l0 x7_1).f0) ((rd_T45 l0 x7_1).f1) ((rd_T45 l0 x7_1).f2) ((rd_T45 l0 x7_1).f3) true _ A8.out).mono ?_
     rintro e w21 ⟨rfl, hb⟩
     refine ⟨_, rfl, ?_⟩
     replace BK416 := a0_ (bkB_ BK416 hb)
     replace HB := a0_ (below_step bq1_ hb)
     (try clear hb)
     (try clear hb2)
     (try clear hk)
     (try clear hi)
     refine hK.out _ _ ⟨(blk_cell BK416.out 0).trans rfl, (blk_cell BK416.out 1).trans rfl, (blk_cell BK416.out 2).trans rfl, (blk_cell BK416.out 3).trans rfl⟩ (fun hHeld => ?_)
     clear hK K
     refine normS_ ?_
     refine pureS_ 2 (some 14) ?_
     refine pureS_ 3 (some 15) ?_
     refine pureS_ 4 (some 16) ?_
     refine pureS_ 5 (some 17) ?_
     refine pureS_ 6 (some 18) ?_
     refine skipS_ 7 (some 19) ?_
     refine skipS_ 8 (some 20) ?_
     refine skipS_ 9 (some 21) ?_
     refine skipS_ 10 (some 22) ?_
     refine skipS_ 11 (some 23) ?_
     refine skipS_ 12 (some 24) ?_
     refine skipS_ 13 (some 25) ?_
     refine skipS_ 14 (some 26) ?_
     refine pureS_ 15 (some 27) ?_
     refine pureS_ 16 (some 28) ?_
     refine done_ (done_of HT_.out (by kernel_rfl)) ?_
     try go_wp2
     go_meet
     case rel => exact ⟨_, (false), rs_, H', ⟨by have := HK1.out; first | omega | exact Nat.le_refl _⟩, ⟨bz_⟩, ⟨bq1_⟩⟩
    rw [if_pos c10] at H
    have c10b0 := decide_eq_true c10
    clear c10
    (first | rw [c10b0] | (simp only [i64_w, i32_w]; rw [c10b0]) | skip)
    obtain ⟨ji11, hji11⟩ : ∃ j_ : Int, (wrap64 (x7_1 - 1)) = j_ := ⟨_, rfl⟩
    (first | rw [hji11] at H | simp only [hji11] at H)
    (try rw [hji11] at A8)
    have hji11w : (IntKind.i64.wrap (x7_1 - 1)) = ji11 := (i64_w _).trans hji11
    by_cases c12 : 0 ≤ (ji11)
    case neg =>
     rw [if_neg c12] at H
     exact absurd H (by simp)
    rw [if_pos c12] at H
    have c12b0 := decide_eq_true c12
    clear c12
    by_cases c13 : (ji11) < (l0.length : Int)
    case neg =>
     rw [if_neg c13] at H
     exact absurd H (by simp)
    rw [if_pos c13] at H
    have c13b0 := decide_eq_true c13
    clear c13
    obtain ⟨t419, A140, H⟩ := Option.bind_eq_some_iff.mp H
    have A14 := a0_ A140
    clear A140
    have H' := a0_ H
    clear H
    try go_wp2
    have n0_ : Aside0 (((((w6.setCell ⟨gb416, 0, none⟩ (.string ((rd_T45 l0 x7_1).f0))).setCell ⟨gb416, 1, none⟩ (.int .i64 ((rd_T45 l0 x7_1).f1))).setCell ⟨gb416, 2, none⟩ (.int .i64 ((rd_T45 l0 x7_1).f2))).setCell ⟨gb416, 3, none⟩ (.string ((rd_T45 l0 x7_1).f3))).heap[gb416]? = some (.cells #[.string ((rd_T45 l0 x7_1).f0), .int .i64 ((rd_T45 l0 x7_1).f1), .int .i64 ((rd_T45 l0 x7_1).f2), .string ((rd_T45 l0 x7_1).f3)] 45 (0, 0))) := ⟨put4_ BK416.out⟩
    have n1_ : Aside0 (Below w.heap.size w ((((w6.setCell ⟨gb416, 0, none⟩ (.string ((rd_T45 l0 x7_1).f0))).setCell ⟨gb416, 1, none⟩ (.int .i64 ((rd_T45 l0 x7_1).f1))).setCell ⟨gb416, 2, none⟩ (.int .i64 ((rd_T45 l0 x7_1).f2))).setCell ⟨gb416, 3, none⟩ (.string ((rd_T45 l0 x7_1).f3)))) := ⟨bq1_⟩
    (try clear BK416)
    (try clear HB)
    generalize ((((w6.setCell ⟨gb416, 0, none⟩ (.string ((rd_T45 l0 x7_1).f0))).setCell ⟨gb416, 1, none⟩ (.int .i64 ((rd_T45 l0 x7_1).f1))).setCell ⟨gb416, 2, none⟩ (.int .i64 ((rd_T45 l0 x7_1).f2))).setCell ⟨gb416, 3, none⟩ (.string ((rd_T45 l0 x7_1).f3))) = w15 at n0_ n1_ ⊢
    have BK416 := n0_
    have HB := n1_
    clear n0_ n1_
    replace BK416 := a0_ (blk_drew BK416.out)
    replace HB := a0_ (below_drew1 HB.out)
    have p418 : 0 ≤ ((ji11) : Int) := dec_
    have q418 : (ji11) < (l0.length : Int) := dec_
    obtain ⟨ad418, e418, hx418_0, hx418_1, hx418_2, hx418_3⟩ := at_T45 HR0.out (ji11) p418 q418
    have hw418_3 := hx418_3
    have hw418_2 := hx418_2
    have hw418_1 := hx418_1
    have hw418_0 := hx418_0
    obtain rfl : ad415 = ad418 := (by injection e418)
    obtain ⟨hx418_0, hx418_1, hx418_2, hx418_3⟩ := up4_ HB.out hx418_0 hx418_1 hx418_2 hx418_3
    replace p418 := eq_true p418
    replace q418 := eq_true q418
    refine start_ (n := 17) (S := fun w' => w'.cell? ⟨gb416, 0, none⟩ = some (.string ((rd_T45 l0 x7_1).f0)) ∧ w'.cell? ⟨gb416, 1, none⟩ = some (.int .i64 ((rd_T45 l0 x7_1).f1)) ∧ w'.cell? ⟨gb416, 2, none⟩ = some (.int .i64 ((rd_T45 l0 x7_1).f2)) ∧ w'.cell? ⟨gb416, 3, none⟩ = some (.string ((rd_T45 l0 x7_1).f3)) ∧ w'.cell? (ad415.add (((ji11)).toNat * 4)) = some (.string ((rd_T45 l0 (ji11)).f0)) ∧ w'.cell? ⟨(ad415.add (((ji11)).toNat * 4)).block, (ad415.add (((ji11)).toNat * 4)).off + 1, none⟩ = some (.int .i64 ((rd_T45 l0 (ji11)).f1)) ∧ w'.cell? ⟨(ad415.add (((ji11)).toNat * 4)).block, (ad415.add (((ji11)).toNat * 4)).off + 2, none⟩ = some (.int .i64 ((rd_T45 l0 (ji11)).f2)) ∧ w'.cell? ⟨(ad415.add (((ji11)).toNat * 4)).block, (ad415.add (((ji11)).toNat * 4)).off + 3, none⟩ = some (.string ((rd_T45 l0 (ji11)).f3))) (ds := []) #[false, false, false, false, false, false, false, false, false, false, false, false, false, false, false, false, false] (by kernel_rfl) rfl rfl ⟨(blk_cell BK416.out 0).trans rfl, (blk_cell BK416.out 1).trans rfl, (blk_cell BK416.out 2).trans rfl, (blk_cell BK416.out 3).trans rfl, ((HB.out.cell (World.block_lt_of_cell? w _ hw418_0)).trans hw418_0), ((HB.out.cell (World.block_lt_of_cell? w _ hw418_1)).trans hw418_1), ((HB.out.cell (World.block_lt_of_cell? w _ hw418_2)).trans hw418_2), ((HB.out.cell (World.block_lt_of_cell? w _ hw418_3)).trans hw418_3)⟩ (fun hHeld => ?_); refine with_tabW impl_areRising.tab4 impl_areRising.bits4 (fun HT_ HW_ => ?_)
    generalize w15.drew = w16 at BK416 HB hx418_0 hx418_1 hx418_2 hx418_3 hHeld ⊢
    refine takeS_ 0 (some 12) ?_
    refine oneS_ 1 (some 13) (fun K hK => ?_)
    refine goes_ Tryz.func29 (by kernel_rfl) rfl #[.agg #[.string ((rd_T45 l0 x7_1).f0), .int .i64 ((rd_T45 l0 x7_1).f1), .int .i64 ((rd_T45 l0 x7_1).f2), .string ((rd_T45 l0 x7_1).f3)]] (by rfl) rfl rfl argsS_ ?_
    with_reducible refine (impl_GoodRecord.calls k1 ((rd_T45 l0 x7_1).f0) ((rd_T45 l0 x7_1).f1) ((rd_T45 l0 x7_1).f2) ((rd_T45 l0 x7_1).f3) true _ A8.out).mono ?_
    rintro e w17 ⟨rfl, hb⟩
    refine ⟨_, rfl, ?_⟩
    replace BK416 := a0_ (bkB_ BK416 hb)
    replace HB := a0_ (below_step bq1_ hb)
    (try clear hb)
    (try clear hb2)
    (try clear hk)
    (try clear hi)
    refine hK.out _ _ ⟨(blk_cell BK416.out 0).trans rfl, (blk_cell BK416.out 1).trans rfl, (blk_cell BK416.out 2).trans rfl, (blk_cell BK416.out 3).trans rfl, ((HB.out.cell (World.block_lt_of_cell? w _ hw418_0)).trans hw418_0), ((HB.out.cell (World.block_lt_of_cell? w _ hw418_1)).trans hw418_1), ((HB.out.cell (World.block_lt_of_cell? w _ hw418_2)).trans hw418_2), ((HB.out.cell (World.block_lt_of_cell? w _ hw418_3)).trans hw418_3)⟩ (fun hHeld => ?_)
    clear hK K
    refine normS_ ?_
    refine pureS_ 2 (some 14) ?_
    refine pureS_ 3 (some 15) ?_
    refine pureS_ 4 (some 16) ?_
    refine pureS_ 5 (some 17) ?_
    refine pureS_ 6 (some 18) ?_
    refine pureS_ 7 (some 19) ?_
    refine pureS_ 8 (some 20) ?_
    refine pureS_ 9 (some 21) ?_
    refine pureS_ 10 (some 22) ?_
    refine takeS_ 11 (some 23) ?_
    refine takeS_ 12 (some 24) ?_
    refine oneS_ 13 (some 25) (fun K hK => ?_)
    refine goes_ Tryz.func77 (by kernel_rfl) rfl #[.agg #[.string ((rd_T45 l0 (ji11)).f0), .int .i64 ((rd_T45 l0 (ji11)).f1), .int .i64 ((rd_T45 l0 (ji11)).f2), .string ((rd_T45 l0 (ji11)).f3)], .agg #[.string ((rd_T45 l0 x7_1).f0), .int .i64 ((rd_T45 l0 x7_1).f1), .int .i64 ((rd_T45 l0 x7_1).f2), .string ((rd_T45 l0 x7_1).f3)]] (by rfl) rfl rfl (by (try simp only [List.map_toArray, List.map_cons, List.map_nil]); first | done | (simp only [hji11]; rfl) | rfl | (simp only [List.length_drop, List.length_take]; rfl)) ?_
    with_reducible refine (impl_compareRecords.calls k1 ((rd_T45 l0 (ji11)).f0) ((rd_T45 l0 (ji11)).f1) ((rd_T45 l0 (ji11)).f2) ((rd_T45 l0 (ji11)).f3) ((rd_T45 l0 x7_1).f0) ((rd_T45 l0 x7_1).f1) ((rd_T45 l0 x7_1).f2) ((rd_T45 l0 x7_1).f3) t419 _ A14.out).mono ?_
    rintro e w18 ⟨rfl, hb⟩
    refine ⟨_, rfl, ?_⟩
    replace BK416 := a0_ (bkB_ BK416 hb)
    replace HB := a0_ (below_step bq1_ hb)
    (try clear hb)
    (try clear hb2)
    (try clear hk)
    (try clear hi)
    refine hK.out _ _ ⟨(blk_cell BK416.out 0).trans rfl, (blk_cell BK416.out 1).trans rfl, (blk_cell BK416.out 2).trans rfl, (blk_cell BK416.out 3).trans rfl, ((HB.out.cell (World.block_lt_of_cell? w _ hw418_0)).trans hw418_0), ((HB.out.cell (World.block_lt_of_cell? w _ hw418_1)).trans hw418_1), ((HB.out.cell (World.block_lt_of_cell? w _ hw418_2)).trans hw418_2), ((HB.out.cell (World.block_lt_of_cell? w _ hw418_3)).trans hw418_3)⟩ (fun hHeld => ?_)
    clear hK K
    refine normS_ ?_
    refine pureS_ 14 (some 26) ?_
    refine pureS_ 15 (some 27) ?_
    refine pureS_ 16 (some 28) ?_
    refine done_ (done_of HT_.out (by kernel_rfl)) ?_
    try go_wp2
    go_meet
    case rel => exact ⟨_, (decide (t419 ≥ 0)), rs_, H', ⟨by have := HK1.out; first | omega | exact Nat.le_refl _⟩, ⟨bz_⟩, ⟨bq1_⟩⟩
   case rest =>
    clear HC5
    try clear c2
    try clear c2b0
    try clear c3
    try clear c3b0
    try clear c4
    try clear c4b0
    try clear z7_0 z7_1 z7_2 z7_3 q7_0 q7_1 q7_2 q7_3
    try clear hx415_0
    try clear hx415_1
    try clear hx415_2
    try clear hx415_3
    try clear p415
    try clear q415
    obtain ⟨kq, x28_4, rfl, HA, HJ4, BK416, HB⟩ := hcut
    cases kq with
    | zero => exact absurd HA.out (by simp [impl_areRising.j1])
    | succ kj4 =>
     have H := HA.out
     clear HA
     simp only [impl_areRising.j1] at H
     by_cases c25 : x28_4 = true
     case pos =>
      subst c25
      rw [if_pos rfl] at H
      obtain rfl := Option.some.inj H
      go_wp2
      go_ret
      exact ⟨rr_, bq1_⟩
     replace c25 := Bool.eq_false_iff.mpr c25
     subst c25
     rw [if_neg (show ¬ (false = true) by decide)] at H
     have H' := a0_ H
     clear H
     go_wp2
     go_roundg kj4
     case measure => have := HK1.out; have := HJ4.out; omega
     case rel => exact ⟨(wrap64 (x7_1 + 1)), rs_, H', ⟨by have := HK1.out; have := HJ4.out; omega⟩, ⟨bq1_⟩⟩
end Go.Proofs.YtiegkjimpclmaaaGreatDoor.P
