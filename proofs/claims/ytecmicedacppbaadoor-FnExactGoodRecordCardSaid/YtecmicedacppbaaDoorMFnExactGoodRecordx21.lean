/- FnExactGoodRecord: part 22 of 27 of my texts for this claim, joined; the theorem stands in the last. Conditions: none beyond the statement's. -/
import Derived.Test.YtecmicedacppbaaDoorMFnExactGoodRecordx9
import Derived.Test.YtecmicedacppbaaDoorMFnExactGoodRecordx16
-- PureGood
/- What the reference says of a name: spec.l1Labels returns the labels and goodL, for every text that is not too long. Conditions: the text's size. -/
namespace Go.Proofs.YtecmicedacppbaaDoor.Pure
open Go.RowKit Go.Proofs.YtecmicedacppbaaDoor.P Go.Proofs.YtecmicedacppbaaDoorW.PrintWords Go.Proofs.YtecmicedacppbaaDoorW.PrintLast
set_option linter.unusedVariables false
set_option linter.unusedSimpArgs false

theorem w64n {n : Nat} (h : n < 4611686018427387904) : wrap64 ((n : Int) + 1) = ((n + 1 : Nat) : Int) := by unfold wrap64; omega
theorem bt_list (s : ByteArray) (i : Nat) (h : i < s.data.toList.length) : bt s (i : Int) = ((s.data.toList[i]'h).toNat : Int) := by
  unfold bt
  have h2 : (i : Int).toNat < s.size := by rw [size_len]; omega
  rw [dif_pos h2]
  rfl
theorem ext_mkB (s : ByteArray) (a b : Nat) : s.extract a b = mkB ((s.data.toList.drop a).take (b - a)) := by
  apply ext_data
  rw [mkB_data]
  simp [ByteArray.data_extract]
theorem ext_end (s : ByteArray) (a : Nat) : s.extract a s.size = mkB (s.data.toList.drop a) := by
  rw [ext_mkB, List.take_of_length_le (by rw [List.length_drop, size_len]; omega)]

theorem split_loop (s : ByteArray) (hs : s.size < 1099511627776) : ∀ (m i a : Nat) (acc : List ByteArray), i + m = s.size → a ≤ i → (∀ x ∈ (s.data.toList.drop a).take (i - a), x ≠ 46) → acc.length ≤ a →
    spec_l1Split.l0 (m + 1) s 46 acc (a : Int) (i : Int) = some (acc ++ (splitL 46 (s.data.toList.drop a)).map mkB)
  | 0, i, a, acc, him, hai, hx, hacc => by
    unfold spec_l1Split.l0
    rw [if_neg (by omega), if_pos (by omega), if_pos (by omega), if_pos (by omega)]
    rw [List.take_of_length_le (by rw [List.length_drop, ← size_len]; omega)] at hx
    rw [splitL_none 46 _ hx, Int.toNat_natCast, ext_end]
    rfl
  | m + 1, i, a, acc, him, hai, hx, hacc => by
    have hi : i < s.data.toList.length := by rw [← size_len]; omega
    unfold spec_l1Split.l0
    rw [if_pos (by omega), if_pos (by omega), bt_list s i hi, w64n (by omega)]
    have hd : s.data.toList.drop a = (s.data.toList.drop a).take (i - a) ++ s.data.toList[i] :: s.data.toList.drop (i + 1) := by
      conv => lhs; rw [← List.take_append_drop (i - a) (s.data.toList.drop a)]
      congr 1
      rw [List.drop_drop, show a + (i - a) = i by omega, List.drop_eq_getElem_cons hi]
    by_cases h : s.data.toList[i] = 46
    · rw [if_pos (by rw [h]; rfl), if_pos (by omega), if_pos (by omega), if_pos (by omega), if_pos (by omega), Int.toNat_natCast, Int.toNat_natCast, ext_mkB]
      rw [split_loop s hs m (i + 1) (i + 1) _ (by omega) (by omega) (by simp) (by simp; omega)]
      conv => rhs; rw [hd, h, splitL_hit 46 _ _ hx]
      simp
    · rw [if_neg (by intro e; apply h; apply UInt8.toNat_inj.1; simpa using Int.ofNat.inj e)]
      refine split_loop s hs m (i + 1) a acc (by omega) (by omega) ?_ hacc
      intro x hm
      rw [show i + 1 - a = (i - a) + 1 by omega, List.take_add_one] at hm
      rcases List.mem_append.1 hm with hm | hm
      · exact hx x hm
      · rw [List.getElem?_drop, show a + (i - a) = i by omega, List.getElem?_eq_getElem hi] at hm
        obtain rfl : x = s.data.toList[i] := by simpa using hm
        exact h

theorem split_ev (s : ByteArray) (hs : s.size < 1099511627776) : Ev (fun k => spec_l1Split.f k s 46) ((splitL 46 s.data.toList).map mkB) := by
  refine Ev.of (fun k => spec_l1Split.mono _ _ _) (k := s.size + 1) ?_
  unfold spec_l1Split.f
  have := split_loop s hs s.size 0 0 [] (by omega) (by omega) (by simp) (by simp)
  simpa using this

theorem within_spec (n a b : Int) : spec_l1In.f n a b = some (decide (a ≤ n ∧ n ≤ b)) := by
  unfold spec_l1In.f
  by_cases h : n ≥ a
  · rw [if_pos h]; congr 1; rw [decide_eq_decide]; omega
  · rw [if_neg h]; congr 1; rw [eq_comm, decide_eq_false_iff_not]; omega

theorem label_loop (s : ByteArray) (hs : s.size < 1099511627776) : ∀ (m i : Nat), i + m = s.size →
    spec_l1Label.l0 (m + 1) s (i : Int) = some ((s.data.toList.drop i).all labelByte && decide (1 ≤ s.data.toList.length ∧ s.data.toList.length ≤ 20))
  | 0, i, him => by
    unfold spec_l1Label.l0
    rw [if_neg (by omega), within_spec, List.drop_of_length_le (by rw [← size_len]; omega)]
    simp only [Option.bind_some, List.all_nil, Bool.true_and]
    congr 1
    rw [decide_eq_decide, ← size_len]
    omega
  | m + 1, i, him => by
    have hi : i < s.data.toList.length := by rw [← size_len]; omega
    have ih := label_loop s hs m (i + 1) (by omega)
    unfold spec_l1Label.l0
    rw [if_pos (by omega), if_pos (by omega), w64n (by omega), ih, bt_list s i hi, List.drop_eq_getElem_cons hi, List.all_cons]
    generalize (List.drop (i + 1) s.data.toList).all labelByte = rest
    generalize decide (1 ≤ s.data.toList.length ∧ s.data.toList.length ≤ 20) = len
    generalize s.data.toList[i] = b
    have hb : labelByte b = decide ((97 ≤ (b.toNat : Int) ∧ (b.toNat : Int) ≤ 122) ∨ (48 ≤ (b.toNat : Int) ∧ (b.toNat : Int) ≤ 57) ∨ (b.toNat : Int) = 45 ∨ (b.toNat : Int) = 95) := by
      unfold labelByte
      rw [Bool.eq_iff_iff]
      have h45 : b = 45 ↔ (b.toNat : Int) = 45 := by rw [← UInt8.toNat_inj]; exact ⟨fun h => by rw [h]; rfl, fun h => Int.ofNat.inj h⟩
      have h95 : b = 95 ↔ (b.toNat : Int) = 95 := by rw [← UInt8.toNat_inj]; exact ⟨fun h => by rw [h]; rfl, fun h => Int.ofNat.inj h⟩
      simp only [Bool.or_eq_true, decide_eq_true_eq, beq_iff_eq, h45, h95]
      omega
    rw [hb]
    generalize (b.toNat : Int) = v
    by_cases hv : (97 ≤ v ∧ v ≤ 122) ∨ (48 ≤ v ∧ v ≤ 57) ∨ v = 45 ∨ v = 95
    · rw [decide_eq_true hv, Bool.true_and]
      repeat' split
      all_goals first | rfl | omega
    · rw [decide_eq_false hv, Bool.false_and, Bool.false_and]
      repeat' split
      all_goals first | rfl | omega

theorem label_ev (s : ByteArray) (hs : s.size < 1099511627776) : Ev (fun k => spec_l1Label.f k s) (isLabelL s.data.toList) := by
  refine Ev.of (fun k => spec_l1Label.mono _ _) (k := s.size + 1) ?_
  unfold spec_l1Label.f isLabelL
  rw [Lib.toList_data]
  by_cases h : s.data.toList = [42]
  · rw [if_pos h, h]; rfl
  · rw [if_neg h, show (s.data.toList == [42]) = false from beq_eq_false_iff_ne.mpr h, Bool.false_or, Bool.and_comm]
    have := label_loop s hs s.size 0 (by omega)
    simpa using this

/-- The result of the reference's labels' loop. -/
def labsR (s : ByteArray) (parts : List ByteArray) (i : Nat) : List ByteArray × Bool :=
  if (parts.drop i).all (fun p => isLabelL p.data.toList) then (if s.size ≤ 60 then (parts, decide (parts.length ≤ 8)) else (parts, false)) else ([], false)

theorem labels_loop (s : ByteArray) (parts : List ByteArray) (hp : ∀ p ∈ parts, p.size < 1099511627776) (hl : parts.length < 1099511627776) : ∀ (m i : Nat), i + m = parts.length →
    Ev (fun k => spec_l1Labels.l0 k s parts parts (parts.length : Int) (i : Int)) (labsR s parts i)
  | 0, i, him => by
    refine Ev.step (f := fun k => some (labsR s parts i)) (fun k => ?_) (Ev.now _)
    show spec_l1Labels.l0 (k + 1) s parts parts (parts.length : Int) (i : Int) = _
    unfold spec_l1Labels.l0 labsR
    rw [if_neg (by omega), List.drop_of_length_le (by omega)]
    simp only [List.all_nil, if_true]
    by_cases h : s.size ≤ 60
    · rw [if_pos (by omega), if_pos h]
      congr 2
      rw [decide_eq_decide]; omega
    · rw [if_neg (by omega), if_neg h]
  | m + 1, i, him => by
    have hi : i < parts.length := by omega
    have ih := labels_loop s parts hp hl m (i + 1) (by omega)
    have hrd : rdOf ByteArray.empty parts (i : Int) = parts[i] := by
      unfold rdOf
      rw [Int.toNat_natCast, List.getD_eq_getElem?_getD, List.getElem?_eq_getElem hi]
      rfl
    refine Ev.step (f := fun k => (spec_l1Label.f k parts[i]).bind fun t => if t = true then spec_l1Labels.l0 k s parts parts (parts.length : Int) ((i + 1 : Nat) : Int) else some ([], false)) (fun k => ?_) ?_
    · show spec_l1Labels.l0 (k + 1) s parts parts (parts.length : Int) (i : Int) = _
      conv => lhs; unfold spec_l1Labels.l0
      rw [if_pos (by omega), if_pos (by omega), if_pos (by omega), hrd, w64n (by omega)]
    · refine Ev.bind (label_ev _ (hp _ (List.getElem_mem hi))) ?_
      have hd : labsR s parts i = if isLabelL parts[i].data.toList = true then labsR s parts (i + 1) else ([], false) := by
        unfold labsR
        rw [List.drop_eq_getElem_cons hi, List.all_cons]
        cases isLabelL parts[i].data.toList <;> simp
      rw [hd]
      by_cases h : isLabelL parts[i].data.toList = true
      · simp only [if_pos h]
        exact ih
      · simp only [if_neg h]
        exact Ev.now _

theorem splitL_len (c : UInt8) (l : List UInt8) : (splitL c l).length ≤ l.length + 1 := by
  induction l with
  | nil => simp [splitL]
  | cons x xs ih =>
    unfold splitL
    split
    · simp; omega
    · split
      · simp
      · rename_i e
        rw [e] at ih
        simp at ih ⊢
        omega
theorem splitL_part (c : UInt8) (l : List UInt8) : ∀ p ∈ splitL c l, p.length ≤ l.length := by
  induction l with
  | nil => simp [splitL]
  | cons x xs ih =>
    unfold splitL
    split
    · intro p hp
      rcases List.mem_cons.1 hp with rfl | hp
      · simp
      · have := ih p hp; simp; omega
    · split
      · simp
      · rename_i e
        rw [e] at ih
        intro p hp
        rcases List.mem_cons.1 hp with rfl | hp
        · have := ih _ List.mem_cons_self; simp; omega
        · have := ih p (List.mem_cons_of_mem _ hp); simp; omega

/-- What the reference's labels are. -/
theorem labels_ev (s : ByteArray) (hs : s.size < 549755813888) : ∃ r, Ev (fun k => spec_l1Labels.f k s) r ∧ r.2 = goodL s.data.toList ∧ (r.2 = true → r.1 = (labelsL s.data.toList).map mkB) := by
  by_cases h : s.data.toList = []
  · refine ⟨([], true), ?_, ?_, ?_⟩
    · refine Ev.congr (fun k => ?_) (Ev.now _)
      unfold spec_l1Labels.f
      rw [if_pos (by rw [Lib.toList_data]; exact h)]
    · rw [h]; decide
    · rw [h]; intro _; rfl
  · refine ⟨labsR s ((splitL 46 s.data.toList).map mkB) 0, ?_, ?_, ?_⟩
    · refine Ev.congr (f := fun k => (spec_l1Split.f k s 46).bind fun t => spec_l1Labels.l0 k s t t (t.length : Int) 0) (fun k => ?_) (Ev.bind (split_ev s (by omega)) ?_)
      · show spec_l1Labels.f k s = _
        unfold spec_l1Labels.f
        rw [if_neg (by rw [Lib.toList_data]; exact h)]
      · have hlen : ((splitL 46 s.data.toList).map mkB).length ≤ s.size + 1 := by rw [List.length_map, size_len]; exact splitL_len _ _
        refine labels_loop s _ ?_ (by omega) _ 0 (Nat.zero_add _)
        intro p hp
        obtain ⟨q, hq, rfl⟩ := List.mem_map.1 hp
        have := splitL_part 46 _ q hq
        rw [mkB_size]
        rw [← size_len] at this
        omega
    all_goals
      unfold labsR
      try unfold goodL
      rw [show labelsL s.data.toList = splitL 46 s.data.toList by unfold labelsL; rw [if_neg h]]
      simp only [List.drop_zero, List.all_map, Function.comp_def, mkB_data, List.length_map, ← size_len]
      by_cases h1 : (splitL 46 s.data.toList).all isLabelL = true
      · simp only [show (splitL 46 s.data.toList).all (fun p => isLabelL p) = true from h1]
        by_cases h2 : s.size ≤ 60
        · simp [h1, h2]
        · simp [h1, h2]
      · simp only [show (splitL 46 s.data.toList).all (fun p => isLabelL p) = false from Bool.eq_false_iff.mpr h1]
        simp [h1]

theorem good_ev (s : ByteArray) (hs : s.size < 549755813888) : ∃ r, Ev (fun k => spec_l1Labels.f k s) r ∧ r.2 = goodL s.data.toList := by
  obtain ⟨r, h1, h2, _⟩ := labels_ev s hs
  exact ⟨r, h1, h2⟩
end Go.Proofs.YtecmicedacppbaaDoor.Pure
