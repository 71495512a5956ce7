/- FnExactCompareNames: part 19 of 20 of my texts for this claim, joined; the theorem stands in the last. Conditions: none beyond the statement's. -/
import Derived.Test.YtiipkjehlaenkaaDoorMFnExactCompareNamesx17
import Derived.Test.YtiipkjehlaenkaaDoorMFnExactCompareNamesx11
import Derived.Test.YtiipkjehlaenkaaDoorMFnExactCompareNamesx5
import Derived.Test.YtiipkjehlaenkaaDoorMFnExactCompareNamesx13
-- PureComp
/- Comparing two names by their labels from the right: the reference and the program return the same number. Conditions: the texts' sizes. -/
namespace Go.Proofs.YtiipkjehlaenkaaDoor.Pure
open Go.RowKit Go.Proofs.YtiipkjehlaenkaaDoor.P Go.Proofs.YtiipkjehlaenkaaDoorW.PrintWords Go.Proofs.YtiipkjehlaenkaaDoorW.PrintLast
set_option linter.unusedVariables false
set_option linter.unusedSimpArgs false

theorem swap_ends (p m q : List ByteArray) (a b : ByteArray) : ((p ++ (a :: (m ++ [b])) ++ q).set p.length b).set (p.length + m.length + 1) a = (p ++ [b]) ++ m ++ (a :: q) := by
  have h1 : (p ++ (a :: (m ++ [b])) ++ q).set p.length b = p ++ b :: (m ++ b :: q) := by simp [List.set_append]
  have h2 : (p ++ b :: (m ++ b :: q)) = (p ++ b :: m) ++ b :: q := by simp
  have h3 : p.length + m.length + 1 = (p ++ b :: m).length := by simp; omega
  rw [h1, h2, h3, List.set_append_right _ _ (Nat.le_refl _), Nat.sub_self]
  simp
theorem get_first (p m q : List ByteArray) (a b : ByteArray) : rdOf ByteArray.empty (p ++ (a :: (m ++ [b])) ++ q) (p.length : Int) = a := by
  unfold rdOf
  simp [List.getD_eq_getElem?_getD]
theorem get_last (p m q : List ByteArray) (a b : ByteArray) : rdOf ByteArray.empty (p ++ (a :: (m ++ [b])) ++ q) ((p.length + m.length + 1 : Nat) : Int) = b := by
  have h2 : p ++ (a :: (m ++ [b])) ++ q = (p ++ a :: m) ++ b :: q := by simp
  have h3 : p.length + m.length + 1 = (p ++ a :: m).length := by simp; omega
  unfold rdOf
  rw [Int.toNat_natCast, h2, h3]
  simp [List.getD_eq_getElem?_getD]

theorem reverse_loop : ∀ (n : Nat) (p m q : List ByteArray), m.length ≤ n → p.length + m.length + q.length < 1099511627776 →
    Ev (fun k => slices_Reverse_string_string.l0 k (p ++ m ++ q) (p.length : Int) ((p.length : Int) + (m.length : Int) - 1)) (p ++ m.reverse ++ q)
  | n, p, [], q, hn, hb => by
    refine Ev.step (f := fun _ => some _) (fun k => ?_) (Ev.now _)
    show slices_Reverse_string_string.l0 (k + 1) (p ++ [] ++ q) (p.length : Int) ((p.length : Int) + (0 : Int) - 1) = _
    unfold slices_Reverse_string_string.l0
    rw [if_neg (by omega)]
    rfl
  | n, p, a :: t, q, hn, hb => by
    rcases List.eq_nil_or_concat t with rfl | ⟨m, b, rfl⟩
    · refine Ev.step (f := fun _ => some _) (fun k => ?_) (Ev.now _)
      show slices_Reverse_string_string.l0 (k + 1) (p ++ [a] ++ q) (p.length : Int) ((p.length : Int) + (1 : Int) - 1) = _
      unfold slices_Reverse_string_string.l0
      rw [if_neg (by omega)]
      rfl
    · rw [List.concat_eq_append] at hn hb ⊢
      have hl : (a :: (m ++ [b])).length = m.length + 2 := by simp
      rw [hl] at hn hb ⊢
      match n, hn with
      | n + 1, hn =>
        have ih := reverse_loop n (p ++ [b]) m (a :: q) (by omega) (by simp; omega)
        have e : p ++ (a :: (m ++ [b])).reverse ++ q = (p ++ [b]) ++ m.reverse ++ (a :: q) := by simp
        rw [e]
        refine Ev.step (fun k => ?_) ih
        show slices_Reverse_string_string.l0 (k + 1) (p ++ (a :: (m ++ [b])) ++ q) (p.length : Int) ((p.length : Int) + ((m.length + 2 : Nat) : Int) - 1) = _
        have hj : (p.length : Int) + ((m.length + 2 : Nat) : Int) - 1 = ((p.length + m.length + 1 : Nat) : Int) := by omega
        have hlen : (p ++ (a :: (m ++ [b])) ++ q).length = p.length + m.length + 2 + q.length := by simp; omega
        rw [hj]
        conv => lhs; unfold slices_Reverse_string_string.l0
        rw [hlen, if_pos (by omega), if_pos (by omega), if_pos (by omega), if_pos (by omega), if_pos (by omega), get_first, get_last, Int.toNat_natCast, Int.toNat_natCast, swap_ends]
        rw [w64n (by omega), show wrap64 (((p.length + m.length + 1 : Nat) : Int) - 1) = ((p.length + m.length : Nat) : Int) by unfold wrap64; omega]
        have e1 : (p ++ [b]).length = p.length + 1 := by simp
        rw [e1]
        congr 1
        omega
theorem reverse_ev (l : List ByteArray) (h : l.length < 1099511627776) : Ev (fun k => slices_Reverse_string_string.f k l) l.reverse := by
  have := reverse_loop l.length [] l [] (Nat.le_refl _) (by simpa using h)
  simp only [List.nil_append, List.append_nil, List.length_nil] at this
  refine Ev.congr (fun k => ?_) this
  unfold slices_Reverse_string_string.f
  congr 1
  unfold wrap64
  show _ = (0 : Int) + (l.length : Int) - 1
  omega

def cmpP (a b : ByteArray) : Int := if Op.bytesLess a.toList b.toList = true then -1 else (if Op.bytesLess b.toList a.toList = true then 1 else 0)
def cmpL : List ByteArray → List ByteArray → Int
  | [], [] => 0
  | [], _ :: _ => -1
  | _ :: _, [] => 1
  | a :: x, b :: y => if cmpP a b = 0 then cmpL x y else cmpP a b
theorem cmp_eq (a b : ByteArray) : cmp_Compare_string.f a b = some (cmpP a b) := by
  unfold cmp_Compare_string.f cmp_isNaN_string.f cmpP
  simp only [bne_self_eq_false, Option.bind_some]
  rw [if_neg (by simp), if_neg (by simp)]
  split
  · rfl
  · split <;> rfl
theorem rd_at (l : List ByteArray) (i : Nat) (h : i < l.length) : rdOf ByteArray.empty l (i : Int) = l[i] := by
  unfold rdOf
  rw [Int.toNat_natCast, List.getD_eq_getElem?_getD, List.getElem?_eq_getElem h]
  rfl
theorem compare_loop (x y : List ByteArray) (hx : x.length < 1099511627776) (hy : y.length < 1099511627776) : ∀ (m i : Nat), i + m = x.length → i ≤ y.length →
    Ev (fun k => slices_Compare_string_string.l0 k x y x (x.length : Int) (i : Int)) (cmpL (x.drop i) (y.drop i))
  | 0, i, h, hiy => by
    refine Ev.step (f := fun _ => some _) (fun k => ?_) (Ev.now _)
    show slices_Compare_string_string.l0 (k + 1) x y x (x.length : Int) (i : Int) = _
    unfold slices_Compare_string_string.l0
    rw [if_neg (by omega), List.drop_of_length_le (by omega)]
    by_cases hl : (x.length : Int) < (y.length : Int)
    · rw [if_pos hl, List.drop_eq_getElem_cons (show i < y.length by omega)]
      rfl
    · rw [if_neg hl, List.drop_of_length_le (by omega)]
      rfl
  | m + 1, i, h, hiy => by
    by_cases hl : (i : Int) ≥ (y.length : Int)
    · refine Ev.step (f := fun _ => some _) (fun k => ?_) (Ev.now _)
      show slices_Compare_string_string.l0 (k + 1) x y x (x.length : Int) (i : Int) = _
      unfold slices_Compare_string_string.l0
      rw [if_pos (by omega), if_pos (by omega), if_pos (by omega), if_pos hl, List.drop_of_length_le (show y.length ≤ i by omega), List.drop_eq_getElem_cons (show i < x.length by omega)]
      rfl
    · have ih := compare_loop x y hx hy m (i + 1) (by omega) (by omega)
      have hc : cmpL (x.drop i) (y.drop i) = if cmpP x[i] y[i] = 0 then cmpL (x.drop (i + 1)) (y.drop (i + 1)) else cmpP x[i] y[i] := by
        rw [List.drop_eq_getElem_cons (show i < x.length by omega), List.drop_eq_getElem_cons (show i < y.length by omega)]
        rfl
      refine Ev.step (f := fun k => if cmpP x[i] y[i] = 0 then slices_Compare_string_string.l0 k x y x (x.length : Int) ((i + 1 : Nat) : Int) else some (cmpP x[i] y[i])) (fun k => ?_) ?_
      · show slices_Compare_string_string.l0 (k + 1) x y x (x.length : Int) (i : Int) = _
        conv => lhs; unfold slices_Compare_string_string.l0
        rw [if_pos (by omega), if_pos (by omega), if_pos (by omega), if_neg hl, if_pos (by omega), rd_at x i (by omega), rd_at y i (by omega), cmp_eq, w64n (by omega)]
        rfl
      · rw [hc]
        by_cases h0 : cmpP x[i] y[i] = 0
        · simp only [if_pos h0]; exact ih
        · simp only [if_neg h0]; exact Ev.now _
theorem compare_ev (x y : List ByteArray) (hx : x.length < 1099511627776) (hy : y.length < 1099511627776) : Ev (fun k => slices_Compare_string_string.f k x y) (cmpL x y) := by
  have := compare_loop x y hx hy x.length 0 (by omega) (by omega)
  exact this

theorem speccomp_loop (x y : List ByteArray) (hx : x.length < 1099511627776) (hy : y.length < 1099511627776) : ∀ (m i : Nat), i + m = x.length → i ≤ y.length →
    Ev (fun k => spec_l1Compare.l0 k x y ((i + 1 : Nat) : Int)) (cmpL (x.reverse.drop i) (y.reverse.drop i))
  | m, i, h, hiy => by
    have hj : ∀ k, spec_l1Compare.l0 (k + 1) x y ((i + 1 : Nat) : Int) = spec_l1Compare.j1 k x y ((i + 1 : Nat) : Int) (decide (i + 1 ≤ x.length ∧ i + 1 ≤ y.length)) := by
      intro k
      conv => lhs; unfold spec_l1Compare.l0
      by_cases hl : ((i + 1 : Nat) : Int) ≤ (x.length : Int)
      · rw [if_pos hl]
        congr 1
        rw [decide_eq_decide]; omega
      · rw [if_neg hl]
        congr 1
        rw [eq_comm, decide_eq_false_iff_not]; omega
    refine Ev.step hj ?_
    by_cases hd : i + 1 ≤ x.length ∧ i + 1 ≤ y.length
    · obtain ⟨m, rfl⟩ : ∃ m', m = m' + 1 := ⟨m - 1, by omega⟩
      have hrx : i < x.reverse.length := by rw [List.length_reverse]; omega
      have hry : i < y.reverse.length := by rw [List.length_reverse]; omega
      have ih := speccomp_loop x y hx hy m (i + 1) (by omega) (by omega)
      have hwx : wrap64 ((x.length : Int) - ((i + 1 : Nat) : Int)) = ((x.length - 1 - i : Nat) : Int) := by unfold wrap64; omega
      have hwy : wrap64 ((y.length : Int) - ((i + 1 : Nat) : Int)) = ((y.length - 1 - i : Nat) : Int) := by unfold wrap64; omega
      have gx : rdOf ByteArray.empty x ((x.length - 1 - i : Nat) : Int) = x.reverse[i] := by rw [rd_at _ _ (by omega), List.getElem_reverse]
      have gy : rdOf ByteArray.empty y ((y.length - 1 - i : Nat) : Int) = y.reverse[i] := by rw [rd_at _ _ (by omega), List.getElem_reverse]
      have hc : cmpL (x.reverse.drop i) (y.reverse.drop i) = if cmpP x.reverse[i] y.reverse[i] = 0 then cmpL (x.reverse.drop (i + 1)) (y.reverse.drop (i + 1)) else cmpP x.reverse[i] y.reverse[i] := by
        rw [List.drop_eq_getElem_cons hrx, List.drop_eq_getElem_cons hry]
        rfl
      refine Ev.step (f := fun k => if cmpP x.reverse[i] y.reverse[i] = 0 then spec_l1Compare.l0 k x y ((i + 1 + 1 : Nat) : Int) else some (cmpP x.reverse[i] y.reverse[i])) (fun k => ?_) ?_
      · rw [decide_eq_true hd]
        conv => lhs; unfold spec_l1Compare.j1
        rw [if_pos rfl, hwx, hwy, if_pos (by omega), if_pos (by omega), if_pos (by omega), if_pos (by omega), gx, gy, w64n (by omega)]
        unfold cmpP
        by_cases h1 : Op.bytesLess x.reverse[i].toList y.reverse[i].toList = true
        · rw [if_pos h1, if_pos h1]; rfl
        · rw [if_neg h1, if_neg h1]
          by_cases h2 : Op.bytesLess y.reverse[i].toList x.reverse[i].toList = true
          · rw [if_pos h2, if_pos h2]; rfl
          · rw [if_neg h2, if_neg h2]; rfl
      · rw [hc]
        by_cases h0 : cmpP x.reverse[i] y.reverse[i] = 0
        · simp only [if_pos h0]; exact ih
        · simp only [if_neg h0]; exact Ev.now _
    · refine Ev.step (f := fun _ => some _) (fun k => ?_) (Ev.now _)
      rw [decide_eq_false hd]
      conv => lhs; unfold spec_l1Compare.j1
      rw [if_neg (by simp)]
      have hcase : ∀ (p q : List ByteArray), (p = [] ∨ q = []) → cmpL p q = if p.length < q.length then -1 else if p.length > q.length then 1 else 0 := by
        intro p q hpq
        cases p <;> cases q <;> first | rfl | (simp at hpq)| (simp [cmpL])
      rw [hcase _ _ (by
        by_cases h1 : i + 1 ≤ x.length
        · right; apply List.drop_of_length_le; rw [List.length_reverse]; omega
        · left; apply List.drop_of_length_le; rw [List.length_reverse]; omega)]
      simp only [List.length_drop, List.length_reverse]
      by_cases h1 : (x.length : Int) < (y.length : Int)
      · rw [if_pos h1, if_pos (by omega)]
      · by_cases h2 : (x.length : Int) > (y.length : Int)
        · rw [if_neg h1, if_pos h2, if_neg (by omega), if_pos (by omega)]
        · rw [if_neg h1, if_neg h2, if_neg (by omega), if_neg (by omega)]
  termination_by m => m

/-- The order of two names. -/
def ordL (a b : List UInt8) : Int := cmpL ((labelsL a).map mkB).reverse ((labelsL b).map mkB).reverse
theorem labs_len (s : ByteArray) (hs : s.size ≤ 1048576) : ((labelsL s.data.toList).map mkB).length ≤ 1048577 := by
  rw [List.length_map]
  unfold labelsL
  split
  · simp
  · have := splitL_len 46 s.data.toList; rw [← size_len] at this; omega
theorem implComp_ev (a b : ByteArray) (ha : a.size ≤ 1048576) (hb : b.size ≤ 1048576) : Ev (fun k => impl_compareNames.f k a b) (ordL a.data.toList b.data.toList) := by
  have h1 := labs_len a ha
  have h2 := labs_len b hb
  refine Ev.congr (f := fun k => (slices_Reverse_string_string.f k ((labelsL a.data.toList).map mkB)).bind fun t151 => (slices_Reverse_string_string.f k ((labelsL b.data.toList).map mkB)).bind fun t152 => (slices_Compare_string_string.f k t151 t152).bind fun t153 => some t153) (fun k => ?_) ?_
  · unfold impl_compareNames.f
    rw [labelsOf_eq a (by omega), labelsOf_eq b (by omega)]
    rfl
  · refine Ev.bind (reverse_ev _ (by omega)) (Ev.bind (reverse_ev _ (by omega)) (Ev.bind (compare_ev _ _ ?_ ?_) (Ev.now _)))
    · rw [List.length_reverse]; omega
    · rw [List.length_reverse]; omega
theorem specComp_ev (a b : ByteArray) (ha : a.size ≤ 1048576) (hb : b.size ≤ 1048576) (ga : goodL a.data.toList = true) (gb : goodL b.data.toList = true) : Ev (fun k => spec_l1Compare.f k a b) (ordL a.data.toList b.data.toList) := by
  obtain ⟨r1, e1, e2, e3⟩ := labels_ev a (by omega)
  obtain ⟨r2, f1, f2, f3⟩ := labels_ev b (by omega)
  have h1 := labs_len a ha
  have h2 := labs_len b hb
  refine Ev.congr (fun k => rfl) (Ev.bind e1 (Ev.bind f1 ?_))
  rw [e3 (e2.trans ga), f3 (f2.trans gb)]
  exact speccomp_loop _ _ (by omega) (by omega) _ 0 (Nat.zero_add _) (by omega)
end Go.Proofs.YtiipkjehlaenkaaDoor.Pure

-- PureFnExactCompareNames
/- 'laws.FnExactCompareNames' returns true: the reference and the program return the same. Conditions: the texts' sizes. -/
namespace Go.Proofs.YtiipkjehlaenkaaDoor.Pure
open Go.RowKit Go.Proofs.YtiipkjehlaenkaaDoor.P Go.Proofs.YtiipkjehlaenkaaDoorW.PrintWords Go.Proofs.YtiipkjehlaenkaaDoorW.PrintLast
set_option linter.unusedVariables false
set_option linter.unusedSimpArgs false
def compR (a b : ByteArray) : Int × Bool := if goodL a.data.toList = true then (if goodL b.data.toList = true then (ordL a.data.toList b.data.toList, true) else (0, false)) else (0, false)
theorem comparenames_spec (a b : ByteArray) (ha : a.size ≤ 1048576) (hb : b.size ≤ 1048576) : Ev (fun k => spec_CompareNames.f k a b) (compR a b) := by
  unfold compR
  refine Ev.congr (fun k => rfl) (Ev.bind (specGood_ev a (by omega)) ?_)
  by_cases h : goodL a.data.toList = true
  · simp only [if_pos h]
    refine Ev.bind (specGood_ev b (by omega)) ?_
    by_cases h' : goodL b.data.toList = true
    · simp only [if_pos h']; exact Ev.bind (specComp_ev a b ha hb h h') (Ev.now _)
    · simp only [if_neg h']; exact Ev.now _
  · simp only [if_neg h]; exact Ev.now _
theorem comparenames_impl (a b : ByteArray) (ha : a.size ≤ 1048576) (hb : b.size ≤ 1048576) : Ev (fun k => impl_CompareNames.f k a b) (compR a b) := by
  unfold compR
  refine Ev.congr (fun k => rfl) (Ev.bind (Ev.now (goodL a.data.toList)) ?_)
  by_cases h : goodL a.data.toList = true
  · simp only [if_pos h]
    refine Ev.bind (Ev.now (goodL b.data.toList)) ?_
    by_cases h' : goodL b.data.toList = true
    · simp only [if_pos h']; exact Ev.bind (implComp_ev a b ha hb) (Ev.now _)
    · simp only [if_neg h']; exact Ev.now _
  · simp only [if_neg h]; exact Ev.now _
theorem FnExactCompareNames : laws_FnExactCompareNames.Pure := by
  intro a0 a1 _ _
  suffices h : Ev (fun k => laws_FnExactCompareNames.f k a0 a1) true from h.rounds
  by_cases h : (a0.size : Int) > 1048576
  · exact Ev.congr (fun k => by unfold laws_FnExactCompareNames.f; rw [if_pos h]) (Ev.now true)
  · by_cases h' : (a1.size : Int) > 1048576
    · exact Ev.congr (fun k => by unfold laws_FnExactCompareNames.f; rw [if_neg h, if_pos h']) (Ev.now true)
    refine Ev.congr (fun k => by unfold laws_FnExactCompareNames.f; rw [if_neg h, if_neg h']) (Ev.bind (comparenames_spec a0 a1 (by omega) (by omega)) (Ev.bind (comparenames_impl a0 a1 (by omega) (by omega)) ?_))
    simp
    exact Ev.now _
end Go.Proofs.YtiipkjehlaenkaaDoor.Pure
