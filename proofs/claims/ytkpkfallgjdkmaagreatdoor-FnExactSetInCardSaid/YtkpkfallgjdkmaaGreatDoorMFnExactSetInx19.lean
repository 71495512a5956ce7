/- FnExactSetIn: part 20 of 31 of my texts for this claim, joined; the theorem stands in the last. Conditions: none beyond the statement's. -/
import Derived.Test.YtkpkfallgjdkmaaGreatDoorMFnExactSetInx17
import Derived.Test.YtkpkfallgjdkmaaGreatDoorMFnExactSetInx5
import Derived.Test.YtkpkfallgjdkmaaGreatDoorMFnExactSetInx13
import Derived.Test.YtkpkfallgjdkmaaGreatDoorMFnExactSetInx14
import Derived.Test.YtkpkfallgjdkmaaGreatDoorMFnExactSetInx9
import Derived.Test.YtkpkfallgjdkmaaGreatDoorMFnExactSetInx3
import Derived.Test.YtkpkfallgjdkmaaGreatDoorMFnExactSetInx6
import Derived.Test.YtkpkfallgjdkmaaGreatDoorMFnExactSetInx18
import Derived.Test.YtkpkfallgjdkmaaGreatDoorMFnExactSetInx16
import Derived.Test.YtkpkfallgjdkmaaGreatDoorMFnExactSetInx12
import Derived.Sort.Walk0
import Derived.Sort.Statements
import Derived.Lib.SlicesCompact
namespace Go.Proofs.YtkpkfallgjdkmaaGreatDoor.Pure
open Go.RowKit Go.Proofs.YtkpkfallgjdkmaaGreatDoor.P Go.Proofs.YtkpkfallgjdkmaaGreatDoorW.PrintWords Go.Proofs.YtkpkfallgjdkmaaGreatDoorW.PrintLast
set_option linter.unusedVariables false
set_option linter.unusedSimpArgs false
/-- Is a text another one, or below it? -/
def belowL (a b : List UInt8) : Bool := b == [] || (a == b || (decide (b.length < a.length) && a.drop (a.length - b.length - 1) == 46 :: b))
theorem specBelow_eq (a b : ByteArray) (ha : a.size < 4611686018427387904) (hb : b.size < 4611686018427387904) : spec_l1Below.f a b = some (belowL a.data.toList b.data.toList) := by
 unfold spec_l1Below.f belowL
 rw [Lib.toList_data, Lib.toList_data]
 by_cases h1 : b.data.toList = []
 · rw [if_pos h1, h1]; rfl
 · rw [if_neg h1, show (b.data.toList == []) = false from beq_eq_false_iff_ne.mpr h1, Bool.false_or]
   by_cases h2 : a.data.toList = b.data.toList
   · rw [if_pos h2, h2]; simp
   · rw [if_neg h2, show (a.data.toList == b.data.toList) = false from beq_eq_false_iff_ne.mpr h2, Bool.false_or, ← size_len, ← size_len]
     have hw : wrap64 ((a.size : Int) - (b.size : Int)) = (a.size : Int) - (b.size : Int) := by unfold wrap64; omega
     rw [hw]
     by_cases h3 : (a.size : Int) - (b.size : Int) > 0
     · have h3' : b.size < a.size := by omega
       have hw2 : wrap64 ((a.size : Int) - (b.size : Int) - 1) = ((a.size - b.size - 1 : Nat) : Int) := by unfold wrap64; omega
       have hi : a.size - b.size - 1 < a.data.toList.length := by rw [← size_len]; omega
       rw [if_pos h3, if_pos (by omega), if_pos (by omega), hw2, decide_eq_true h3', Bool.true_and]
       rw [show ((a.size : Int) - (b.size : Int)).toNat = a.size - b.size by omega, Lib.toList_data, ext_end, mkB_data]
       rw [List.drop_eq_getElem_cons hi, show a.size - b.size - 1 + 1 = a.size - b.size by omega]
       by_cases h4 : List.drop (a.size - b.size) a.data.toList = b.data.toList
       · rw [if_pos h4, if_pos (by omega), if_pos (by omega), bt_list a _ hi, h4]
         generalize a.data.toList[a.size - b.size - 1] = x
         have hx : ((x.toNat : Int) == 46) = (x == 46) := by
          rw [Bool.eq_iff_iff, beq_iff_eq, beq_iff_eq, ← UInt8.toNat_inj]
          exact ⟨fun e => Int.ofNat.inj e, fun e => by rw [e]; rfl⟩
         rw [hx]
         simp
       · rw [if_neg h4, eq_comm]
         congr 1
         rw [beq_eq_false_iff_ne]
         intro e
         exact h4 (List.cons.inj e).2
     · rw [if_neg h3, decide_eq_false (by omega)]
       rfl
theorem implBelow_eq (a b : ByteArray) (ha : a.size < 4611686018427387904) (hb : b.size < 4611686018427387904) : impl_isBelow.f a b = some (belowL a.data.toList b.data.toList) := by
 unfold impl_isBelow.f belowL
 rw [Lib.toList_data, Lib.toList_data]
 by_cases h1 : b.data.toList = []
 · rw [h1]
   by_cases h2 : a.data.toList = []
   · rw [if_pos h2]; rfl
   · rw [if_neg h2, if_pos rfl]; rfl
 · rw [show (b.data.toList == []) = false from beq_eq_false_iff_ne.mpr h1, Bool.false_or]
   by_cases h2 : a.data.toList = b.data.toList
   · rw [if_pos h2, h2]; simp
   · rw [if_neg h2, if_neg h1, if_pos (by omega), show (a.data.toList == b.data.toList) = false from beq_eq_false_iff_ne.mpr h2, Bool.false_or, ← size_len, ← size_len]
     unfold strings_HasSuffix.f stringslite_HasSuffix.f
     have hsz : ((⟨#[46]⟩ : ByteArray) ++ b).size = b.size + 1 := by rw [ByteArray.size_append]; show 1 + b.size = _; omega
     have hdt : ((⟨#[46]⟩ : ByteArray) ++ b).data.toList = 46 :: b.data.toList := by rw [ByteArray.data_append, Array.toList_append]; rfl
     rw [hsz]
     by_cases h3 : b.size < a.size
     · have hw : wrap64 ((a.size : Int) - ((b.size + 1 : Nat) : Int)) = ((a.size - b.size - 1 : Nat) : Int) := by unfold wrap64; omega
       rw [if_pos (by omega), hw, if_pos (by omega), if_pos (by omega), decide_eq_true h3, Bool.true_and, Int.toNat_natCast, ext_end, Lib.toList_data, Lib.toList_data, mkB_data, hdt]
       rfl
     · rw [if_neg (by omega), decide_eq_false h3]
       rfl
/-- What is behind the first dot. -/
def parL : List UInt8 → List UInt8
 | [] => []
 | x :: xs => if x = 46 then xs else parL xs
theorem parL_len (l : List UInt8) : (parL l).length ≤ l.length - 1 := by
 induction l with
 | nil => simp [parL]
 | cons x xs ih =>
  unfold parL
  split
  · simp
  · simp at ih ⊢; omega
theorem parL_hit (p r : List UInt8) (h : ∀ x ∈ p, x ≠ 46) : parL (p ++ 46 :: r) = r := by
 induction p with
 | nil => simp [parL]
 | cons x xs ih => rw [List.cons_append, parL, if_neg (h x List.mem_cons_self), ih fun y hy => h y (List.mem_cons_of_mem _ hy)]
theorem parL_none (l : List UInt8) (h : ∀ x ∈ l, x ≠ 46) : parL l = [] := by
 induction l with
 | nil => rfl
 | cons x xs ih => rw [parL, if_neg (h x List.mem_cons_self), ih fun y hy => h y (List.mem_cons_of_mem _ hy)]
theorem parent_loop (s : ByteArray) (hs : s.size < 1099511627776) : ∀ (m i : Nat), i + m = s.size →
 spec_l1Parent.l0 (m + 1) s (i : Int) = some (mkB (parL (s.data.toList.drop i)))
 | 0, i, him => by
  unfold spec_l1Parent.l0
  rw [if_neg (by omega), List.drop_of_length_le (by rw [← size_len]; omega)]
  rfl
 | m + 1, i, him => by
  have hi : i < s.data.toList.length := by rw [← size_len]; omega
  unfold spec_l1Parent.l0
  rw [if_pos (by omega), if_pos (by omega), w64n (by omega), bt_list s i hi, List.drop_eq_getElem_cons hi]
  unfold parL
  by_cases h : s.data.toList[i] = 46
  · rw [if_pos (by rw [h]; rfl), if_pos h, if_pos (by omega), if_pos (by omega), Int.toNat_natCast, ext_end]
  · rw [if_neg (by intro e; apply h; apply UInt8.toNat_inj.1; simpa using Int.ofNat.inj e), if_neg h, parent_loop s hs m (i + 1) (by omega)]
theorem specParent_ev (s : ByteArray) (hs : s.size < 1099511627776) : Ev (fun k => spec_l1Parent.f k s) (mkB (parL s.data.toList)) := by
 refine Ev.of (fun k => spec_l1Parent.mono _ _) (k := s.size + 1) ?_
 unfold spec_l1Parent.f
 have := parent_loop s hs s.size 0 (by omega)
 simpa using this
theorem swap_ends (p m q : List ByteArray) (a b : ByteArray) : ((p ++ (a :: (m ++ [b])) ++ q).set p.length b).set (p.length + m.length + 1) a = (p ++ [b]) ++ m ++ (a :: q) := by
 have h1 : (p ++ (a :: (m ++ [b])) ++ q).set p.length b = p ++ b :: (m ++ b :: q) := by simp [List.set_append]
 have h2 : (p ++ b :: (m ++ b :: q)) = (p ++ b :: m) ++ b :: q := by simp
 have h3 : p.length + m.length + 1 = (p ++ b :: m).length := by simp; omega
 rw [h1, h2, h3, List.set_append_right _ _ (Nat.le_refl _), Nat.sub_self]
 simp
theorem get_first (p m q : List ByteArray) (a b : ByteArray) : rdOf ByteArray.empty (p ++ (a :: (m ++ [b])) ++ q) (p.length : Int) = a := by
 unfold rdOf
 simp [List.getD_eq_getElem?_getD]
theorem get_last (p m q : List ByteArray) (a b : ByteArray) : rdOf ByteArray.empty (p ++ (a :: (m ++ [b])) ++ q) ((p.length + m.length + 1 : Nat) : Int) = b := by
 have h2 : p ++ (a :: (m ++ [b])) ++ q = (p ++ a :: m) ++ b :: q := by simp
 have h3 : p.length + m.length + 1 = (p ++ a :: m).length := by simp; omega
 unfold rdOf
 rw [Int.toNat_natCast, h2, h3]
 simp [List.getD_eq_getElem?_getD]
theorem reverse_loop : ∀ (n : Nat) (p m q : List ByteArray), m.length ≤ n → p.length + m.length + q.length < 1099511627776 →
 Ev (fun k => slices_Reverse_string_string.l0 k (p ++ m ++ q) (p.length : Int) ((p.length : Int) + (m.length : Int) - 1)) (p ++ m.reverse ++ q)
 | n, p, [], q, hn, hb => by
  refine Ev.step (f := fun _ => some _) (fun k => ?_) (Ev.now _)
  show slices_Reverse_string_string.l0 (k + 1) (p ++ [] ++ q) (p.length : Int) ((p.length : Int) + (0 : Int) - 1) = _
  unfold slices_Reverse_string_string.l0
  rw [if_neg (by omega)]
  rfl
 | n, p, a :: t, q, hn, hb => by
  rcases List.eq_nil_or_concat t with rfl | ⟨m, b, rfl⟩
  · refine Ev.step (f := fun _ => some _) (fun k => ?_) (Ev.now _)
    show slices_Reverse_string_string.l0 (k + 1) (p ++ [a] ++ q) (p.length : Int) ((p.length : Int) + (1 : Int) - 1) = _
    unfold slices_Reverse_string_string.l0
    rw [if_neg (by omega)]
    rfl
  · rw [List.concat_eq_append] at hn hb ⊢
    have hl : (a :: (m ++ [b])).length = m.length + 2 := by simp
    rw [hl] at hn hb ⊢
    match n, hn with
    | n + 1, hn =>
     have ih := reverse_loop n (p ++ [b]) m (a :: q) (by omega) (by simp; omega)
     have e : p ++ (a :: (m ++ [b])).reverse ++ q = (p ++ [b]) ++ m.reverse ++ (a :: q) := by simp
     rw [e]
     refine Ev.step (fun k => ?_) ih
     show slices_Reverse_string_string.l0 (k + 1) (p ++ (a :: (m ++ [b])) ++ q) (p.length : Int) ((p.length : Int) + ((m.length + 2 : Nat) : Int) - 1) = _
     have hj : (p.length : Int) + ((m.length + 2 : Nat) : Int) - 1 = ((p.length + m.length + 1 : Nat) : Int) := by omega
     have hlen : (p ++ (a :: (m ++ [b])) ++ q).length = p.length + m.length + 2 + q.length := by simp; omega
     rw [hj]
     conv => lhs; unfold slices_Reverse_string_string.l0
     rw [hlen, if_pos (by omega), if_pos (by omega), if_pos (by omega), if_pos (by omega), if_pos (by omega), get_first, get_last, Int.toNat_natCast, Int.toNat_natCast, swap_ends]
     rw [w64n (by omega), show wrap64 (((p.length + m.length + 1 : Nat) : Int) - 1) = ((p.length + m.length : Nat) : Int) by unfold wrap64; omega]
     have e1 : (p ++ [b]).length = p.length + 1 := by simp
     rw [e1]
     congr 1
     omega
theorem reverse_ev (l : List ByteArray) (h : l.length < 1099511627776) : Ev (fun k => slices_Reverse_string_string.f k l) l.reverse := by
 have := reverse_loop l.length [] l [] (Nat.le_refl _) (by simpa using h)
 simp only [List.nil_append, List.append_nil, List.length_nil] at this
 refine Ev.congr (fun k => ?_) this
 unfold slices_Reverse_string_string.f
 congr 1
 unfold wrap64
 show _ = (0 : Int) + (l.length : Int) - 1
 omega
def cmpP (a b : ByteArray) : Int := if Op.bytesLess a.toList b.toList = true then -1 else (if Op.bytesLess b.toList a.toList = true then 1 else 0)
def cmpL : List ByteArray → List ByteArray → Int
 | [], [] => 0
 | [], _ :: _ => -1
 | _ :: _, [] => 1
 | a :: x, b :: y => if cmpP a b = 0 then cmpL x y else cmpP a b
theorem cmp_eq (a b : ByteArray) : cmp_Compare_string.f a b = some (cmpP a b) := by
 unfold cmp_Compare_string.f cmp_isNaN_string.f cmpP
 simp only [bne_self_eq_false, Option.bind_some]
 rw [if_neg (by simp), if_neg (by simp)]
 split
 · rfl
 · split <;> rfl
theorem rd_at (l : List ByteArray) (i : Nat) (h : i < l.length) : rdOf ByteArray.empty l (i : Int) = l[i] := by
 unfold rdOf
 rw [Int.toNat_natCast, List.getD_eq_getElem?_getD, List.getElem?_eq_getElem h]
 rfl
theorem compare_loop (x y : List ByteArray) (hx : x.length < 1099511627776) (hy : y.length < 1099511627776) : ∀ (m i : Nat), i + m = x.length → i ≤ y.length →
 Ev (fun k => slices_Compare_string_string.l0 k x y x (x.length : Int) (i : Int)) (cmpL (x.drop i) (y.drop i))
 | 0, i, h, hiy => by
  refine Ev.step (f := fun _ => some _) (fun k => ?_) (Ev.now _)
  show slices_Compare_string_string.l0 (k + 1) x y x (x.length : Int) (i : Int) = _
  unfold slices_Compare_string_string.l0
  rw [if_neg (by omega), List.drop_of_length_le (by omega)]
  by_cases hl : (x.length : Int) < (y.length : Int)
  · rw [if_pos hl, List.drop_eq_getElem_cons (show i < y.length by omega)]
    rfl
  · rw [if_neg hl, List.drop_of_length_le (by omega)]
    rfl
 | m + 1, i, h, hiy => by
  by_cases hl : (i : Int) ≥ (y.length : Int)
  · refine Ev.step (f := fun _ => some _) (fun k => ?_) (Ev.now _)
    show slices_Compare_string_string.l0 (k + 1) x y x (x.length : Int) (i : Int) = _
    unfold slices_Compare_string_string.l0
    rw [if_pos (by omega), if_pos (by omega), if_pos (by omega), if_pos hl, List.drop_of_length_le (show y.length ≤ i by omega), List.drop_eq_getElem_cons (show i < x.length by omega)]
    rfl
  · have ih := compare_loop x y hx hy m (i + 1) (by omega) (by omega)
    have hc : cmpL (x.drop i) (y.drop i) = if cmpP x[i] y[i] = 0 then cmpL (x.drop (i + 1)) (y.drop (i + 1)) else cmpP x[i] y[i] := by
     rw [List.drop_eq_getElem_cons (show i < x.length by omega), List.drop_eq_getElem_cons (show i < y.length by omega)]
     rfl
    refine Ev.step (f := fun k => if cmpP x[i] y[i] = 0 then slices_Compare_string_string.l0 k x y x (x.length : Int) ((i + 1 : Nat) : Int) else some (cmpP x[i] y[i])) (fun k => ?_) ?_
    · show slices_Compare_string_string.l0 (k + 1) x y x (x.length : Int) (i : Int) = _
      conv => lhs; unfold slices_Compare_string_string.l0
      rw [if_pos (by omega), if_pos (by omega), if_pos (by omega), if_neg hl, if_pos (by omega), rd_at x i (by omega), rd_at y i (by omega), cmp_eq, w64n (by omega)]
      rfl
    · rw [hc]
      by_cases h0 : cmpP x[i] y[i] = 0
      · simp only [if_pos h0]; exact ih
      · simp only [if_neg h0]; exact Ev.now _
theorem compare_ev (x y : List ByteArray) (hx : x.length < 1099511627776) (hy : y.length < 1099511627776) : Ev (fun k => slices_Compare_string_string.f k x y) (cmpL x y) := by
 have := compare_loop x y hx hy x.length 0 (by omega) (by omega)
 exact this
theorem speccomp_loop (x y : List ByteArray) (hx : x.length < 1099511627776) (hy : y.length < 1099511627776) : ∀ (m i : Nat), i + m = x.length → i ≤ y.length →
 Ev (fun k => spec_l1Compare.l0 k x y ((i + 1 : Nat) : Int)) (cmpL (x.reverse.drop i) (y.reverse.drop i))
 | m, i, h, hiy => by
  have hj : ∀ k, spec_l1Compare.l0 (k + 1) x y ((i + 1 : Nat) : Int) = spec_l1Compare.j1 k x y ((i + 1 : Nat) : Int) (decide (i + 1 ≤ x.length ∧ i + 1 ≤ y.length)) := by
   intro k
   conv => lhs; unfold spec_l1Compare.l0
   by_cases hl : ((i + 1 : Nat) : Int) ≤ (x.length : Int)
   · rw [if_pos hl]
     congr 1
     rw [decide_eq_decide]; omega
   · rw [if_neg hl]
     congr 1
     rw [eq_comm, decide_eq_false_iff_not]; omega
  refine Ev.step hj ?_
  by_cases hd : i + 1 ≤ x.length ∧ i + 1 ≤ y.length
  · obtain ⟨m, rfl⟩ : ∃ m', m = m' + 1 := ⟨m - 1, by omega⟩
    have hrx : i < x.reverse.length := by rw [List.length_reverse]; omega
    have hry : i < y.reverse.length := by rw [List.length_reverse]; omega
    have ih := speccomp_loop x y hx hy m (i + 1) (by omega) (by omega)
    have hwx : wrap64 ((x.length : Int) - ((i + 1 : Nat) : Int)) = ((x.length - 1 - i : Nat) : Int) := by unfold wrap64; omega
    have hwy : wrap64 ((y.length : Int) - ((i + 1 : Nat) : Int)) = ((y.length - 1 - i : Nat) : Int) := by unfold wrap64; omega
    have gx : rdOf ByteArray.empty x ((x.length - 1 - i : Nat) : Int) = x.reverse[i] := by rw [rd_at _ _ (by omega), List.getElem_reverse]
    have gy : rdOf ByteArray.empty y ((y.length - 1 - i : Nat) : Int) = y.reverse[i] := by rw [rd_at _ _ (by omega), List.getElem_reverse]
    have hc : cmpL (x.reverse.drop i) (y.reverse.drop i) = if cmpP x.reverse[i] y.reverse[i] = 0 then cmpL (x.reverse.drop (i + 1)) (y.reverse.drop (i + 1)) else cmpP x.reverse[i] y.reverse[i] := by
     rw [List.drop_eq_getElem_cons hrx, List.drop_eq_getElem_cons hry]
     rfl
    refine Ev.step (f := fun k => if cmpP x.reverse[i] y.reverse[i] = 0 then spec_l1Compare.l0 k x y ((i + 1 + 1 : Nat) : Int) else some (cmpP x.reverse[i] y.reverse[i])) (fun k => ?_) ?_
    · rw [decide_eq_true hd]
      conv => lhs; unfold spec_l1Compare.j1
      rw [if_pos rfl, hwx, hwy, if_pos (by omega), if_pos (by omega), if_pos (by omega), if_pos (by omega), gx, gy, w64n (by omega)]
      unfold cmpP
      by_cases h1 : Op.bytesLess x.reverse[i].toList y.reverse[i].toList = true
      · rw [if_pos h1, if_pos h1]; rfl
      · rw [if_neg h1, if_neg h1]
        by_cases h2 : Op.bytesLess y.reverse[i].toList x.reverse[i].toList = true
        · rw [if_pos h2, if_pos h2]; rfl
        · rw [if_neg h2, if_neg h2]; rfl
    · rw [hc]
      by_cases h0 : cmpP x.reverse[i] y.reverse[i] = 0
      · simp only [if_pos h0]; exact ih
      · simp only [if_neg h0]; exact Ev.now _
  · refine Ev.step (f := fun _ => some _) (fun k => ?_) (Ev.now _)
    rw [decide_eq_false hd]
    conv => lhs; unfold spec_l1Compare.j1
    rw [if_neg (by simp)]
    have hcase : ∀ (p q : List ByteArray), (p = [] ∨ q = []) → cmpL p q = if p.length < q.length then -1 else if p.length > q.length then 1 else 0 := by
     intro p q hpq
     cases p <;> cases q <;> first | rfl | (simp at hpq)| (simp [cmpL])
    rw [hcase _ _ (by
     by_cases h1 : i + 1 ≤ x.length
     · right; apply List.drop_of_length_le; rw [List.length_reverse]; omega
     · left; apply List.drop_of_length_le; rw [List.length_reverse]; omega)]
    simp only [List.length_drop, List.length_reverse]
    by_cases h1 : (x.length : Int) < (y.length : Int)
    · rw [if_pos h1, if_pos (by omega)]
    · by_cases h2 : (x.length : Int) > (y.length : Int)
      · rw [if_neg h1, if_pos h2, if_neg (by omega), if_pos (by omega)]
      · rw [if_neg h1, if_neg h2, if_neg (by omega), if_neg (by omega)]
 termination_by m => m
/-- The order of two names. -/
def ordL (a b : List UInt8) : Int := cmpL ((labelsL a).map mkB).reverse ((labelsL b).map mkB).reverse
theorem labs_len (s : ByteArray) (hs : s.size ≤ 1048576) : ((labelsL s.data.toList).map mkB).length ≤ 1048577 := by
 rw [List.length_map]
 unfold labelsL
 split
 · simp
 · have := splitL_len 46 s.data.toList; rw [← size_len] at this; omega
theorem implComp_ev (a b : ByteArray) (ha : a.size ≤ 1048576) (hb : b.size ≤ 1048576) : Ev (fun k => impl_compareNames.f k a b) (ordL a.data.toList b.data.toList) := by
 have h1 := labs_len a ha
 have h2 := labs_len b hb
 refine Ev.congr (f := fun k => (slices_Reverse_string_string.f k ((labelsL a.data.toList).map mkB)).bind fun t151 => (slices_Reverse_string_string.f k ((labelsL b.data.toList).map mkB)).bind fun t152 => (slices_Compare_string_string.f k t151 t152).bind fun t153 => some t153) (fun k => ?_) ?_
 · unfold impl_compareNames.f
   rw [labelsOf_eq a (by omega), labelsOf_eq b (by omega)]
   rfl
 · refine Ev.bind (reverse_ev _ (by omega)) (Ev.bind (reverse_ev _ (by omega)) (Ev.bind (compare_ev _ _ ?_ ?_) (Ev.now _)))
   · rw [List.length_reverse]; omega
   · rw [List.length_reverse]; omega
theorem specComp_ev (a b : ByteArray) (ha : a.size ≤ 1048576) (hb : b.size ≤ 1048576) (ga : goodL a.data.toList = true) (gb : goodL b.data.toList = true) : Ev (fun k => spec_l1Compare.f k a b) (ordL a.data.toList b.data.toList) := by
 obtain ⟨r1, e1, e2, e3⟩ := labels_ev a (by omega)
 obtain ⟨r2, f1, f2, f3⟩ := labels_ev b (by omega)
 have h1 := labs_len a ha
 have h2 := labs_len b hb
 refine Ev.congr (fun k => rfl) (Ev.bind e1 (Ev.bind f1 ?_))
 rw [e3 (e2.trans ga), f3 (f2.trans gb)]
 exact speccomp_loop _ _ (by omega) (by omega) _ 0 (Nat.zero_add _) (by omega)
theorem nb_rd (l : List ByteArray) (i : Nat) (h : i < l.length) : rdOf ByteArray.empty l (i : Int) = l[i] := by
 unfold rdOf
 rw [Int.toNat_natCast, List.getD_eq_getElem?_getD, List.getElem?_eq_getElem h]
 rfl
theorem nb_loops (parts : List ByteArray) (hp : ∀ p ∈ parts, p.size ≤ 1000) (hl : parts.length ≤ 1000) : ∀ (m i : Nat) (acc : ByteArray), i + m = parts.length → acc.size + m * 1024 < 1099511627776 →
 ∃ r, Ev (fun k => impl_labelBytes.l0 k acc parts (parts.length : Int) (i : Int)) r ∧ Ev (fun k => spec_l2Bytes.l0 k acc parts (parts.length : Int) (i : Int)) (r ++ (⟨#[0]⟩ : ByteArray)) ∧ r.size = acc.size + ((parts.drop i).map fun p => 1 + p.size).sum ∧ r.size < 1099511627776
 | 0, i, acc, him, ha => by
  refine ⟨acc, Ev.step (f := fun _ => some acc) (fun k => ?_) (Ev.now _), Ev.step (f := fun _ => some (acc ++ (⟨#[0]⟩ : ByteArray))) (fun k => ?_) (Ev.now _), by rw [List.drop_of_length_le (by omega)]; rfl, by omega⟩
  · show impl_labelBytes.l0 (k + 1) acc parts (parts.length : Int) (i : Int) = _
    unfold impl_labelBytes.l0
    rw [if_neg (by omega)]
  · show spec_l2Bytes.l0 (k + 1) acc parts (parts.length : Int) (i : Int) = _
    unfold spec_l2Bytes.l0
    rw [if_neg (by omega), if_pos (by omega)]
 | m + 1, i, acc, him, ha => by
  have hi : i < parts.length := by omega
  have hs : ∀ v : Int, (strOfNums [v]).size = 1 := fun v => by rw [strOfNums_size]; rfl
  have hpi := hp _ (List.getElem_mem hi)
  obtain ⟨r, h1, h2, h3, h4⟩ := nb_loops parts hp hl m (i + 1) (acc ++ (strOfNums [((parts[i].size : Int)) % 256] ++ parts[i])) (by omega) (by
   rw [ByteArray.size_append, ByteArray.size_append, hs]; omega)
  refine ⟨r, Ev.step (fun k => ?_) h1, Ev.step (fun k => ?_) h2, ?_, h4⟩
  · show impl_labelBytes.l0 (k + 1) acc parts (parts.length : Int) (i : Int) = _
    conv => lhs; unfold impl_labelBytes.l0
    rw [if_pos (by omega), if_pos (by omega), if_pos (by omega), nb_rd _ _ hi, Option.bind_some, if_pos (by rw [hs]; omega), if_pos (by rw [ByteArray.size_append, hs]; omega), w64n (by omega)]
  · show spec_l2Bytes.l0 (k + 1) acc parts (parts.length : Int) (i : Int) = _
    conv => lhs; unfold spec_l2Bytes.l0
    rw [if_pos (by omega), if_pos (by omega), if_pos (by omega), nb_rd _ _ hi, Option.bind_some, if_pos (by rw [hs]; omega), if_pos (by rw [ByteArray.size_append, hs]; omega), w64n (by omega)]
  · rw [h3, ByteArray.size_append, ByteArray.size_append, hs, List.drop_eq_getElem_cons hi, List.map_cons, List.sum_cons]
    omega
theorem split_sum : ∀ l : List UInt8, ((splitL 46 l).map fun p => 1 + p.length).sum = l.length + 1
 | [] => rfl
 | x :: xs => by
  have ih := split_sum xs
  unfold splitL
  split
  · rw [List.map_cons, List.sum_cons, ih, List.length_cons, List.length_nil]
    omega
  · cases hs : splitL 46 xs with
    | nil => exact absurd hs (splitL_ne 46 xs)
    | cons p ps =>
     rw [hs, List.map_cons, List.sum_cons] at ih
     rw [List.map_cons, List.sum_cons, List.length_cons, List.length_cons]
     omega
theorem nb_both (s : ByteArray) (h : goodL s.data.toList = true) : ∃ r, Ev (fun k => impl_labelBytes.f k s) r ∧ Ev (fun k => spec_l2Bytes.f k s) (r ++ (⟨#[0]⟩ : ByteArray)) ∧ r.size = (if s.size = 0 then 0 else s.size + 1) := by
 have hg := good_size h
 have hss := size_len s
 obtain ⟨q, e1, e2, e3⟩ := labels_ev s (by omega)
 have e3 := e3 (e2.trans h)
 have hlen : (labelsL s.data.toList).length ≤ 61 := by
  unfold labelsL
  split
  · simp
  · have := splitL_len 46 s.data.toList; omega
 obtain ⟨r, h1, h2, h3, h4⟩ := nb_loops ((labelsL s.data.toList).map mkB) (by
  intro p hp
  obtain ⟨x, hx, rfl⟩ := List.mem_map.1 hp
  rw [mkB_size]
  unfold labelsL at hx
  split at hx
  · cases hx
  · have := splitL_part 46 _ x hx; omega) (by rw [List.length_map]; omega) _ 0 (⟨#[]⟩ : ByteArray) (Nat.zero_add _) (by rw [List.length_map]; show 0 + _ < _; omega)
 refine ⟨r, ?_, ?_, ?_⟩
 · refine Ev.congr (f := fun k => impl_labelBytes.l0 k (⟨#[]⟩ : ByteArray) ((labelsL s.data.toList).map mkB) (((labelsL s.data.toList).map mkB).length : Int) 0) (fun k => ?_) h1
   unfold impl_labelBytes.f
   rw [labelsOf_eq s (by omega)]
   rfl
 · refine Ev.congr (f := fun k => (spec_l1Labels.f k s).bind fun bt137 => (spec_l2Bytes.l0 k (⟨#[]⟩ : ByteArray) bt137.1 (bt137.1.length : Int) 0)) (fun k => rfl) (Ev.bind e1 ?_)
   rw [e3]
   exact h2
 · rw [h3, List.drop_zero, List.map_map]
   have e : ((fun p : ByteArray => 1 + p.size) ∘ mkB) = fun p => 1 + p.length := by funext p; show 1 + (mkB p).size = _; rw [mkB_size]
   rw [e]
   unfold labelsL
   by_cases h0 : s.data.toList = []
   · rw [if_pos h0, if_pos (by rw [hss, h0]; rfl)]; rfl
   · rw [if_neg h0, if_neg (by rw [hss]; have := List.length_pos_iff.2 h0; omega), split_sum, ← hss]
     show 0 + (s.size + 1) = _
     omega
end Go.Proofs.YtkpkfallgjdkmaaGreatDoor.Pure
namespace Go.Proofs.YtkpkfallgjdkmaaGreatDoor.P
open Go.RowKit Go.Proofs.YtkpkfallgjdkmaaGreatDoorW.PrintWords Go.Proofs.YtkpkfallgjdkmaaGreatDoorW.PrintLast Go.Proofs.YtkpkfallgjdkmaaGreatDoorW.PrintMore
attribute [local go_sem] max2_int min2_int max_two min_two max_three min_three max_four min_four
set_option linter.unusedVariables false
set_option linter.unusedSimpArgs false
def impl_GoodRecord.f (k : Nat) (a0_0 : ByteArray) (a0_1 : Int) (a0_2 : Int) (a0_3 : ByteArray) : Option (Bool) := (impl_GoodName.f a0_0).bind fun t550 => (if t550 = true then ((impl_within.f a0_2 0 100000).bind fun t551 => (if t551 = true then (if (a0_3.size : Int) > 100 then (some false) else ((impl_DataBytes.f k a0_1 a0_3).bind fun bt552 => (some bt552.2))) else (some false))) else (some false))
set_option maxHeartbeats 8000000 in
set_option maxRecDepth 100000 in
theorem impl_GoodRecord.calls (k : Nat) (a0_0 : ByteArray) (a0_1 : Int) (a0_2 : Int) (a0_3 : ByteArray) (r : Bool) (w : World) (h : impl_GoodRecord.f k a0_0 a0_1 a0_2 a0_3 = some r) (hv_ : Vars w := by exact vv_) :
 Calls Tryz.prog 106 #[.agg #[.string a0_0, .int .i64 a0_1, .int .i64 a0_2, .string a0_3]] w fun e w' => e = .returned (.bool r) ∧ Below w.heap.size w w' := by
 have HV_ := a0_ hv_
 clear hv_
 have hu72 := Tryz.underlying72
 have HB := a0_ (Below.refl w.heap.size w)
 have H : ((impl_GoodName.f a0_0).bind fun t550 => (if t550 = true then ((impl_within.f a0_2 0 100000).bind fun t551 => (if t551 = true then (if (a0_3.size : Int) > 100 then (some false) else ((impl_DataBytes.f k a0_1 a0_3).bind fun bt552 => (some bt552.2))) else (some false))) else (some false))) = some r := h
 clear h
 obtain ⟨t550, A20, H⟩ := Option.bind_eq_some_iff.mp H
 have A2 := a0_ A20
 clear A20
 by_cases c3 : t550 = true
 case neg =>
  replace c3 := Bool.eq_false_iff.mpr c3
  subst c3
  rw [if_neg (show ¬ (false = true) by decide)] at H
  obtain rfl := Option.some.inj H
  go_enter Tryz.func106, Tryz.ntmps106
  go_wp2_with (first | ((with_reducible refine gate_dst (N := 1) rfl ?_); (try (refine gate_guard (by rfl) ?_; dsimp only)); refine boxS_ 1 #[.string a0_0, .int .i64 a0_1, .int .i64 a0_2, .string a0_3] 72 (fun gb549 hg w21 hbox hb => ?_); have n0_ := a0_ (below_step bq0_ hb); have n1_ := a0_ (hbox); have n2_ := a0_ (gw_ hg : w.heap.size ≤ gb549); have n3_ := n2_; clear HB; have HB := n0_; have BK549 := n1_; have GW549 := n2_; have GE549 := n3_; clear n0_ n1_ n2_ n3_; clear hb hbox hg; obtain ⟨z22_0, z22_1, z22_2, z22_3, q22_0, q22_1, q22_2, q22_3⟩ := bk4_ BK549.out) | ((with_reducible refine gate_callee (f := 72) rfl ?_); refine goesL_ (some 7) rfl rfl Tryz.func72 (by kernel_rfl) rfl #[.string a0_0] rfl argsS_ ?_; (with_reducible refine (impl_GoodName.calls a0_0 false _ A2.out).mono ?_); rintro e w23 ⟨rfl, hb⟩; refine ⟨_, rfl, ?_⟩; replace BK549 := a0_ (bkB_ BK549 hb); replace HB := a0_ (below_step bq1_ hb); (try clear hb); (try clear hb2); (try clear hk); (try clear hi)))
  go_ret
  exact ⟨rr_, bq1_⟩
 subst c3
 rw [if_pos rfl] at H
 obtain ⟨t551, A40, H⟩ := Option.bind_eq_some_iff.mp H
 have A4 := a0_ A40
 clear A40
 by_cases c5 : t551 = true
 case neg =>
  replace c5 := Bool.eq_false_iff.mpr c5
  subst c5
  rw [if_neg (show ¬ (false = true) by decide)] at H
  obtain rfl := Option.some.inj H
  go_enter Tryz.func106, Tryz.ntmps106
  go_wp2_with (first | ((with_reducible refine gate_dst (N := 1) rfl ?_); (try (refine gate_guard (by rfl) ?_; dsimp only)); refine boxS_ 1 #[.string a0_0, .int .i64 a0_1, .int .i64 a0_2, .string a0_3] 72 (fun gb549 hg w17 hbox hb => ?_); have n0_ := a0_ (below_step bq0_ hb); have n1_ := a0_ (hbox); have n2_ := a0_ (gw_ hg : w.heap.size ≤ gb549); have n3_ := n2_; clear HB; have HB := n0_; have BK549 := n1_; have GW549 := n2_; have GE549 := n3_; clear n0_ n1_ n2_ n3_; clear hb hbox hg; obtain ⟨z18_0, z18_1, z18_2, z18_3, q18_0, q18_1, q18_2, q18_3⟩ := bk4_ BK549.out) | ((with_reducible refine gate_callee (f := 72) rfl ?_); refine goesL_ (some 7) rfl rfl Tryz.func72 (by kernel_rfl) rfl #[.string a0_0] rfl argsS_ ?_; (with_reducible refine (impl_GoodName.calls a0_0 true _ A2.out).mono ?_); rintro e w19 ⟨rfl, hb⟩; refine ⟨_, rfl, ?_⟩; replace BK549 := a0_ (bkB_ BK549 hb); replace HB := a0_ (below_step bq1_ hb); (try clear hb); (try clear hb2); (try clear hk); (try clear hi); obtain ⟨z20_0, z20_1, z20_2, z20_3, q20_0, q20_1, q20_2, q20_3⟩ := bk4_ BK549.out) | (go_at_call 78; (with_reducible refine (impl_within.calls a0_2 0 100000 false _ A4.out).mono ?_); rintro e w' ⟨rfl, ⟨nd, rfl⟩⟩))
  go_ret
  exact ⟨rr_, bq1_⟩
 subst c5
 rw [if_pos rfl] at H
 by_cases c6 : (a0_3.size : Int) > 100
 case pos =>
  rw [if_pos c6] at H
  have c6b0 := decide_eq_true c6
  have c6b1 : decide (100 < a0_3.size) = true := decide_eq_true (by omega)
  clear c6
  obtain rfl := Option.some.inj H
  go_enter Tryz.func106, Tryz.ntmps106
  go_wp2_with (first | ((with_reducible refine gate_dst (N := 1) rfl ?_); (try (refine gate_guard (by rfl) ?_; dsimp only)); refine boxS_ 1 #[.string a0_0, .int .i64 a0_1, .int .i64 a0_2, .string a0_3] 72 (fun gb549 hg w7 hbox hb => ?_); have n0_ := a0_ (below_step bq0_ hb); have n1_ := a0_ (hbox); have n2_ := a0_ (gw_ hg : w.heap.size ≤ gb549); have n3_ := n2_; clear HB; have HB := n0_; have BK549 := n1_; have GW549 := n2_; have GE549 := n3_; clear n0_ n1_ n2_ n3_; clear hb hbox hg; obtain ⟨z8_0, z8_1, z8_2, z8_3, q8_0, q8_1, q8_2, q8_3⟩ := bk4_ BK549.out) | ((with_reducible refine gate_callee (f := 72) rfl ?_); refine goesL_ (some 7) rfl rfl Tryz.func72 (by kernel_rfl) rfl #[.string a0_0] rfl argsS_ ?_; (with_reducible refine (impl_GoodName.calls a0_0 true _ A2.out).mono ?_); rintro e w9 ⟨rfl, hb⟩; refine ⟨_, rfl, ?_⟩; replace BK549 := a0_ (bkB_ BK549 hb); replace HB := a0_ (below_step bq1_ hb); (try clear hb); (try clear hb2); (try clear hk); (try clear hi); obtain ⟨z10_0, z10_1, z10_2, z10_3, q10_0, q10_1, q10_2, q10_3⟩ := bk4_ BK549.out) | (go_at_call 78; (with_reducible refine (impl_within.calls a0_2 0 100000 true _ A4.out).mono ?_); rintro e w' ⟨rfl, ⟨nd, rfl⟩⟩))
  go_ret
  exact ⟨rr_, bq1_⟩
 rw [if_neg c6] at H
 have c6b0 := decide_eq_false c6
 have c6b1 : decide (100 < a0_3.size) = false := decide_eq_false (by omega)
 clear c6
 obtain ⟨⟨t552, t553⟩, A110, H⟩ := Option.bind_eq_some_iff.mp H
 have A11 := a0_ A110
 clear A110
 obtain rfl := Option.some.inj H
 go_enter Tryz.func106, Tryz.ntmps106
 go_wp2_with (first | ((with_reducible refine gate_dst (N := 1) rfl ?_); (try (refine gate_guard (by rfl) ?_; dsimp only)); refine boxS_ 1 #[.string a0_0, .int .i64 a0_1, .int .i64 a0_2, .string a0_3] 72 (fun gb549 hg w12 hbox hb => ?_); have n0_ := a0_ (below_step bq0_ hb); have n1_ := a0_ (hbox); have n2_ := a0_ (gw_ hg : w.heap.size ≤ gb549); have n3_ := n2_; clear HB; have HB := n0_; have BK549 := n1_; have GW549 := n2_; have GE549 := n3_; clear n0_ n1_ n2_ n3_; clear hb hbox hg; obtain ⟨z13_0, z13_1, z13_2, z13_3, q13_0, q13_1, q13_2, q13_3⟩ := bk4_ BK549.out) | ((with_reducible refine gate_callee (f := 72) rfl ?_); refine goesL_ (some 7) rfl rfl Tryz.func72 (by kernel_rfl) rfl #[.string a0_0] rfl argsS_ ?_; (with_reducible refine (impl_GoodName.calls a0_0 true _ A2.out).mono ?_); rintro e w14 ⟨rfl, hb⟩; refine ⟨_, rfl, ?_⟩; replace BK549 := a0_ (bkB_ BK549 hb); replace HB := a0_ (below_step bq1_ hb); (try clear hb); (try clear hb2); (try clear hk); (try clear hi); obtain ⟨z15_0, z15_1, z15_2, z15_3, q15_0, q15_1, q15_2, q15_3⟩ := bk4_ BK549.out) | (go_at_call 78; (with_reducible refine (impl_within.calls a0_2 0 100000 true _ A4.out).mono ?_); rintro e w' ⟨rfl, ⟨nd, rfl⟩⟩) | ((with_reducible refine gate_callee (f := 121) rfl ?_); refine goesL_ (some 26) rfl rfl Tryz.func121 (by kernel_rfl) rfl #[.int .i64 a0_1, .string a0_3] rfl argsS_ ?_; (with_reducible refine (impl_DataBytes.calls k a0_1 a0_3 t552 t553 _ A11.out).mono ?_); rintro e w16 ⟨rfl, hb⟩; refine ⟨_, rfl, ?_⟩; replace BK549 := a0_ (bkB_ BK549 hb); replace HB := a0_ (below_step bq1_ hb); (try clear hb); (try clear hb2); (try clear hk); (try clear hi)))
 go_ret
 exact ⟨rr_, bq1_⟩
def impl_dataBytes.f (k : Nat) (a0 : Int) (a1 : ByteArray) : Option (ByteArray) := (impl_DataBytes.f k a0 a1).bind fun bt583 => (if bt583.2 = true then (some bt583.1) else (some (⟨#[]⟩ : ByteArray)))
set_option maxHeartbeats 8000000 in
set_option maxRecDepth 100000 in
theorem impl_dataBytes.calls (k : Nat) (a0 : Int) (a1 : ByteArray) (r : ByteArray) (w : World) (h : impl_dataBytes.f k a0 a1 = some r) (hv_ : Vars w := by exact vv_) :
 Calls Tryz.prog 130 #[.int .i64 a0, .string a1] w fun e w' => e = .returned (.string r) ∧ Below w.heap.size w w' := by
 have HV_ := a0_ hv_
 clear hv_
 have HB := a0_ (Below.refl w.heap.size w)
 have H : ((impl_DataBytes.f k a0 a1).bind fun bt583 => (if bt583.2 = true then (some bt583.1) else (some (⟨#[]⟩ : ByteArray)))) = some r := h
 clear h
 obtain ⟨⟨t583, t584⟩, A30, H⟩ := Option.bind_eq_some_iff.mp H
 have A3 := a0_ A30
 clear A30
 by_cases c4 : t584 = true
 case pos =>
  subst c4
  rw [if_pos rfl] at H
  obtain rfl := Option.some.inj H
  go_enter Tryz.func130, Tryz.ntmps130
  go_wp2_with (first | ((with_reducible refine gate_callee (f := 121) rfl ?_); refine goesL_ (some 10) rfl rfl Tryz.func121 (by kernel_rfl) rfl #[.int .i64 a0, .string a1] rfl argsS_ ?_; (with_reducible refine (impl_DataBytes.calls k a0 a1 t583 true _ A3.out).mono ?_); rintro e w5 ⟨rfl, hb⟩; refine ⟨_, rfl, ?_⟩; replace HB := a0_ (below_step bq0_ hb); (try clear hb); (try clear hb2); (try clear hk); (try clear hi)))
  go_ret
  exact ⟨rr_, bq0_⟩
 replace c4 := Bool.eq_false_iff.mpr c4
 subst c4
 rw [if_neg (show ¬ (false = true) by decide)] at H
 obtain rfl := Option.some.inj H
 go_enter Tryz.func130, Tryz.ntmps130
 go_wp2_with (first | ((with_reducible refine gate_callee (f := 121) rfl ?_); refine goesL_ (some 10) rfl rfl Tryz.func121 (by kernel_rfl) rfl #[.int .i64 a0, .string a1] rfl argsS_ ?_; (with_reducible refine (impl_DataBytes.calls k a0 a1 t583 false _ A3.out).mono ?_); rintro e w6 ⟨rfl, hb⟩; refine ⟨_, rfl, ?_⟩; replace HB := a0_ (below_step bq0_ hb); (try clear hb); (try clear hb2); (try clear hk); (try clear hi)))
 go_ret
 exact ⟨rr_, bq0_⟩
def spec_l4Records.l0 : Nat → List (S72) → List (S72) → Int → Int → Option (Bool)
 | 0, _, _, _, _ => none
 | k + 1, x0, x5, x6, x7 => if x7 < x6 then (if 0 ≤ x7 then (if x7 < (x5.length : Int) then ((spec_GoodRecord.f k ((rd_T72 x5 x7).f0) ((rd_T72 x5 x7).f1) ((rd_T72 x5 x7).f2) ((rd_T72 x5 x7).f3)).bind fun t175 => (if t175 = true then (spec_l4Records.l0 k x0 x5 x6 (wrap64 (x7 + 1))) else (some false))) else (none)) else (none)) else (some (decide ((x0.length : Int) ≤ 12)))
def spec_l4Records.f (k : Nat) (l0 : List (S72)) : Option (Bool) := spec_l4Records.l0 k l0 l0 (l0.length : Int) 0
def spec_RuleOf.f (k : Nat) (a0 : ByteArray) (l1 : List (S72)) : Option (Int) := (spec_l6Apex.f k a0).bind fun t718 => (if t718 = true then ((spec_l6List.f k l1).bind fun t719 => (if t719 = true then ((spec_l6Rule.f k a0 l1).bind fun t720 => (some t720)) else (some 9))) else (some 9))
set_option maxHeartbeats 8000000 in
set_option maxRecDepth 100000 in
theorem spec_RuleOf.calls (k : Nat) (a0 : ByteArray) (A1 : Option Addr) (c1 : Nat) (l1 : List (S72)) (r : Int) (w : World) (hr1 : Kd.C k72 w A1 l1.length l1) (hc1 : l1.length ≤ c1) (h : spec_RuleOf.f k a0 l1 = some r) :
 Calls Tryz.prog 30 #[.string a0, .slice A1 l1.length c1] w fun e w' => e = .returned (.int .i64 r) ∧ Below w.heap.size w w' := by
 have HR1 := a0_ hr1
 have HC1 := a0_ hc1
 clear hr1 hc1
 have HB := a0_ (Below.refl w.heap.size w)
 have H : ((spec_l6Apex.f k a0).bind fun t718 => (if t718 = true then ((spec_l6List.f k l1).bind fun t719 => (if t719 = true then ((spec_l6Rule.f k a0 l1).bind fun t720 => (some t720)) else (some 9))) else (some 9))) = some r := h
 clear h
 obtain ⟨t718, A30, H⟩ := Option.bind_eq_some_iff.mp H
 have A3 := a0_ A30
 clear A30
 by_cases c4 : t718 = true
 case neg =>
  replace c4 := Bool.eq_false_iff.mpr c4
  subst c4
  rw [if_neg (show ¬ (false = true) by decide)] at H
  obtain rfl := Option.some.inj H
  go_enter Tryz.func30, Tryz.ntmps30
  go_wp2_with (first | ((with_reducible refine gate_callee (f := 55) rfl ?_); refine goesL_ (some 6) rfl rfl Tryz.func55 (by kernel_rfl) rfl #[.string a0] rfl argsS_ ?_; (with_reducible refine (spec_l6Apex.calls k a0 false _ A3.out).mono ?_); rintro e w13 ⟨rfl, hb⟩; refine ⟨_, rfl, ?_⟩; replace HB := a0_ (below_step bq0_ hb); (try clear hb); (try clear hb2); (try clear hk); (try clear hi)))
  go_ret
  exact ⟨rr_, bq0_⟩
 subst c4
 rw [if_pos rfl] at H
 obtain ⟨t719, A50, H⟩ := Option.bind_eq_some_iff.mp H
 have A5 := a0_ A50
 clear A50
 by_cases c6 : t719 = true
 case neg =>
  replace c6 := Bool.eq_false_iff.mpr c6
  subst c6
  rw [if_neg (show ¬ (false = true) by decide)] at H
  obtain rfl := Option.some.inj H
  go_enter Tryz.func30, Tryz.ntmps30
  go_wp2_with (first | ((with_reducible refine gate_callee (f := 55) rfl ?_); refine goesL_ (some 6) rfl rfl Tryz.func55 (by kernel_rfl) rfl #[.string a0] rfl argsS_ ?_; (with_reducible refine (spec_l6Apex.calls k a0 true _ A3.out).mono ?_); rintro e w11 ⟨rfl, hb⟩; refine ⟨_, rfl, ?_⟩; replace HB := a0_ (below_step bq0_ hb); (try clear hb); (try clear hb2); (try clear hk); (try clear hi)) | (go_at_call 56; (with_reducible refine (spec_l6List.calls k _ _ l1 false _ ?side1 ?side2 A5.out).mono ?_); (case side1 => exact kC_ HR1.out HB.out); (case side2 => exact HC1.out); rintro e w12 ⟨rfl, hb⟩; replace HB := a0_ (below_step bq0_ hb); (try clear hb); (try clear hb2); (try clear hk); (try clear hi)))
  go_ret
  exact ⟨rr_, bq0_⟩
 subst c6
 rw [if_pos rfl] at H
 obtain ⟨t720, A70, H⟩ := Option.bind_eq_some_iff.mp H
 have A7 := a0_ A70
 clear A70
 obtain rfl := Option.some.inj H
 go_enter Tryz.func30, Tryz.ntmps30
 go_wp2_with (first | ((with_reducible refine gate_callee (f := 55) rfl ?_); refine goesL_ (some 6) rfl rfl Tryz.func55 (by kernel_rfl) rfl #[.string a0] rfl argsS_ ?_; (with_reducible refine (spec_l6Apex.calls k a0 true _ A3.out).mono ?_); rintro e w8 ⟨rfl, hb⟩; refine ⟨_, rfl, ?_⟩; replace HB := a0_ (below_step bq0_ hb); (try clear hb); (try clear hb2); (try clear hk); (try clear hi)) | (go_at_call 56; (with_reducible refine (spec_l6List.calls k _ _ l1 true _ ?side1 ?side2 A5.out).mono ?_); (case side1 => exact kC_ HR1.out HB.out); (case side2 => exact HC1.out); rintro e w9 ⟨rfl, hb⟩; replace HB := a0_ (below_step bq0_ hb); (try clear hb); (try clear hb2); (try clear hk); (try clear hi)) | ((with_reducible refine gate_callee (f := 57) rfl ?_); refine goesL_ (some 15) rfl rfl Tryz.func57 (by kernel_rfl) rfl #[.string a0, .slice A1 l1.length c1] rfl argsS_ ?_; (with_reducible refine (spec_l6Rule.calls k a0 _ _ l1 t720 _ ?side1 ?side2 A7.out).mono ?_); (case side1 => exact kC_ HR1.out HB.out); (case side2 => exact HC1.out); rintro e w10 ⟨rfl, hb⟩; refine ⟨_, rfl, ?_⟩; replace HB := a0_ (below_step bq0_ hb); (try clear hb); (try clear hb2); (try clear hk); (try clear hi)))
 go_ret
 exact ⟨rr_, bq0_⟩
end Go.Proofs.YtkpkfallgjdkmaaGreatDoor.P
namespace Go.Proofs.YtkpkfallgjdkmaaGreatDoor.Pure
open Go.RowKit Go.Proofs.YtkpkfallgjdkmaaGreatDoor.P Go.Proofs.YtkpkfallgjdkmaaGreatDoorW.PrintWords Go.Proofs.YtkpkfallgjdkmaaGreatDoorW.PrintLast
set_option linter.unusedVariables false
set_option linter.unusedSimpArgs false
def Bel (a b : List UInt8) : Prop := b = [] ∨ a = b ∨ (46 :: b) <:+ a
theorem bel_iff (a b : List UInt8) : belowL a b = true ↔ Bel a b := by
 unfold belowL Bel
 simp only [Bool.or_eq_true, Bool.and_eq_true, beq_iff_eq, decide_eq_true_eq]
 constructor
 · rintro (h | h | ⟨h1, h2⟩)
   · exact .inl h
   · exact .inr (.inl h)
   · refine .inr (.inr ?_)
     rw [← h2]
     exact List.drop_suffix _ _
 · rintro (h | h | h)
   · exact .inl h
   · exact .inr (.inl h)
   · have h1 := h.length_le
     rw [List.length_cons] at h1
     refine .inr (.inr ⟨by omega, ?_⟩)
     rw [List.suffix_iff_eq_drop] at h
     rw [List.length_cons, show a.length - (b.length + 1) = a.length - b.length - 1 by omega] at h
     exact h.symm
theorem bel_refl (a : List UInt8) : Bel a a := .inr (.inl rfl)
theorem bel_trans {a b c : List UInt8} (h : Bel a b) (k : Bel b c) : Bel a c := by
 rcases k with rfl | rfl | k
 · exact .inl rfl
 · exact h
 · rcases h with rfl | rfl | h
   · have := k.length_le; simp at this
   · exact .inr (.inr k)
   · exact .inr (.inr (k.trans ((List.suffix_cons 46 b).trans h)))
theorem bel_len {a b : List UInt8} (h : Bel a b) : b.length ≤ a.length := by
 rcases h with rfl | rfl | h
 · simp
 · exact Nat.le_refl _
 · have := h.length_le; simp at this; omega
theorem bel_anti {a b : List UInt8} (h : Bel a b) (k : Bel b a) : a = b := by
 rcases h with rfl | h | h
 · have := bel_len k; exact List.eq_nil_of_length_eq_zero (by simpa using this)
 · exact h
 · have h1 := h.length_le
   have h2 := bel_len k
   simp at h1
   omega
theorem par_or (s : List UInt8) : (parL s = [] ∧ ∀ x ∈ s, x ≠ 46) ∨ ∃ p, s = p ++ 46 :: parL s ∧ ∀ x ∈ p, x ≠ 46 := by
 rcases place_or 46 s with ⟨_, h⟩ | ⟨p, r, h1, h2, _⟩
 · exact .inl ⟨parL_none s h, h⟩
 · refine .inr ⟨p, ?_, h2⟩
   have e : parL s = r := by rw [h1]; exact parL_hit p r h2
   rw [e]
   exact h1
theorem bel_par (s : List UInt8) : Bel s (parL s) := by
 rcases par_or s with ⟨h, _⟩ | ⟨p, h, _⟩
 · exact .inl h
 · exact .inr (.inr ⟨p, h.symm⟩)
theorem bel_step {a t : List UInt8} (h : Bel a t) : a = t ∨ Bel (parL a) t := by
 rcases h with rfl | h | h
 · exact .inr (.inl rfl)
 · exact .inl h
 · right
   obtain ⟨q, hq⟩ := h
   rcases par_or a with ⟨_, hn⟩ | ⟨p, hp, hpn⟩
   · exact absurd rfl (hn 46 (by rw [← hq]; simp))
   · rw [hp] at hq
     -- q ++ 46 :: t = p ++ 46 :: parL a
     rcases List.append_eq_append_iff.1 hq with ⟨m, h1, h2⟩ | ⟨m, h1, h2⟩
     · cases m with
       | nil =>
        simp at h2
        exact .inr (.inl h2.symm)
       | cons x m =>
        simp at h2
        exact absurd h2.1.symm (hpn x (by rw [h1]; simp))
     · cases m with
       | nil =>
        simp at h2
        exact .inr (.inl h2)
       | cons x m =>
        simp at h2
        exact .inr (.inr ⟨m, h2.2.symm⟩)
/-- The longest name that two names are below. -/
def comL (b : List UInt8) : Nat → List UInt8 → List UInt8
 | 0, a => a
 | n + 1, a => if belowL b a = true then a else comL b n (parL a)
def common (a b : List UInt8) : List UInt8 := comL b (a.length + 1) a
theorem cmpP_lt (a b : ByteArray) : cmpP a b = if a.data.toList < b.data.toList then -1 else if b.data.toList < a.data.toList then 1 else 0 := by
 unfold cmpP
 rw [Go.Proofs.bytesLess_eq, Go.Proofs.bytesLess_eq, Lib.toList_data, Lib.toList_data]
 simp only [decide_eq_true_eq]
theorem lst_tri (a b : List UInt8) : a < b ∨ a = b ∨ b < a := by
 by_cases h1 : a < b
 · exact .inl h1
 · by_cases h2 : b < a
   · exact .inr (.inr h2)
   · exact .inr (.inl (List.le_antisymm h2 h1))
theorem cmpP_zero (a b : ByteArray) : cmpP a b = 0 ↔ a = b := by
 rw [cmpP_lt]
 rcases lst_tri a.data.toList b.data.toList with h | h | h
 · rw [if_pos h]
   refine ⟨fun h0 => by omega, fun e => ?_⟩
   rw [e] at h
   exact absurd h (List.lt_irrefl _)
 · have hn : ¬ a.data.toList < b.data.toList := by rw [h]; exact List.lt_irrefl _
   have hn2 : ¬ b.data.toList < a.data.toList := by rw [h]; exact List.lt_irrefl _
   rw [if_neg hn, if_neg hn2]
   exact ⟨fun _ => ext_data h, fun _ => rfl⟩
 · have hn : ¬ a.data.toList < b.data.toList := fun h' => absurd (List.lt_trans h h') (List.lt_irrefl _)
   rw [if_neg hn, if_pos h]
   refine ⟨fun h0 => by omega, fun e => ?_⟩
   rw [e] at h
   exact absurd h (List.lt_irrefl _)
theorem cmpP_less (a b : ByteArray) : cmpP a b < 0 ↔ a.data.toList < b.data.toList := by
 rw [cmpP_lt]
 by_cases h : a.data.toList < b.data.toList
 · rw [if_pos h]; exact ⟨fun _ => h, fun _ => by decide⟩
 · rw [if_neg h]
   refine ⟨fun h' => ?_, fun h' => absurd h' h⟩
   split at h' <;> omega
theorem cmpP_trans {a b c : ByteArray} (h : cmpP a b < 0) (h' : cmpP b c < 0) : cmpP a c < 0 := by
 rw [cmpP_less] at *
 exact List.lt_trans h h'
theorem cmpL_zero : ∀ x y : List ByteArray, cmpL x y = 0 ↔ x = y
 | [], [] => ⟨fun _ => rfl, fun _ => rfl⟩
 | [], _ :: _ => ⟨fun h => by simp [cmpL] at h, fun h => by cases h⟩
 | _ :: _, [] => ⟨fun h => by simp [cmpL] at h, fun h => by cases h⟩
 | a :: x, b :: y => by
  unfold cmpL
  by_cases h : cmpP a b = 0
  · rw [if_pos h, cmpL_zero x y, (cmpP_zero a b).1 h]
    exact ⟨fun e => by rw [e], fun e => by injection e⟩
  · rw [if_neg h]
    refine ⟨fun e => absurd e h, fun e => ?_⟩
    injection e with e1 e2
    exact absurd ((cmpP_zero a b).2 e1) h
theorem cmpL_trans : ∀ x y z : List ByteArray, cmpL x y < 0 → cmpL y z < 0 → cmpL x z < 0
 | [], [], z, h, h' => by simp [cmpL] at h
 | [], _ :: _, [], h, h' => by simp [cmpL] at h'
 | [], _ :: _, _ :: _, h, h' => by simp [cmpL]
 | _ :: _, [], z, h, h' => by simp [cmpL] at h
 | _ :: _, _ :: _, [], h, h' => by simp [cmpL] at h'
 | a :: x, b :: y, c :: z, h, h' => by
  unfold cmpL at h h' ⊢
  by_cases h1 : cmpP a b = 0
  · rw [if_pos h1] at h
    obtain rfl := (cmpP_zero a b).1 h1
    by_cases h2 : cmpP a c = 0
    · rw [if_pos h2] at h' ⊢
      exact cmpL_trans x y z h h'
    · rw [if_neg h2] at h' ⊢
      exact h'
  · rw [if_neg h1] at h
    by_cases h2 : cmpP b c = 0
    · obtain rfl := (cmpP_zero b c).1 h2
      rw [if_neg h1]
      exact h
    · rw [if_neg h2] at h'
      have h3 := cmpP_trans h h'
      rw [if_neg (by omega)]
      exact h3
/-- The text of parts with dots between. -/
def unO : List (List UInt8) → List UInt8
 | [] => []
 | [p] => p
 | p :: q :: r => p ++ 46 :: unO (q :: r)
theorem unO_split : ∀ s : List UInt8, unO (splitL 46 s) = s
 | [] => rfl
 | x :: xs => by
  have ih := unO_split xs
  obtain ⟨p, ps, hp⟩ := List.exists_cons_of_ne_nil (splitL_ne 46 xs)
  unfold splitL
  rw [hp] at ih ⊢
  by_cases h : x = 46
  · rw [if_pos h]
    show [] ++ 46 :: unO (p :: ps) = _
    rw [ih, h]
    rfl
  · rw [if_neg h]
    cases ps with
    | nil => show x :: p = _; rw [show p = xs from ih]
    | cons q r =>
     show (x :: p) ++ 46 :: unO (q :: r) = _
     have ih2 : p ++ 46 :: unO (q :: r) = xs := ih
     rw [List.cons_append, ih2]
theorem labels_inj {a b : List UInt8} (h : labelsL a = labelsL b) : a = b := by
 unfold labelsL at h
 by_cases ha : a = []
 · rw [if_pos ha] at h
   by_cases hb : b = []
   · rw [ha, hb]
   · rw [if_neg hb] at h
     exact absurd h.symm (splitL_ne 46 b)
 · rw [if_neg ha] at h
   by_cases hb : b = []
   · rw [if_pos hb] at h
     exact absurd h (splitL_ne 46 a)
   · rw [if_neg hb] at h
     rw [← unO_split a, ← unO_split b, h]
theorem ord_zero (a b : List UInt8) : ordL a b = 0 ↔ a = b := by
 unfold ordL
 rw [cmpL_zero]
 refine ⟨fun h => ?_, fun h => by rw [h]⟩
 have h1 := List.reverse_inj.1 h
 refine labels_inj ?_
 have h2 := congrArg (List.map fun x : ByteArray => x.data.toList) h1
 rw [List.map_map, List.map_map] at h2
 have : ((fun x : ByteArray => x.data.toList) ∘ mkB) = id := by funext z; exact mkB_data z
 rwa [this, List.map_id, List.map_id] at h2
theorem ord_trans {a b c : List UInt8} (h : ordL a b < 0) (h' : ordL b c < 0) : ordL a c < 0 := cmpL_trans _ _ _ h h'
/-- One name ahead of another one, or the same. -/
def leN (x y : List UInt8) : Bool := !decide (ordL y x < 0)
/-- Names in order, each once. -/
def sortL (l : List (List UInt8)) : List (List UInt8) := Lib.compact (l.mergeSort leN)
/-- What SortNames returns. -/
def sortR (l : List ByteArray) : List ByteArray × Bool :=
 if decide (l.length ≤ 60) && l.all (fun x => goodL x.data.toList) then ((sortL (l.map (·.data.toList))).map mkB, true) else ([], false)
end Go.Proofs.YtkpkfallgjdkmaaGreatDoor.Pure
