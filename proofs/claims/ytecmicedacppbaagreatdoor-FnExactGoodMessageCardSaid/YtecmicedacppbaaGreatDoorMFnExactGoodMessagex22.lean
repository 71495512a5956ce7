/- FnExactGoodMessage: part 23 of 23 of my texts for this claim, joined; the theorem stands in the last. Conditions: none beyond the statement's. -/
import Derived.Test.YtecmicedacppbaaGreatDoorMFnExactGoodMessagex21
import Derived.Test.YtecmicedacppbaaGreatDoorMFnExactGoodMessagex14
import Derived.Test.YtecmicedacppbaaGreatDoorMFnExactGoodMessagex8
import Derived.Test.YtecmicedacppbaaGreatDoorMFnExactGoodMessagex15
import Derived.Test.YtecmicedacppbaaGreatDoorMFnExactGoodMessagex10
import Derived.Test.YtecmicedacppbaaGreatDoorMFnExactGoodMessagex3
import Derived.Test.YtecmicedacppbaaGreatDoorMFnExactGoodMessagex18
import Derived.Test.YtecmicedacppbaaGreatDoorMFnExactGoodMessagex19
import Derived.Test.YtecmicedacppbaaGreatDoorMFnExactGoodMessagex2
import Derived.WalkKit
import Derived.ProofKit
import Derived.OpenShut
import Derived.ShutString
import Derived.ChangeOld
import Derived.Below
import Derived.SizedLaws
import Derived.Lib.SmallJoins
import Derived.Deep.Slices
import Derived.Test.YtecmicedacppbaaGreatDoorCards
import Derived.Test.YtecmicedacppbaaGreatDoorTie
import Derived.Deep.DeepHandedRow
import Derived.Stop.LaidErr
import Derived.Lib.LaidTab
import Derived.Lib.ItoaNum
-- PureMsg
/- Messages: the reference and the program tell good ones alike; a law's own copies. Conditions: the sizes. -/
namespace Go.Proofs.YtecmicedacppbaaGreatDoor.Pure
open Go.RowKit Go.Proofs.YtecmicedacppbaaGreatDoor.P Go.Proofs.YtecmicedacppbaaGreatDoorW.PrintWords Go.Proofs.YtecmicedacppbaaGreatDoorW.PrintLast Go.Proofs.YtecmicedacppbaaGreatDoorW.PrintMore
set_option linter.unusedVariables false
set_option linter.unusedSimpArgs false
abbrev LRec := S23
abbrev IRec := S27
def conv (x : LRec) : IRec := ⟨x.f0, x.f1, x.f2, x.f3⟩
theorem rdL (l : List LRec) (i : Nat) (h : i < l.length) : rd_T23 l (i : Int) = l[i] := by
  unfold rd_T23
  rw [Int.toNat_natCast, List.getD_eq_getElem?_getD, List.getElem?_eq_getElem h, Option.getD_some]
theorem rdI (l : List IRec) (i : Nat) (h : i < l.length) : rd_T27 l (i : Int) = l[i] := by
  unfold rd_T27
  rw [Int.toNat_natCast, List.getD_eq_getElem?_getD, List.getElem?_eq_getElem h, Option.getD_some]
def Small (x : ByteArray) : Prop := x.size ≤ 1048576
theorem szS_loop (l : List LRec) (hl : l.length < 1099511627776) (hs : ∀ y ∈ l, y.f0.size ≤ maxLen ∧ y.f3.size ≤ maxLen) : ∀ (m i : Nat) (left : Int), i + m = l.length → 0 ≤ left → left ≤ 1048576 →
    ∃ t, Ev (fun k => laws_szRecordS.l0 k l left (i : Int)) t ∧ (0 ≤ t → t ≤ left ∧ ∀ (j : Nat) (h : j < l.length), i ≤ j → l[j].f0.size ≤ 1048576 ∧ l[j].f3.size ≤ 1048576)
  | 0, i, left, hi, h0, h1 => by
    refine ⟨left, Ev.step (f := fun _ => some left) (fun k => ?_) (Ev.now _), fun _ => ⟨Int.le_refl _, fun j h hij => absurd h (by omega)⟩⟩
    show laws_szRecordS.l0 (k + 1) l left (i : Int) = _
    rw [laws_szRecordS.l0, if_neg (by omega)]
  | m + 1, i, left, hi, h0, h1 => by
    have hlt : i < l.length := by omega
    have hx := hs _ (List.getElem_mem hlt)
    obtain ⟨t, e, ht⟩ := szRecAt left h0 h1 l[i].f0 l[i].f1 l[i].f2 l[i].f3 hx.1 hx.2
    have hw : wrap64 ((i : Int) + 1) = ((i + 1 : Nat) : Int) := w64n (by omega)
    by_cases hn : t < 0
    · refine ⟨-1, Ev.step (f := fun _ => some (-1)) (fun k => ?_) (Ev.now _), fun h => absurd h (by omega)⟩
      show laws_szRecordS.l0 (k + 1) l left (i : Int) = _
      rw [laws_szRecordS.l0, if_pos (by omega), if_pos (by omega), rdL l i hlt, e, Option.bind_some, if_pos hn]
    · obtain ⟨g1, g2, g3⟩ := ht (by omega)
      obtain ⟨t', e', ht'⟩ := szS_loop l hl hs m (i + 1) t (by omega) (by omega) (by omega)
      refine ⟨t', Ev.step (f := fun k => laws_szRecordS.l0 k l t ((i + 1 : Nat) : Int)) (fun k => ?_) e', fun h => ?_⟩
      · show laws_szRecordS.l0 (k + 1) l left (i : Int) = _
        rw [laws_szRecordS.l0, if_pos (by omega), if_pos (by omega), rdL l i hlt, e, Option.bind_some, if_neg hn, hw]
      · obtain ⟨q1, q2⟩ := ht' h
        refine ⟨by omega, fun j hj hij => ?_⟩
        by_cases c : j = i
        · subst c; exact ⟨g2, g3⟩
        · exact q2 j hj (by omega)
theorem szS_ev (l : List LRec) (left : Int) (h0 : 0 ≤ left) (h1 : left ≤ 1048576) (hm : l.length ≤ maxLen) (hs : ∀ y ∈ l, y.f0.size ≤ maxLen ∧ y.f3.size ≤ maxLen) :
    ∃ t, Ev (fun k => laws_szRecordS.f k l left) t ∧ (0 ≤ t → t ≤ left ∧ l.length ≤ 1048576 ∧ ∀ y ∈ l, Small y.f0 ∧ Small y.f3) := by
  simp only [maxLen] at hm
  have hw : wrap64 (left - (l.length : Int)) = left - (l.length : Int) := by unfold wrap64; omega
  by_cases hn : left - (l.length : Int) < 0
  · refine ⟨-1, Ev.congr (f := fun _ => some (-1)) (fun k => ?_) (Ev.now _), fun h => absurd h (by omega)⟩
    unfold laws_szRecordS.f
    rw [hw, if_pos hn]
  · obtain ⟨t, e, ht⟩ := szS_loop l (by omega) hs l.length 0 (left - (l.length : Int)) (by omega) (by omega) (by omega)
    refine ⟨t, Ev.congr (fun k => ?_) e, fun h => ?_⟩
    · unfold laws_szRecordS.f
      rw [hw, if_neg hn]
      rfl
    · obtain ⟨q1, q2⟩ := ht h
      refine ⟨by omega, by omega, fun y hy => ?_⟩
      obtain ⟨j, hj, rfl⟩ := List.mem_iff_getElem.1 hy
      exact q2 j hj (Nat.zero_le _)
theorem toS_loop (l : List LRec) (hl : l.length < 1099511627776) : ∀ (m i : Nat) (out : List IRec), i + m = l.length → out = (l.take i).map conv ++ List.replicate m z27 → Ev (fun k => laws_toRecordS.l0 k l out (i : Int)) (l.map conv)
  | 0, i, out, hi, ho => by
    refine Ev.step (f := fun _ => some (l.map conv)) (fun k => ?_) (Ev.now _)
    show laws_toRecordS.l0 (k + 1) l out (i : Int) = _
    rw [laws_toRecordS.l0, if_neg (by omega), ho, List.take_of_length_le (by omega)]
    simp
  | m + 1, i, out, hi, ho => by
    have hlt : i < l.length := by omega
    have hw : wrap64 ((i : Int) + 1) = ((i + 1 : Nat) : Int) := w64n (by omega)
    have hlen : ((l.take i).map conv).length = i := by rw [List.length_map, List.length_take]; omega
    have ih := toS_loop l hl m (i + 1) (out.set i (conv l[i])) (by omega) (by
      rw [ho, List.set_append_right _ _ (by omega), hlen, Nat.sub_self, List.take_succ_eq_append_getElem hlt, List.map_append, List.append_assoc]
      rfl)
    refine Ev.step (f := fun k => laws_toRecordS.l0 k l (out.set i (conv l[i])) ((i + 1 : Nat) : Int)) (fun k => ?_) ih
    show laws_toRecordS.l0 (k + 1) l out (i : Int) = _
    have ho2 : out.length = l.length := by rw [ho, List.length_append, hlen, List.length_replicate]; omega
    rw [laws_toRecordS.l0, if_pos (by omega), if_pos (by omega), rdL l i hlt]
    unfold laws_toRecord.f
    rw [Option.bind_some, if_pos (by omega), hw, Int.toNat_natCast]
    rfl
theorem toS_ev (l : List LRec) (hl : l.length ≤ 1048576) : Ev (fun k => laws_toRecordS.f k l) (l.map conv) := by
  refine Ev.congr (fun k => ?_) (toS_loop l (by omega) l.length 0 (List.replicate l.length z27) (by omega) (by simp))
  unfold laws_toRecordS.f
  rw [if_pos (by omega), Int.toNat_natCast, if_pos (by omega)]
  rfl
theorem eqRec_self (x : IRec) : laws_eqRecord.f x.f0 x.f1 x.f2 x.f3 x.f0 x.f1 x.f2 x.f3 = some true := by
  unfold laws_eqRecord.f
  simp
theorem eqS_loop (l : List IRec) (hl : l.length < 1099511627776) : ∀ (m i : Nat), i + m = l.length → Ev (fun k => laws_eqRecordS.l0 k l l (i : Int)) true
  | 0, i, hi => by
    refine Ev.step (f := fun _ => some true) (fun k => ?_) (Ev.now _)
    show laws_eqRecordS.l0 (k + 1) l l (i : Int) = _
    rw [laws_eqRecordS.l0, if_neg (by omega)]
  | m + 1, i, hi => by
    have hlt : i < l.length := by omega
    have hw : wrap64 ((i : Int) + 1) = ((i + 1 : Nat) : Int) := w64n (by omega)
    refine Ev.step (f := fun k => laws_eqRecordS.l0 k l l ((i + 1 : Nat) : Int)) (fun k => ?_) (eqS_loop l hl m (i + 1) (by omega))
    show laws_eqRecordS.l0 (k + 1) l l (i : Int) = _
    rw [laws_eqRecordS.l0, if_pos (by omega), if_pos (by omega), if_pos (by omega), eqRec_self, Option.bind_some, if_pos rfl, hw]
theorem eqS_ev (l : List IRec) (hl : l.length ≤ 1048576) : Ev (fun k => laws_eqRecordS.f k l l) true := by
  refine Ev.congr (fun k => ?_) (eqS_loop l (by omega) l.length 0 (by omega))
  unfold laws_eqRecordS.f
  rw [if_pos rfl]
  rfl
theorem recs_both (x0 : List IRec) (l : List IRec) (hl : l.length < 1099511627776) (hs : ∀ y ∈ l, Small y.f0 ∧ Small y.f3) : ∀ (m i : Nat), i + m = l.length →
    ∃ g : Bool, Ev (fun k => spec_l4Records.l0 k x0 l (l.length : Int) (i : Int)) (g && decide ((x0.length : Int) ≤ 12)) ∧ Ev (fun k => impl_areRecords.f k (l.drop i)) g
  | 0, i, hi => by
    refine ⟨true, Ev.step (f := fun _ => some (decide ((x0.length : Int) ≤ 12))) (fun k => ?_) (Ev.now _), ?_⟩
    · show spec_l4Records.l0 (k + 1) x0 l (l.length : Int) (i : Int) = _
      rw [spec_l4Records.l0, if_neg (by omega)]
    · rw [List.drop_of_length_le (by omega)]
      exact Ev.congr (fun k => rfl) (Ev.now _)
  | m + 1, i, hi => by
    have hlt : i < l.length := by omega
    have hw : wrap64 ((i : Int) + 1) = ((i + 1 : Nat) : Int) := w64n (by omega)
    have hx := hs _ (List.getElem_mem hlt)
    obtain ⟨r, _, r1, r2, _⟩ := goodrec_both l[i].f0 l[i].f1 l[i].f2 l[i].f3 hx.1 hx.2
    obtain ⟨g, g1, g2⟩ := recs_both x0 l hl hs m (i + 1) (by omega)
    have es : ∀ k, spec_l4Records.l0 (k + 1) x0 l (l.length : Int) (i : Int) = (spec_GoodRecord.f k l[i].f0 l[i].f1 l[i].f2 l[i].f3).bind fun t341 => (if t341 = true then (spec_l4Records.l0 k x0 l (l.length : Int) ((i + 1 : Nat) : Int)) else (some false)) := fun k => by
      rw [spec_l4Records.l0, if_pos (by omega), if_pos (by omega), if_pos (by omega), rdI l i hlt, hw]
    have ei : ∀ k, impl_areRecords.f k (l.drop i) = (impl_GoodRecord.f k l[i].f0 l[i].f1 l[i].f2 l[i].f3).bind fun g => (if g = true then impl_areRecords.f k (l.drop (i + 1)) else some false) := fun k => by
      rw [List.drop_eq_getElem_cons hlt]
      rfl
    cases r with
    | true =>
      refine ⟨g, Ev.step es (Ev.bind r1 ?_), Ev.congr ei (Ev.bind r2 ?_)⟩
      · simp only [if_true]; exact g1
      · simp only [if_true]; exact g2
    | false => exact ⟨false, Ev.step es (Ev.bind r1 (Ev.now _)), Ev.congr ei (Ev.bind r2 (Ev.now _))⟩
theorem has_loop (L : List Int) (n : Int) (hl : L.length < 1099511627776) : ∀ (m i : Nat), i + m = L.length → Ev (fun k => spec_l1Has.l0 k n L (L.length : Int) (i : Int)) ((L.drop i).contains n)
  | 0, i, hi => by
    rw [List.drop_of_length_le (by omega)]
    refine Ev.step (f := fun _ => some false) (fun k => ?_) (Ev.now _)
    show spec_l1Has.l0 (k + 1) n L (L.length : Int) (i : Int) = _
    rw [spec_l1Has.l0, if_neg (by omega)]
  | m + 1, i, hi => by
    have hlt : i < L.length := by omega
    have hw : wrap64 ((i : Int) + 1) = ((i + 1 : Nat) : Int) := w64n (by omega)
    have hr : rd L (i : Int) = L[i] := by
      unfold rd
      rw [Int.toNat_natCast, List.getD_eq_getElem?_getD, List.getElem?_eq_getElem hlt, Option.getD_some]
    have ih := has_loop L n hl m (i + 1) (by omega)
    rw [List.drop_eq_getElem_cons hlt, List.contains_cons]
    by_cases c : L[i] = n
    · rw [show (n == L[i]) = true from beq_iff_eq.2 c.symm, Bool.true_or]
      refine Ev.step (f := fun _ => some true) (fun k => ?_) (Ev.now _)
      show spec_l1Has.l0 (k + 1) n L (L.length : Int) (i : Int) = _
      rw [spec_l1Has.l0, if_pos (by omega), if_pos (by omega), if_pos (by omega), hr, if_pos c]
    · rw [show (n == L[i]) = false from beq_eq_false_iff_ne.2 fun e => c e.symm, Bool.false_or]
      refine Ev.step (f := fun k => spec_l1Has.l0 k n L (L.length : Int) ((i + 1 : Nat) : Int)) (fun k => ?_) ih
      show spec_l1Has.l0 (k + 1) n L (L.length : Int) (i : Int) = _
      rw [spec_l1Has.l0, if_pos (by omega), if_pos (by omega), if_pos (by omega), hr, if_neg c, hw]
theorem has_ev (L : List Int) (n : Int) (hl : L.length < 1099511627776) : Ev (fun k => spec_l1Has.f k L n) (L.contains n) := Ev.congr (fun k => rfl) (has_loop L n hl L.length 0 (by omega))
theorem idx_loop (L : List Int) (n : Int) (hl : L.length < 1099511627776) : ∀ (m i : Nat), i + m = L.length → ∃ t, Ev (fun k => slices_Index_int_int.l0 k L n (L.length : Int) (i : Int)) t ∧ decide (t ≥ 0) = (L.drop i).contains n
  | 0, i, hi => by
    rw [List.drop_of_length_le (by omega)]
    refine ⟨-1, Ev.step (f := fun _ => some (-1)) (fun k => ?_) (Ev.now _), rfl⟩
    show slices_Index_int_int.l0 (k + 1) L n (L.length : Int) (i : Int) = _
    rw [slices_Index_int_int.l0, if_neg (by omega)]
  | m + 1, i, hi => by
    have hlt : i < L.length := by omega
    have hw : wrap64 ((i : Int) + 1) = ((i + 1 : Nat) : Int) := w64n (by omega)
    have hr : rd L (i : Int) = L[i] := by
      unfold rd
      rw [Int.toNat_natCast, List.getD_eq_getElem?_getD, List.getElem?_eq_getElem hlt, Option.getD_some]
    obtain ⟨t, e, ht⟩ := idx_loop L n hl m (i + 1) (by omega)
    rw [List.drop_eq_getElem_cons hlt, List.contains_cons]
    by_cases c : n = L[i]
    · rw [show (n == L[i]) = true from beq_iff_eq.2 c, Bool.true_or]
      refine ⟨(i : Int), Ev.step (f := fun _ => some (i : Int)) (fun k => ?_) (Ev.now _), decide_eq_true (by omega)⟩
      show slices_Index_int_int.l0 (k + 1) L n (L.length : Int) (i : Int) = _
      rw [slices_Index_int_int.l0, if_pos (by omega), if_pos (by omega), if_pos (by omega), hr, if_pos c]
    · rw [show (n == L[i]) = false from beq_eq_false_iff_ne.2 c, Bool.false_or]
      refine ⟨t, Ev.step (f := fun k => slices_Index_int_int.l0 k L n (L.length : Int) ((i + 1 : Nat) : Int)) (fun k => ?_) e, ht⟩
      show slices_Index_int_int.l0 (k + 1) L n (L.length : Int) (i : Int) = _
      rw [slices_Index_int_int.l0, if_pos (by omega), if_pos (by omega), if_pos (by omega), hr, if_neg c, hw]
theorem contains_ev (L : List Int) (n : Int) (hl : L.length < 1099511627776) : Ev (fun k => slices_Contains_int_int.f k L n) (L.contains n) := by
  obtain ⟨t, e, ht⟩ := idx_loop L n hl L.length 0 (by omega)
  have ht : decide (t ≥ 0) = L.contains n := ht
  refine Ev.congr (fun k => rfl) (Ev.bind (a := t) (Ev.congr (fun k => rfl) e) ?_)
  rw [ht]
  exact Ev.now _
theorem and_ev {f g : Nat → Option Bool} {b r : Bool} (h : Ev f b) (hg : Ev g r) : Ev (fun k => (f k).bind fun t => if t = true then g k else some false) (b && r) := by
  refine Ev.bind h ?_
  cases b with
  | true => simp only [if_true, Bool.true_and]; exact hg
  | false => exact Ev.now _
theorem gt_ev {n : Int} {g : Nat → Option Bool} {r : Bool} (hg : Ev g r) : Ev (fun k => if n > 12 then some false else g k) (decide (n ≤ 12) && r) := by
  by_cases h : n > 12
  · rw [decide_eq_false (by omega), Bool.false_and]
    simp only [if_pos h]
    exact Ev.now _
  · rw [decide_eq_true (by omega), Bool.true_and]
    simp only [if_neg h]
    exact hg
/-- A message is good. -/
def msgB (id : Int) (re cu : Bool) (co : Int) (nm : List UInt8) (ty : Int) (n6 n7 : Int) (g6 g7 : Bool) : Bool :=
  decide (0 ≤ id ∧ id ≤ 65535) && (([0, 1, 3, 5] : List Int).contains co && (goodL nm && (([1, 2, 5, 6, 15, 16] : List Int).contains ty && ((g6 && decide (n6 ≤ 12)) && ((g7 && decide (n7 ≤ 12)) && (if re = true then true else (if cu = true then false else (if co = 0 then (if n6 = 0 then n7 == 0 else false) else false))))))))
theorem tail_ev (re cu : Bool) (co n6 n7 : Int) : Ev (fun _ => (if re = true then (some true) else (if cu = true then (some false) else (if co = 0 then (if n6 = 0 then (some (n7 == 0)) else (some false)) else (some false))))) (if re = true then true else (if cu = true then false else (if co = 0 then (if n6 = 0 then n7 == 0 else false) else false))) := by
  refine Ev.congr (f := fun _ => some (if re = true then true else (if cu = true then false else (if co = 0 then (if n6 = 0 then n7 == 0 else false) else false)))) (fun k => ?_) (Ev.now _)
  split
  · rfl
  · split
    · rfl
    · split
      · split <;> rfl
      · rfl
theorem msg_both (id : Int) (re cu : Bool) (co : Int) (nm : ByteArray) (ty : Int) (l6 l7 : List IRec) (hn : Small nm) (h6 : l6.length ≤ 1048576) (h7 : l7.length ≤ 1048576) (s6 : ∀ y ∈ l6, Small y.f0 ∧ Small y.f3) (s7 : ∀ y ∈ l7, Small y.f0 ∧ Small y.f3) :
    ∃ g6 g7 : Bool, Ev (fun k => impl_areRecords.f k l6) g6 ∧ Ev (fun k => impl_areRecords.f k l7) g7 ∧ Ev (fun k => spec_GoodMessage.f k id re cu co nm ty l6 l7) (msgB id re cu co nm.data.toList ty l6.length l7.length g6 g7) ∧ Ev (fun k => impl_GoodMessage.f k id re cu co nm ty l6 l7) (msgB id re cu co nm.data.toList ty l6.length l7.length g6 g7) := by
  obtain ⟨g6, a6, b6⟩ := recs_both l6 l6 (by omega) s6 l6.length 0 (by omega)
  obtain ⟨g7, a7, b7⟩ := recs_both l7 l7 (by omega) s7 l7.length 0 (by omega)
  rw [List.drop_zero] at b6 b7
  refine ⟨g6, g7, b6, b7, ?_, ?_⟩
  · refine Ev.congr (fun k => rfl) (and_ev (Ev.congr (fun k => within_spec _ _ _) (Ev.now _)) (and_ev (has_ev _ _ (by decide)) (and_ev (specGood_ev nm (by unfold Small at hn; omega)) (and_ev (Ev.congr (fun k => rfl) (Ev.bind (has_ev _ _ (by decide)) (Ev.now _))) (and_ev (Ev.congr (fun k => rfl) a6) (and_ev (Ev.congr (fun k => rfl) a7) (tail_ev _ _ _ _ _)))))))
  · have h := and_ev (f := fun k => impl_within.f id 0 65535) (Ev.congr (fun k => within_eq _ _ _) (Ev.now _)) (and_ev (f := fun k => impl_isCode.f k co) (Ev.congr (fun k => rfl) (Ev.bind (contains_ev _ _ (by decide)) (Ev.now _))) (and_ev (f := fun k => impl_GoodName.f nm) (Ev.congr (fun k => rfl) (Ev.now (goodL nm.data.toList))) (and_ev (f := fun k => impl_isType.f k ty) (Ev.congr (fun k => rfl) (Ev.bind (contains_ev _ _ (by decide)) (Ev.now _))) (gt_ev (n := (l6.length : Int)) (gt_ev (n := (l7.length : Int)) (and_ev b6 (and_ev b7 (tail_ev re cu co l6.length l7.length))))))))
    have h2 := Ev.congr (g := fun k => impl_GoodMessage.f k id re cu co nm ty l6 l7) (fun k => rfl) h
    refine Eq.mp (congrArg (Ev _) ?_) h2
    unfold msgB
    generalize (if re = true then true else (if cu = true then false else (if co = 0 then (if ((l6.length : Int)) = 0 then ((l7.length : Int) == 0) else false) else false))) = F
    generalize decide ((l6.length : Int) ≤ 12) = x6
    generalize decide ((l7.length : Int) ≤ 12) = x7
    cases g6 <;> cases g7 <;> cases x6 <;> cases x7 <;> simp
end Go.Proofs.YtecmicedacppbaaGreatDoor.Pure

-- PureFnExactGoodMessage
/- 'laws.FnExactGoodMessage' returns true: the reference and the program return the same. Conditions: the sizes. -/
namespace Go.Proofs.YtecmicedacppbaaGreatDoor.Pure
open Go.RowKit Go.Proofs.YtecmicedacppbaaGreatDoor.P Go.Proofs.YtecmicedacppbaaGreatDoorW.PrintWords Go.Proofs.YtecmicedacppbaaGreatDoorW.PrintLast Go.Proofs.YtecmicedacppbaaGreatDoorW.PrintMore
set_option linter.unusedVariables false
set_option linter.unusedSimpArgs false
/-- A law's copy of a message, the sizes known. -/
theorem szM_ev (id : Int) (re cu : Bool) (co : Int) (nm : ByteArray) (ty : Int) (l6 l7 : List LRec) (h4 : nm.size ≤ maxLen) (m6 : l6.length ≤ maxLen) (w6 : ∀ y ∈ l6, y.f0.size ≤ maxLen ∧ y.f3.size ≤ maxLen) (m7 : l7.length ≤ maxLen) (w7 : ∀ y ∈ l7, y.f0.size ≤ maxLen ∧ y.f3.size ≤ maxLen) :
    ∃ t, Ev (fun k => laws_szMessage.f k id re cu co nm ty l6 l7 1048576) t ∧ (0 ≤ t → Small nm ∧ l6.length ≤ 1048576 ∧ (∀ y ∈ l6, Small y.f0 ∧ Small y.f3) ∧ l7.length ≤ 1048576 ∧ (∀ y ∈ l7, Small y.f0 ∧ Small y.f3)) := by
  have hw : wrap64 (1048576 - (nm.size : Int)) = 1048576 - (nm.size : Int) := by simp only [maxLen] at h4; unfold wrap64; omega
  by_cases hn : 1048576 - (nm.size : Int) < 0
  · refine ⟨-1, Ev.congr (f := fun _ => some (-1)) (fun k => ?_) (Ev.now _), fun h => absurd h (by omega)⟩
    unfold laws_szMessage.f
    rw [hw, if_pos hn]
  · obtain ⟨t6, e6, q6⟩ := szS_ev l6 (1048576 - (nm.size : Int)) (by omega) (by omega) m6 w6
    have hf : ∀ k, laws_szMessage.f k id re cu co nm ty l6 l7 1048576 = ((laws_szRecordS.f k l6 (1048576 - (nm.size : Int))).bind fun t332 => (if t332 < 0 then (some (-1)) else ((laws_szRecordS.f k l7 t332).bind fun t333 => (if t333 < 0 then (some (-1)) else (some t333))))) := fun k => by
      unfold laws_szMessage.f
      rw [hw, if_neg hn]
    by_cases h6 : t6 < 0
    · refine ⟨-1, Ev.congr hf (Ev.bind e6 ?_), fun h => absurd h (by omega)⟩
      simp only [if_pos h6]; exact Ev.now _
    · obtain ⟨p1, p2, p3⟩ := q6 (by omega)
      obtain ⟨t7, e7, q7⟩ := szS_ev l7 t6 (by omega) (by omega) m7 w7
      by_cases h7 : t7 < 0
      · refine ⟨-1, Ev.congr hf (Ev.bind e6 ?_), fun h => absurd h (by omega)⟩
        simp only [if_neg h6]
        refine Ev.bind e7 ?_
        simp only [if_pos h7]; exact Ev.now _
      · obtain ⟨r1, r2, r3⟩ := q7 (by omega)
        refine ⟨t7, Ev.congr hf (Ev.bind e6 ?_), fun h => ⟨by unfold Small; omega, p2, p3, r2, r3⟩⟩
        simp only [if_neg h6]
        refine Ev.bind e7 ?_
        simp only [if_neg h7]; exact Ev.now _
theorem toM_ev (id : Int) (re cu : Bool) (co : Int) (nm : ByteArray) (ty : Int) (l6 l7 : List LRec) (h6 : l6.length ≤ 1048576) (h7 : l7.length ≤ 1048576) : Ev (fun k => laws_toMessage.f k id re cu co nm ty l6 l7) (id, re, cu, co, nm, ty, l6.map conv, l7.map conv) :=
  Ev.congr (fun k => rfl) (Ev.bind (toS_ev l6 h6) (Ev.bind (toS_ev l7 h7) (Ev.now _)))
theorem eqM_ev (id : Int) (re cu : Bool) (co : Int) (nm : ByteArray) (ty : Int) (l6 l7 : List IRec) (h6 : l6.length ≤ 1048576) (h7 : l7.length ≤ 1048576) : Ev (fun k => laws_eqMessage.f k id re cu co nm ty l6 l7 id re cu co nm ty l6 l7) true := by
  unfold laws_eqMessage.f
  simp only [if_true, bne_self_eq_false, Bool.false_eq_true, if_false]
  exact Ev.bind (eqS_ev l6 h6) (Ev.bind (eqS_ev l7 h7) (Ev.now _))
theorem small_conv {l : List LRec} (h : ∀ y ∈ l, Small y.f0 ∧ Small y.f3) : ∀ y ∈ l.map conv, Small y.f0 ∧ Small y.f3 := by
  intro y hy
  obtain ⟨x, hx, rfl⟩ := List.mem_map.1 hy
  exact h x hx
theorem FnExactGoodMessage : ∀ (id : Int) (re cu : Bool) (co : Int) (nm : ByteArray) (ty : Int) (l6 l7 : List LRec), nm.size ≤ maxLen → l6.length ≤ maxLen → (∀ y ∈ l6, y.f0.size ≤ maxLen ∧ y.f3.size ≤ maxLen) → l7.length ≤ maxLen → (∀ y ∈ l7, y.f0.size ≤ maxLen ∧ y.f3.size ≤ maxLen) → ∃ k, laws_FnExactGoodMessage.f k id re cu co nm ty l6 l7 = some true := by
  intro id re cu co nm ty l6 l7 h4 m6 w6 m7 w7
  suffices h : Ev (fun k => laws_FnExactGoodMessage.f k id re cu co nm ty l6 l7) true from h.rounds
  obtain ⟨t, e, q⟩ := szM_ev id re cu co nm ty l6 l7 h4 m6 w6 m7 w7
  refine Ev.congr (fun k => rfl) (Ev.bind e ?_)
  by_cases ht : t < 0
  · simp only [if_pos ht]; exact Ev.now _
  · obtain ⟨q1, q2, q3, q4, q5⟩ := q (by omega)
    have eM := toM_ev id re cu co nm ty l6 l7 q2 q4
    obtain ⟨g6, g7, _, _, r1, r2⟩ := msg_both id re cu co nm ty (l6.map conv) (l7.map conv) q1 (by rw [List.length_map]; exact q2) (by rw [List.length_map]; exact q4) (small_conv q3) (small_conv q5)
    have eE := eqM_ev id re cu co nm ty (l6.map conv) (l7.map conv) (by rw [List.length_map]; exact q2) (by rw [List.length_map]; exact q4)
    simp only [if_neg ht]
    refine Ev.bind eM (Ev.bind r1 (Ev.bind eM (Ev.bind r2 ?_)))
    simp only [bne_self_eq_false, Bool.false_eq_true, if_false]
    exact Ev.bind eM (Ev.bind eE (Ev.now _))
end Go.Proofs.YtecmicedacppbaaGreatDoor.Pure

-- HOpen
/- What reads at a type is of the print's kind: texts, numbers, records, slices of these; a struct by value. Conditions: none. -/
namespace Go.Proofs.YtecmicedacppbaaGreatDoor.P
open Go.ChangeShapes Go.WideShapes Go.ChangeAt Go.RowKit Go.Joins Go.Deep Go.Proofs.YtecmicedacppbaaGreatDoorW.PrintWords Go.Proofs.YtecmicedacppbaaGreatDoorW.PrintLast Go.Proofs.YtecmicedacppbaaGreatDoorW.PrintMore
set_option linter.unusedVariables false
set_option linter.unusedSimpArgs false
/-- What reads at a type is of a kind, and within bounds. -/
def Opens {α : Type} (P : Program) (t : TypeId) (d : Kd α) (ok : α → Prop) : Prop :=
  ∀ (H : Type) (enc : TypeId × Value → H) (w : World) (base : Nat) (spare : Nat → Bool) (held : Bool) (fuel : Nat) (cs : List Value) (x : DataW H × List MemPlace),
    DataW.trod enc P w base spare held fuel t cs = some x → ∃ y : α, d.K w y cs ∧ ok y
section
variable {P : Program} {t : TypeId}
theorem opens_text (ht : P.underlying t = some .string) : Opens P t Kd.string (fun s => s.size ≤ maxLen) := by
  intro H enc w base spare held fuel cs x h
  obtain ⟨s, e, _, hs⟩ := DataW.trod_string ht h
  exact ⟨s, e, hs⟩
theorem opens_int {k : IntKind} (ht : P.underlying t = some (.int k)) : Opens P t (Kd.int k) (fun _ => True) := by
  intro H enc w base spare held fuel cs x h
  obtain ⟨s, e, _, _⟩ := DataW.trod_int ht h
  exact ⟨s, e, trivial⟩
theorem opens_bool (ht : P.underlying t = some .bool) : Opens P t Kd.bool (fun _ => True) := by
  intro H enc w base spare held fuel cs x h
  obtain ⟨s, e, _⟩ := DataW.trod_bool ht h
  exact ⟨s, e, trivial⟩
theorem opens_slice {α : Type} [Inhabited α] {e : TypeId} {d : Kd α} {ok : α → Prop} (ht : P.underlying t = some (.slice e)) (hc : P.cellsOf e = d.sz) (hd : Opens P e d ok) : Opens P t (Kd.slice e d) (fun l => l.length ≤ maxLen ∧ ∀ y ∈ l, ok y) := by
  intro H enc w base spare held fuel cs x h
  rcases DataW.trod_slice ht h with ⟨rfl, _⟩ | ⟨a, len, cap, elems, rest, n, _, rfl, _, hb, hl, hm, hlen, hel, _, _⟩
  · exact ⟨[], ⟨none, 0, rfl, Nat.le_refl _, rfl, by simp, fun h => absurd h (by simp)⟩, by simp, fun y hy => by cases hy⟩
  · have each : ∀ i, i < len → ∃ y : α, ok y ∧ ∃ c, c.length = d.sz ∧ d.K w y c ∧ ∀ j u, c[j]? = some u → w.cell? (a.add (i * d.sz + j)) = some u := by
      intro i hi
      have hi2 := hel i hi
      rw [List.getElem?_eq_getElem (by omega)] at hi2
      obtain ⟨cs', h1, h2⟩ := Option.bind_eq_some_iff.1 hi2
      obtain ⟨y, hy, hok⟩ := hd H enc w base spare held n cs' _ h2
      obtain ⟨_, hz, hcell⟩ := World.cells?_some h1
      refine ⟨y, hok, cs', by rw [hz, hc], hy, fun j u hu => ?_⟩
      have hj : j < P.cellsOf e := by
        rw [← hz]
        exact (List.getElem?_eq_some_iff.1 hu).1
      rw [← hc, ← Deep.add_add, hcell j hj, hu]
    obtain ⟨f, hf⟩ := choose_lt each
    refine ⟨(List.range len).map f, ⟨some a, cap, by simp, by simpa using hl, rfl, ?_, fun _ => ⟨a, rfl, fun j p hj => ?_⟩⟩, ?_, fun y hy => ?_⟩
    · simp only [List.length_map, List.length_range]
      simp only [maxLen] at hm
      omega
    · obtain ⟨hj2, hj3⟩ := List.getElem?_eq_some_iff.1 hj
      simp only [List.length_map, List.length_range] at hj2
      rw [List.getElem_map, List.getElem_range] at hj3
      subst hj3
      obtain ⟨_, c, c1, c2, c3⟩ := hf j hj2
      exact ⟨c, c1, c2, c3⟩
    · simp only [List.length_map, List.length_range]
      omega
    · obtain ⟨i, hi, rfl⟩ := List.mem_map.1 hy
      exact (hf i (List.mem_range.1 hi)).1
theorem opens_struct4 {α0 α1 α2 α3 : Type} {f0 f1 f2 f3 : Field} {d0 : Kd α0} {d1 : Kd α1} {d2 : Kd α2} {d3 : Kd α3} {k0 : α0 → Prop} {k1 : α1 → Prop} {k2 : α2 → Prop} {k3 : α3 → Prop} (ht : P.underlying t = some (.struct #[f0, f1, f2, f3])) (hone : oneCellFields P #[f0, f1, f2, f3] = true) (hC : P.cellsOf t = 4)
    (h0 : Opens P f0.type d0 k0) (h1 : Opens P f1.type d1 k1) (h2 : Opens P f2.type d2 k2) (h3 : Opens P f3.type d3 k3) :
    Opens P t (Kd.pair d0 (Kd.pair d1 (Kd.pair d2 d3))) (fun x => k0 x.1 ∧ k1 x.2.1 ∧ k2 x.2.2.1 ∧ k3 x.2.2.2) := by
  intro H enc w base spare held fuel cs x h
  obtain ⟨y0, y1, y2, y3, n, _, hl, g0, g1, g2, g3⟩ := trod_struct4 ht h
  rw [hC] at hl
  obtain ⟨o0, p0⟩ := hone_of hone 0 f0 rfl
  obtain ⟨o1, p1⟩ := hone_of hone 1 f1 rfl
  obtain ⟨o2, p2⟩ := hone_of hone 2 f2 rfl
  obtain ⟨o3, p3⟩ := hone_of hone 3 f3 rfl
  rw [o0, p0] at g0
  rw [o1, p1] at g1
  rw [o2, p2] at g2
  rw [o3, p3] at g3
  obtain ⟨z0, c0, e0⟩ := h0 H enc w base spare held n _ _ g0
  obtain ⟨z1, c1, e1⟩ := h1 H enc w base spare held n _ _ g1
  obtain ⟨z2, c2, e2⟩ := h2 H enc w base spare held n _ _ g2
  obtain ⟨z3, c3, e3⟩ := h3 H enc w base spare held n _ _ g3
  refine ⟨(z0, z1, z2, z3), ⟨_, _, ?_, c0, _, _, rfl, c1, _, _, rfl, c2, c3⟩, e0, e1, e2, e3⟩
  match cs, hl with
  | [a, b, c, d], _ => rfl
theorem opens_iso {α β : Type} {d : Kd α} {f : β → α} {k : α → Prop} (g : α → β) (hg : ∀ x, f (g x) = x) (h : Opens P t d k) : Opens P t (Kd.iso d f) (fun x => k (f x)) := by
  intro H enc w base spare held fuel cs x hx
  obtain ⟨y, h1, h2⟩ := h H enc w base spare held fuel cs x hx
  exact ⟨g y, by show d.K w (f (g y)) cs; rw [hg]; exact h1, by show k (f (g y)); rw [hg]; exact h2⟩
theorem Opens.imp {α : Type} {d : Kd α} {k k' : α → Prop} (h : Opens P t d k) (hk : ∀ x, k x → k' x) : Opens P t d k' := by
  intro H enc w base spare held fuel cs x hx
  obtain ⟨y, h1, h2⟩ := h H enc w base spare held fuel cs x hx
  exact ⟨y, h1, hk _ h2⟩
/-- A struct of one-cell fields, by value: its cells, each of which reads at its field's type. -/
theorem open_agg {H : Type} {enc : TypeId × Value → H} {w : World} {base : Nat} {spare : Nat → Bool} {held : Bool} {r : Reach} {b0 : Nat} {fs : Array Field} {v : Value} {d : DataW H} {p : List MemPlace} (hs : P.underlying t = some (.struct fs)) (hone : oneCellFields P fs = true) (hC : P.cellsOf t = fs.size)
    (hv : Value.okWide P w r b0 t v) (h : DataW.Trod enc P w base spare held t v d p) :
    ∃ (l : List Value) (n : Nat), v = .agg l.toArray ∧ l.length = fs.size ∧ ∀ (i : Nat) (f : Field) (c : Value), fs[i]? = some f → l[i]? = some c → ∃ y, DataW.trod enc P w base spare held n f.type [c] = some y := by
  obtain ⟨cs, rfl, hsz⟩ := okWide_struct hs hv
  obtain ⟨fuel, hf⟩ := h
  obtain ⟨xs, n, _, _, hl, hxl, hg⟩ := DataW.trod_struct hs hf
  refine ⟨cs.toList, n, rfl, by rw [Array.length_toList, hsz, hC], fun i f c hi hc => ?_⟩
  obtain ⟨o, k⟩ := hone_of hone i f hi
  have h1 := hg i f hi
  have hlt : i < fs.size := (Array.getElem?_eq_some_iff.1 hi).1
  rw [List.getElem?_eq_getElem (by omega)] at h1
  have e : (Value.agg cs).cells = cs := by simp [Value.cells]
  obtain ⟨hc1, hc2⟩ := List.getElem?_eq_some_iff.1 hc
  rw [o, k, e, List.drop_eq_getElem_cons hc1, hc2] at h1
  exact ⟨_, h1⟩
end
theorem list8 {α : Type} {l : List α} (h : l.length = 8) : ∃ a b c d e f g i, l = [a, b, c, d, e, f, g, i] := by
  match l, h with
  | [a, b, c, d, e, f, g, i], _ => exact ⟨a, b, c, d, e, f, g, i, rfl⟩
end Go.Proofs.YtecmicedacppbaaGreatDoor.P

-- LawFnExactGoodMessage
-- By my own call of the kit's print (wip/tools/pp.py), turned to a card by wip/tools/doorrow.py.
namespace Go.Proofs.YtecmicedacppbaaGreatDoor.fnExactGoodMessage
open Go.ChangeShapes Go.WideShapes Go.ChangeAt Go.RowKit Go.Joins Go.Proofs.YtecmicedacppbaaGreatDoor.P Go.Proofs.YtecmicedacppbaaGreatDoorW.PrintWords
open Go.ChangeMaps (open_string shut_string)
set_option linter.unusedVariables false
-- READS [.agg [.lit (.int .i64 0), .lit (.bool false), .lit (.bool false), .lit (.int .i64 0), .lit (.string []), .lit (.int .i64 0), .nil, .nil]]
theorem own : ownKnob Tryz.prog.godebug = none := by kernel_rfl
theorem laidOut : laidOutB Tryz.prog = true := by kernel_rfl
instance : Inhabited (P.S23) := ⟨P.z23⟩
theorem opens_rec : Opens Tryz.prog 23 P.k23 (fun x => x.f0.size ≤ maxLen ∧ x.f3.size ≤ maxLen) :=
  Opens.imp (opens_iso (f := fun x : P.S23 => (x.f0, x.f1, x.f2, x.f3)) (fun x => (⟨x.1, x.2.1, x.2.2.1, x.2.2.2⟩ : P.S23)) (fun _ => rfl) (opens_struct4 Tryz.underlying23 (by kernel_rfl) (by kernel_rfl) (opens_text Tryz.underlying9) (opens_int Tryz.underlying3) (opens_int Tryz.underlying3) (opens_text Tryz.underlying9))) fun x h => ⟨h.1, h.2.2.2⟩
theorem opens_recs : Opens Tryz.prog 30 (Kd.slice 23 P.k23) (fun l => l.length ≤ maxLen ∧ ∀ y ∈ l, y.f0.size ≤ maxLen ∧ y.f3.size ≤ maxLen) :=
  opens_slice Tryz.underlying30 (by kernel_rfl) opens_rec
/-- So many blocks has the settled world. -/
noncomputable def low : Nat := (World.holding Tryz.prog default ⟨#[], #[], []⟩).heap.size
/-- A world for the witness: the settled one, the listed tables holding what the row lists. -/
noncomputable def laidWorld (os : Os) : World :=
  { World.holding Tryz.prog os ⟨#[.cells #[.string { data := #[118, 97, 108, 117, 101, 32, 111, 117, 116, 32, 111, 102, 32, 114, 97, 110, 103, 101] }] 160, .cells #[.string { data := #[105, 110, 118, 97, 108, 105, 100, 32, 115, 121, 110, 116, 97, 120] }] 160], #[], []⟩ with heap := ((((((((World.holding Tryz.prog os ⟨#[.cells #[.string { data := #[118, 97, 108, 117, 101, 32, 111, 117, 116, 32, 111, 102, 32, 114, 97, 110, 103, 101] }] 160, .cells #[.string { data := #[105, 110, 118, 97, 108, 105, 100, 32, 115, 121, 110, 116, 97, 120] }] 160], #[], []⟩).heap.modify 6 fun
      | .cells _ t frozen => .cells #[.int .u8 0, .int .u8 1, .int .u8 28, .int .u8 2, .int .u8 29, .int .u8 14, .int .u8 24, .int .u8 3, .int .u8 30, .int .u8 22, .int .u8 20, .int .u8 15, .int .u8 25, .int .u8 17, .int .u8 4, .int .u8 8, .int .u8 31, .int .u8 27, .int .u8 13, .int .u8 23, .int .u8 21, .int .u8 19, .int .u8 16, .int .u8 7, .int .u8 26, .int .u8 12, .int .u8 18, .int .u8 6, .int .u8 11, .int .u8 5, .int .u8 10, .int .u8 9] t frozen
      | o => o).modify 7 fun
      | .cells _ t frozen => .cells #[.int .u8 0, .int .u8 1, .int .u8 56, .int .u8 2, .int .u8 57, .int .u8 49, .int .u8 28, .int .u8 3, .int .u8 61, .int .u8 58, .int .u8 42, .int .u8 50, .int .u8 38, .int .u8 29, .int .u8 17, .int .u8 4, .int .u8 62, .int .u8 47, .int .u8 59, .int .u8 36, .int .u8 45, .int .u8 43, .int .u8 51, .int .u8 22, .int .u8 53, .int .u8 39, .int .u8 33, .int .u8 30, .int .u8 24, .int .u8 18, .int .u8 12, .int .u8 5, .int .u8 63, .int .u8 55, .int .u8 48, .int .u8 27, .int .u8 60, .int .u8 41, .int .u8 37, .int .u8 16, .int .u8 46, .int .u8 35, .int .u8 44, .int .u8 21, .int .u8 52, .int .u8 32, .int .u8 23, .int .u8 11, .int .u8 54, .int .u8 26, .int .u8 40, .int .u8 15, .int .u8 34, .int .u8 20, .int .u8 31, .int .u8 10, .int .u8 25, .int .u8 14, .int .u8 19, .int .u8 9, .int .u8 13, .int .u8 8, .int .u8 7, .int .u8 6] t frozen
      | o => o).modify 1 fun
      | .cells _ t frozen => .cells #[.int .u64 1, .int .u64 10, .int .u64 100, .int .u64 1000, .int .u64 10000, .int .u64 100000, .int .u64 1000000, .int .u64 10000000, .int .u64 100000000, .int .u64 1000000000, .int .u64 10000000000, .int .u64 100000000000, .int .u64 1000000000000, .int .u64 10000000000000, .int .u64 100000000000000, .int .u64 1000000000000000, .int .u64 10000000000000000, .int .u64 100000000000000000, .int .u64 1000000000000000000, .int .u64 10000000000000000000] t frozen
      | o => o).modify 5 fun
      | .cells _ t frozen => .cells #[.int .u8 128, .int .u8 191, .int .u8 160, .int .u8 191, .int .u8 128, .int .u8 159, .int .u8 144, .int .u8 191, .int .u8 128, .int .u8 143, .int .u8 0, .int .u8 0, .int .u8 0, .int .u8 0, .int .u8 0, .int .u8 0, .int .u8 0, .int .u8 0, .int .u8 0, .int .u8 0, .int .u8 0, .int .u8 0, .int .u8 0, .int .u8 0, .int .u8 0, .int .u8 0, .int .u8 0, .int .u8 0, .int .u8 0, .int .u8 0, .int .u8 0, .int .u8 0] t frozen
      | o => o).modify 3 fun
      | .cells _ t frozen => .cells #[.iface 158 (.pointer (some ⟨low, 0, none⟩))] t frozen
      | o => o).modify 2 fun
      | .cells _ t frozen => .cells #[.iface 158 (.pointer (some ⟨low + 1, 0, none⟩))] t frozen
      | o => o).modify 4 fun
      | .cells _ t frozen => .cells #[.int .u8 240, .int .u8 240, .int .u8 240, .int .u8 240, .int .u8 240, .int .u8 240, .int .u8 240, .int .u8 240, .int .u8 240, .int .u8 240, .int .u8 240, .int .u8 240, .int .u8 240, .int .u8 240, .int .u8 240, .int .u8 240, .int .u8 240, .int .u8 240, .int .u8 240, .int .u8 240, .int .u8 240, .int .u8 240, .int .u8 240, .int .u8 240, .int .u8 240, .int .u8 240, .int .u8 240, .int .u8 240, .int .u8 240, .int .u8 240, .int .u8 240, .int .u8 240, .int .u8 240, .int .u8 240, .int .u8 240, .int .u8 240, .int .u8 240, .int .u8 240, .int .u8 240, .int .u8 240, .int .u8 240, .int .u8 240, .int .u8 240, .int .u8 240, .int .u8 240, .int .u8 240, .int .u8 240, .int .u8 240, .int .u8 240, .int .u8 240, .int .u8 240, .int .u8 240, .int .u8 240, .int .u8 240, .int .u8 240, .int .u8 240, .int .u8 240, .int .u8 240, .int .u8 240, .int .u8 240, .int .u8 240, .int .u8 240, .int .u8 240, .int .u8 240, .int .u8 240, .int .u8 240, .int .u8 240, .int .u8 240, .int .u8 240, .int .u8 240, .int .u8 240, .int .u8 240, .int .u8 240, .int .u8 240, .int .u8 240, .int .u8 240, .int .u8 240, .int .u8 240, .int .u8 240, .int .u8 240, .int .u8 240, .int .u8 240, .int .u8 240, .int .u8 240, .int .u8 240, .int .u8 240, .int .u8 240, .int .u8 240, .int .u8 240, .int .u8 240, .int .u8 240, .int .u8 240, .int .u8 240, .int .u8 240, .int .u8 240, .int .u8 240, .int .u8 240, .int .u8 240, .int .u8 240, .int .u8 240, .int .u8 240, .int .u8 240, .int .u8 240, .int .u8 240, .int .u8 240, .int .u8 240, .int .u8 240, .int .u8 240, .int .u8 240, .int .u8 240, .int .u8 240, .int .u8 240, .int .u8 240, .int .u8 240, .int .u8 240, .int .u8 240, .int .u8 240, .int .u8 240, .int .u8 240, .int .u8 240, .int .u8 240, .int .u8 240, .int .u8 240, .int .u8 240, .int .u8 240, .int .u8 240, .int .u8 240, .int .u8 240, .int .u8 241, .int .u8 241, .int .u8 241, .int .u8 241, .int .u8 241, .int .u8 241, .int .u8 241, .int .u8 241, .int .u8 241, .int .u8 241, .int .u8 241, .int .u8 241, .int .u8 241, .int .u8 241, .int .u8 241, .int .u8 241, .int .u8 241, .int .u8 241, .int .u8 241, .int .u8 241, .int .u8 241, .int .u8 241, .int .u8 241, .int .u8 241, .int .u8 241, .int .u8 241, .int .u8 241, .int .u8 241, .int .u8 241, .int .u8 241, .int .u8 241, .int .u8 241, .int .u8 241, .int .u8 241, .int .u8 241, .int .u8 241, .int .u8 241, .int .u8 241, .int .u8 241, .int .u8 241, .int .u8 241, .int .u8 241, .int .u8 241, .int .u8 241, .int .u8 241, .int .u8 241, .int .u8 241, .int .u8 241, .int .u8 241, .int .u8 241, .int .u8 241, .int .u8 241, .int .u8 241, .int .u8 241, .int .u8 241, .int .u8 241, .int .u8 241, .int .u8 241, .int .u8 241, .int .u8 241, .int .u8 241, .int .u8 241, .int .u8 241, .int .u8 241, .int .u8 241, .int .u8 241, .int .u8 2, .int .u8 2, .int .u8 2, .int .u8 2, .int .u8 2, .int .u8 2, .int .u8 2, .int .u8 2, .int .u8 2, .int .u8 2, .int .u8 2, .int .u8 2, .int .u8 2, .int .u8 2, .int .u8 2, .int .u8 2, .int .u8 2, .int .u8 2, .int .u8 2, .int .u8 2, .int .u8 2, .int .u8 2, .int .u8 2, .int .u8 2, .int .u8 2, .int .u8 2, .int .u8 2, .int .u8 2, .int .u8 2, .int .u8 2, .int .u8 19, .int .u8 3, .int .u8 3, .int .u8 3, .int .u8 3, .int .u8 3, .int .u8 3, .int .u8 3, .int .u8 3, .int .u8 3, .int .u8 3, .int .u8 3, .int .u8 3, .int .u8 35, .int .u8 3, .int .u8 3, .int .u8 52, .int .u8 4, .int .u8 4, .int .u8 4, .int .u8 68, .int .u8 241, .int .u8 241, .int .u8 241, .int .u8 241, .int .u8 241, .int .u8 241, .int .u8 241, .int .u8 241, .int .u8 241, .int .u8 241, .int .u8 241] t frozen
      | o => o) }
set_option maxRecDepth 100000 in
theorem laid_met (os : Os) : laidMet Tryz.prog Rows.fnExactGoodMessageRow.laid ((laidWorld os).forCall (fun _ _ => 0) ⟨#[], #[.agg #[.int .i64 0, .bool false, .bool false, .int .i64 0, .string ByteArray.empty, .int .i64 0, .slice none 0 0, .slice none 0 0]], []⟩).memory :=
  laidMet_of_run' 8 (by kernel_rfl) (by kernel_rfl)
theorem ptr_row (u : TypeId) (h : Tryz.prog.typeName? 3 u = some "*errors.errorString") : u = 158 :=
  typeName_ptr_named (nm := "errors.errorString") (by rw [show "*" ++ "errors.errorString" = "*errors.errorString" by decide]; kernel_rfl) (by kernel_rfl) (by decide) u (by rw [show "*" ++ "errors.errorString" = "*errors.errorString" by decide]; exact h)
/-- What the row lists is what the walk asks of the variables. -/
theorem vars_of {W : World} (hL : laidMet Tryz.prog Rows.fnExactGoodMessageRow.laid W) : P.Vars W := by
  obtain ⟨_, _, hs, -, -, -⟩ := laid_sentinel (n := "strconv.ErrSyntax") (g := 2) hL.tail.tail.tail.tail.tail (by kernel_rfl) (by kernel_rfl) Tryz.underlying82 ptr_row Tryz.underlying158 Tryz.underlying160 rfl rfl Tryz.underlying9 (by kernel_rfl) (by kernel_rfl)
  obtain ⟨_, _, hr, -, -, -⟩ := laid_sentinel (n := "strconv.ErrRange") (g := 3) hL.tail.tail.tail.tail (by kernel_rfl) (by kernel_rfl) Tryz.underlying82 ptr_row Tryz.underlying158 Tryz.underlying160 rfl rfl Tryz.underlying9 (by kernel_rfl) (by kernel_rfl)
  have hp : laidMet Tryz.prog (("internal/strconv.uint64pow10", Lib.tabData .u64 Lib.pow10Tab) :: _) W := hL.tail.tail
  have ht := Lib.tabIs_of_head (g := 1) (by kernel_rfl) (by kernel_rfl) Tryz.underlying130 Tryz.underlying116 (by kernel_rfl) (by kernel_rfl) hp
  exact ⟨⟨_, _, hs⟩, ⟨_, _, hr⟩, ht⟩
set_option maxRecDepth 100000 in
theorem contract (H : Type) (enc : TypeId × Value → H) (W : World) (base : Nat) (args : Array Value) (ds gs : List (DataW H)) (before : List MemPlace)
    (hval0 : ∀ (j : Nat) t v, Tryz.f4.params[j]? = some t → args[j]? = some v → Value.okWide Tryz.prog W .any base t v)
    (hW : DataW.Whole enc Tryz.prog Tryz.f4.params.toList Rows.fnExactGoodMessageSpec.vars false W args.toList ds gs before)
    (hsz0 : (DataW.weightsEach Tryz.prog (Tryz.f4.params.toList ++ Rows.fnExactGoodMessageSpec.plain.varTypes Tryz.prog) (ds ++ gs)).all (· ≤ reachBytes) = true) (hL : laidMet Tryz.prog Rows.fnExactGoodMessageRow.laid W) :
    Calls Tryz.prog 4 args W fun e W' => ∃ v, e = .returned v ∧ Rows.fnExactGoodMessageSpec.post enc Tryz.prog Tryz.f4 false true false false W args v W' := by
  have hsz : (DataW.weightsEach Tryz.prog (Tryz.f4.params.toList ++ Rows.fnExactGoodMessageSpec.plain.varTypes Tryz.prog) (ds ++ gs)).all (· ≤ reachBytes) = true := hsz0
  have hval : ∀ (j : Nat) t v, Tryz.f4.params[j]? = some t → args[j]? = some v → Value.okWide Tryz.prog W .any base t v := hval0
  have hW' := hW
  obtain ⟨p, q, hA0, hV, rfl, hfz, hnd⟩ := hW
  have hA : DataW.TrodAll enc Tryz.prog W 0 (fun _ => true) true Tryz.f4.params.toList args.toList ds p := hA0
  rw [Tryz.params4] at hA hval hsz
  obtain ⟨v0, vs0, d0, ds0, p0, q0, hargs, rfl, rfl, h0, r0⟩ := trodAll_cons hA
  obtain ⟨rfl, rfl, rfl⟩ := trodAll_nil r0
  obtain rfl : args = #[v0] := by cases args; simp_all
  obtain ⟨rfl, rfl⟩ := trodVars_none hV
  have k0 := h0
  have lt0 : ∀ x ∈ p0, x.block < W.heap.size := by obtain ⟨m, hm⟩ := k0; exact DataW.trod_lt m _ _ _ hm
  obtain ⟨l0, n0, rfl, z0, f0⟩ := open_agg Tryz.underlying32 (by kernel_rfl) (by kernel_rfl) (hval 0 32 v0 rfl rfl) h0
  obtain ⟨c0_0, c0_1, c0_2, c0_3, c0_4, c0_5, c0_6, c0_7, rfl⟩ := list8 z0
  obtain ⟨y0_0, hy0_0⟩ := f0 0 _ c0_0 rfl rfl
  obtain ⟨g0_0, eg0_0, wg0_0⟩ := opens_int Tryz.underlying3 H enc W 0 _ true _ _ _ hy0_0
  obtain ⟨rfl, _⟩ := List.cons.inj eg0_0
  obtain ⟨y0_1, hy0_1⟩ := f0 1 _ c0_1 rfl rfl
  obtain ⟨g0_1, eg0_1, wg0_1⟩ := opens_bool Tryz.underlying4 H enc W 0 _ true _ _ _ hy0_1
  obtain ⟨rfl, _⟩ := List.cons.inj eg0_1
  obtain ⟨y0_2, hy0_2⟩ := f0 2 _ c0_2 rfl rfl
  obtain ⟨g0_2, eg0_2, wg0_2⟩ := opens_bool Tryz.underlying4 H enc W 0 _ true _ _ _ hy0_2
  obtain ⟨rfl, _⟩ := List.cons.inj eg0_2
  obtain ⟨y0_3, hy0_3⟩ := f0 3 _ c0_3 rfl rfl
  obtain ⟨g0_3, eg0_3, wg0_3⟩ := opens_int Tryz.underlying3 H enc W 0 _ true _ _ _ hy0_3
  obtain ⟨rfl, _⟩ := List.cons.inj eg0_3
  obtain ⟨y0_4, hy0_4⟩ := f0 4 _ c0_4 rfl rfl
  obtain ⟨g0_4, eg0_4, wg0_4⟩ := opens_text Tryz.underlying9 H enc W 0 _ true _ _ _ hy0_4
  obtain ⟨rfl, _⟩ := List.cons.inj eg0_4
  obtain ⟨y0_5, hy0_5⟩ := f0 5 _ c0_5 rfl rfl
  obtain ⟨g0_5, eg0_5, wg0_5⟩ := opens_int Tryz.underlying3 H enc W 0 _ true _ _ _ hy0_5
  obtain ⟨rfl, _⟩ := List.cons.inj eg0_5
  obtain ⟨y0_6, hy0_6⟩ := f0 6 _ c0_6 rfl rfl
  obtain ⟨g0_6, ⟨Ag0_6, cg0_6, eg0_6, lg0_6, rg0_6⟩, mg0_6, wg0_6⟩ := opens_recs H enc W 0 _ true _ _ _ hy0_6
  obtain ⟨rfl, _⟩ := List.cons.inj eg0_6
  obtain ⟨y0_7, hy0_7⟩ := f0 7 _ c0_7 rfl rfl
  obtain ⟨g0_7, ⟨Ag0_7, cg0_7, eg0_7, lg0_7, rg0_7⟩, mg0_7, wg0_7⟩ := opens_recs H enc W 0 _ true _ _ _ hy0_7
  obtain ⟨rfl, _⟩ := List.cons.inj eg0_7
  clear f0
  clear hA0 hval0 hsz0 hsz
  obtain ⟨k, hk⟩ := Pure.FnExactGoodMessage g0_0 g0_1 g0_2 g0_3 g0_4 g0_5 g0_6 g0_7 wg0_4 mg0_6 wg0_6 mg0_7 wg0_7
  refine (P.laws_FnExactGoodMessage.calls k g0_0 g0_1 g0_2 g0_3 g0_4 g0_5 Ag0_6 cg0_6 g0_6 Ag0_7 cg0_7 g0_7 true W rg0_6 lg0_6 rg0_7 lg0_7 hk (vars_of hL)).mono fun e W' ⟨he, bel⟩ => ?_
  subst he
  exact ⟨_, rfl, _, _, _, [], _, [], hW', trodAll_mk1 (shut_bool Tryz.underlying4 _), (trodAll_cons_mk (Below.trod laidOut (by kernel_rfl) (of_decide_eq_true (by kernel_rfl)) k0 bel lt0) trodAll_mk0), rfl, bel.frame _, fun h => by cases h⟩

set_option maxRecDepth 100000 in
theorem reads (os : Os) {H : Type} (enc : TypeId × Value → H) : ∃ places, DataW.whole enc Tryz.prog ((laidWorld os).forCall (fun _ _ => 0) ⟨#[], #[.agg #[.int .i64 0, .bool false, .bool false, .int .i64 0, .string ByteArray.empty, .int .i64 0, .slice none 0 0, .slice none 0 0]], []⟩).memory Tryz.f4.params.toList Rows.fnExactGoodMessageSpec.vars false (#[.agg #[.int .i64 0, .bool false, .bool false, .int .i64 0, .string ByteArray.empty, .int .i64 0, .slice none 0 0, .slice none 0 0]] : Array Value).toList 8 = some ([.agg [.lit (.int .i64 0), .lit (.bool false), .lit (.bool false), .lit (.int .i64 0), .lit (.string []), .lit (.int .i64 0), .nil, .nil]], [], places) :=
  ⟨[], by kernel_rfl⟩
set_option maxRecDepth 100000 in
theorem lifted (os : Os) (started : os.Started) (H : Type) (enc : TypeId × Value → H) (F : Stop.Interp) :
    ReturnsInHanded {} Tryz.checked os 4 .any ((OpenSpec.ofChange Rows.fnExactGoodMessageSpec).preRow enc Tryz.prog Tryz.f4 Rows.fnExactGoodMessageRow.domain false Rows.fnExactGoodMessageRow.laid) (((OpenSpec.ofChange Rows.fnExactGoodMessageSpec).at F).post enc Tryz.prog Tryz.f4 false true false false) := by
  obtain ⟨places, hx⟩ := reads os enc
  refine returnsInHanded_of_row (C := Tryz.checked) (s := OpenSpec.ofChange Rows.fnExactGoodMessageSpec) own started (by kernel_rfl) Tryz.func4
    (witness_row_at (enc := enc) (C := Tryz.checked) false (laidWorld os) #[.agg #[.int .i64 0, .bool false, .bool false, .int .i64 0, .string ByteArray.empty, .int .i64 0, .slice none 0 0, .slice none 0 0]] rfl (by kernel_rfl) (by kernel_rfl) (by kernel_rfl)
      (OpenSpec.preRow_of_cond 8 hx (by kernel_rfl) (fun k hk => by cases hk) (by kernel_rfl) (laid_met os))) ?_
  intro W base args ds gs before hval hW _ _ hsz hL _ _
  exact contract H enc W base args ds gs before hval hW hsz hL
theorem said : Rows.FnExactGoodMessageSaid :=
  OpenClaim.holds_of_cond 4 Tryz.f4 rfl rfl rfl rfl rfl rfl rfl ⟨rfl, rfl, rfl, rfl, rfl⟩ rfl rfl rfl rfl rfl (by kernel_rfl) Tryz.func4 (by kernel_rfl)
    (of_decide_eq_true (by kernel_rfl)) (by unfold Func.isWrapper; first | (rw [if_pos (by decide +kernel)]; kernel_rfl) | (rw [if_neg (by decide +kernel)]; exact ⟨rfl, rfl⟩))
    (fun os started H enc _ F => by rw [OpenClaim.pre_eq_preRow]; exact lifted os started H enc F)
theorem wants : Tryz.f4.params.toList.all (fun t => Tryz.prog.wantsStandIn t == false) = true := by kernel_rfl
theorem plain (f : FuncId) (fn : Func) (hf : Tryz.pinned.checked.prog.funcNamed "loop.example/g00300/laws.FnExactGoodMessage" = some f) (hfn : Tryz.pinned.checked.prog.funcs[f]? = some fn) :
    true = Tryz.pinned.checked.prog.looks [] ∧ ∀ (j : Nat) t, fn.params[j]? = some t → Tryz.pinned.checked.prog.wantsStandIn t = false := by
  obtain rfl : f = 4 := Option.some.inj ((show Tryz.prog.funcNamed "loop.example/g00300/laws.FnExactGoodMessage" = some 4 by kernel_rfl).symm.trans hf) |>.symm
  obtain rfl : fn = Tryz.f4 := (Option.some.inj (Tryz.func4.symm.trans hfn)).symm
  refine ⟨by kernel_rfl, fun j t ht => ?_⟩
  exact eq_of_beq (List.all_eq_true.1 wants t (Array.mem_toList_iff.2 (Array.mem_of_getElem? ht)))
theorem proved : Rows.FnExactGoodMessageCardSaid :=
  Claim7.holds_tied_plain_at .later [] _ _ _ _ said (fun _ h => by cases h) (by kernel_rfl) (fun _ h => by cases h) fnExactGoodMessage_row_tie rfl ⟨rfl, rfl⟩ (by kernel_rfl) rfl plain (by kernel_rfl)
#print axioms proved
end Go.Proofs.YtecmicedacppbaaGreatDoor.fnExactGoodMessage
namespace Go.Proofs.YtecmicedacppbaaGreatDoor
/-- The card, under a short name, for the claim. -/
theorem fnExactGoodMessage_holds : Rows.FnExactGoodMessageCardSaid := fnExactGoodMessage.proved
end Go.Proofs.YtecmicedacppbaaGreatDoor
