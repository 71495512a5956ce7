/- FnExactNamesIn: part 27 of 30 of my texts for this claim, joined; the theorem stands in the last. Conditions: none beyond the statement's. -/
import Derived.Test.YtkpkfallgjdkmaaGreatDoorMFnExactNamesInx25
import Derived.Test.YtkpkfallgjdkmaaGreatDoorMFnExactNamesInx24
import Derived.Test.YtkpkfallgjdkmaaGreatDoorMFnExactNamesInx13
namespace Go.Proofs.YtkpkfallgjdkmaaGreatDoor.Pure
open Go.RowKit Go.Proofs.YtkpkfallgjdkmaaGreatDoor.P Go.Proofs.YtkpkfallgjdkmaaGreatDoorW.PrintWords Go.Proofs.YtkpkfallgjdkmaaGreatDoorW.PrintLast Go.Proofs.YtkpkfallgjdkmaaGreatDoorW.PrintMore
set_option linter.unusedVariables false
set_option linter.unusedSimpArgs false
theorem tl_eq (a b : ByteArray) : (a.toList = b.toList) ↔ a = b := by
 rw [Lib.toList_data, Lib.toList_data]; exact (nm_eq a b).symm
theorem w64p {x : Int} (h : x < 4611686018427387904) (h0 : 0 ≤ x) : wrap64 (x + 1) = x + 1 := by unfold wrap64; omega
theorem has_ev6 (L : List ZRec) (x : ByteArray) (c : Int) (hL : L.length < 1099511627776) : ∀ (m i : Nat), i + m = L.length → Ev (fun k => spec_l6Has.l0 k x c L (L.length : Int) (i : Int)) (hasL (L.drop i) x.data.toList c)
 | 0, i, h => by
  refine Ev.step (f := fun _ => some false) (fun k => ?_) ?_
  · show spec_l6Has.l0 (k + 1) x c L (L.length : Int) (i : Int) = _
    rw [spec_l6Has.l0, if_neg (by omega)]
  · rw [List.drop_of_length_le (by omega)]; exact Ev.now _
 | m + 1, i, h => by
  have hi : i < L.length := by omega
  have ih := has_ev6 L x c hL m (i + 1) (by omega)
  rw [List.drop_eq_getElem_cons hi]
  unfold hasL at ih ⊢
  rw [List.any_cons]
  have es : ∀ k, spec_l6Has.l0 (k + 1) x c L (L.length : Int) (i : Int) = (if L[i].f0.toList = x.toList then (if L[i].f1 = c then (some true) else (spec_l6Has.l0 k x c L (L.length : Int) ((i + 1 : Nat) : Int))) else (spec_l6Has.l0 k x c L (L.length : Int) ((i + 1 : Nat) : Int))) := fun k => by
   rw [spec_l6Has.l0, if_pos (by omega), if_pos (by omega), if_pos (by omega), rdI L i hi, w64n (by omega)]
  by_cases h1 : L[i].f0 = x
  · by_cases h2 : L[i].f1 = c
    · refine Ev.step (f := fun _ => some true) (fun k => ?_) ?_
      · rw [es, if_pos ((tl_eq _ _).2 h1), if_pos h2]
      · rw [decide_eq_true (show nmL L[i] = x.data.toList from (nm_eq _ _).1 h1), decide_eq_true h2]; exact Ev.now _
    · rw [decide_eq_false h2, Bool.and_false, Bool.false_or]
      exact Ev.step (fun k => by rw [es, if_pos ((tl_eq _ _).2 h1), if_neg h2]) ih
  · rw [decide_eq_false (show ¬ nmL L[i] = x.data.toList from fun e => h1 ((nm_eq _ _).2 e)), Bool.false_and, Bool.false_or]
    exact Ev.step (fun k => by rw [es, if_neg (fun e => h1 ((tl_eq _ _).1 e))]) ih
theorem hasF_ev (L : List ZRec) (x : ByteArray) (c : Int) (hL : L.length < 1099511627776) : Ev (fun k => spec_l6Has.f k L x c) (hasL L x.data.toList c) := by
 have := has_ev6 L x c hL L.length 0 (by omega)
 rw [List.drop_zero] at this
 exact Ev.congr (fun k => rfl) this
def repC : Option (List UInt8) → ByteArray × Bool
 | some c => (mkB c, true)
 | none => (⟨#[]⟩, false)
theorem cut_ev (apex : ByteArray) (L : List ZRec) (ha : apex.size ≤ 1048576) (hL : L.length < 1099511627776) : ∀ (n : Nat) (found : Option (List UInt8)) (name : List UInt8), name.length < n → name.length ≤ 1048576 →
 Ev (fun k => spec_l6Cut.l0 k apex L (mkB name) (repC found).1 (repC found).2) (repC (cutL apex.data.toList L n found name))
 | 0, found, name, hn, hs => absurd hn (by omega)
 | n + 1, found, name, hn, hs => by
  have hb := specBelow_eq (mkB name) apex (by rw [mkB_size]; omega) (by omega)
  rw [mkB_data] at hb
  unfold cutL
  have stop : Ev (fun k => spec_l6Cut.j1 k apex L (mkB name) (repC found).1 (repC found).2 false) (repC found) :=
   Ev.step (f := fun _ => some ((repC found).1, (repC found).2)) (fun k => by rw [spec_l6Cut.j1, if_neg (by decide)]) (Ev.now _)
  by_cases h1 : name = apex.data.toList
  · rw [if_neg (fun c => c.1 h1)]
    refine Ev.step (f := fun k => spec_l6Cut.j1 k apex L (mkB name) (repC found).1 (repC found).2 false) (fun k => ?_) stop
    rw [spec_l6Cut.l0, if_pos (by rw [Lib.toList_data, Lib.toList_data, mkB_data]; exact h1)]
  · refine Ev.step (f := fun k => spec_l6Cut.j1 k apex L (mkB name) (repC found).1 (repC found).2 (belowL name apex.data.toList)) (fun k => ?_) ?_
    · rw [spec_l6Cut.l0, if_neg (by rw [Lib.toList_data, Lib.toList_data, mkB_data]; exact h1), hb, Option.bind_some]
    · by_cases h2 : belowL name apex.data.toList = true
      · rw [if_pos ⟨h1, h2⟩, h2]
        have hh := hasF_ev L (mkB name) 2 hL
        have hp := specParent_ev (mkB name) (by rw [mkB_size]; omega)
        rw [mkB_data] at hh hp
        have hpl : (parL name).length ≤ name.length - 1 := parL_len name
        refine Ev.step (f := fun k => (spec_l6Has.f k L (mkB name) 2).bind fun t693 => (if t693 = true then (if (mkB name).toList = ([] : List UInt8) then (some ((mkB name), true)) else ((spec_l1Parent.f k (mkB name)).bind fun t694 => (spec_l6Cut.l0 k apex L t694 (mkB name) true))) else (if (mkB name).toList = ([] : List UInt8) then (some ((repC found).1, (repC found).2)) else ((spec_l1Parent.f k (mkB name)).bind fun t695 => (spec_l6Cut.l0 k apex L t695 (repC found).1 (repC found).2))))) (fun k => by rw [spec_l6Cut.j1, if_pos rfl]) (Ev.bind hh ?_)
        by_cases h3 : hasL L name 2 = true
        · simp only [if_pos h3]
          by_cases h4 : name = []
          · simp only [if_pos h4, if_pos (show (mkB name).toList = [] by rw [Lib.toList_data, mkB_data]; exact h4)]
            exact Ev.now _
          · have hlt : 0 < name.length := List.length_pos_iff.2 h4
            simp only [if_neg h4, if_neg (show ¬ (mkB name).toList = [] by rw [Lib.toList_data, mkB_data]; exact h4)]
            exact Ev.bind hp (cut_ev apex L ha hL n (some name) (parL name) (by omega) (by omega))
        · simp only [if_neg h3]
          by_cases h4 : name = []
          · simp only [if_pos h4, if_pos (show (mkB name).toList = [] by rw [Lib.toList_data, mkB_data]; exact h4)]
            exact Ev.now _
          · have hlt : 0 < name.length := List.length_pos_iff.2 h4
            simp only [if_neg h4, if_neg (show ¬ (mkB name).toList = [] by rw [Lib.toList_data, mkB_data]; exact h4)]
            exact Ev.bind hp (cut_ev apex L ha hL n found (parL name) (by omega) (by omega))
      · rw [if_neg (fun c => h2 c.2), Bool.eq_false_iff.mpr h2]
        exact stop
theorem cutF_ev (apex name : ByteArray) (L : List ZRec) (ha : apex.size ≤ 1048576) (hn : name.size ≤ 1048576) (hL : L.length < 1099511627776) : Ev (fun k => spec_l6Cut.f k apex L name) (repC (cutOf apex.data.toList L name.data.toList)) := by
 have := cut_ev apex L ha hL (name.data.toList.length + 1) none name.data.toList (by omega) (by rw [← size_len]; exact hn)
 rw [show mkB name.data.toList = name by simp [mkB]] at this
 exact Ev.congr (fun k => rfl) this
theorem rule4 (x0 : ByteArray) (L : List ZRec) (ha : x0.size ≤ 1048576) (hL : L.length < 1099511627776) (hs : ∀ r ∈ L, r.f0.size ≤ 1048576) : ∀ (m i : Nat), i + m = L.length →
 Ev (fun k => spec_l6Rule.l4 k x0 L L (L.length : Int) (i : Int)) (if (L.drop i).any (six x0.data.toList L) = true then 6 else 0)
 | 0, i, h => by
  refine Ev.step (f := fun _ => some 0) (fun k => ?_) ?_
  · show spec_l6Rule.l4 (k + 1) x0 L L (L.length : Int) (i : Int) = _
    rw [spec_l6Rule.l4, if_neg (by omega)]
  · rw [List.drop_of_length_le (by omega)]; exact Ev.now _
 | m + 1, i, h => by
  have hi : i < L.length := by omega
  have ih := rule4 x0 L ha hL hs m (i + 1) (by omega)
  have hc := cutF_ev x0 L[i].f0 L ha (hs _ (List.getElem_mem hi)) hL
  have es : ∀ k, spec_l6Rule.l4 (k + 1) x0 L L (L.length : Int) (i : Int) = ((spec_l6Cut.f k x0 L L[i].f0).bind fun bt716 => (if bt716.2 = true then (if L[i].f1 = 1 then (spec_l6Rule.l4 k x0 L L (L.length : Int) ((i + 1 : Nat) : Int)) else (if L[i].f1 = 2 then (if L[i].f0.toList = bt716.1.toList then (spec_l6Rule.l4 k x0 L L (L.length : Int) ((i + 1 : Nat) : Int)) else (some 6)) else (some 6))) else (spec_l6Rule.l4 k x0 L L (L.length : Int) ((i + 1 : Nat) : Int)))) := fun k => by
   rw [spec_l6Rule.l4, if_pos (by omega), if_pos (by omega), if_pos (by omega), rdI L i hi, w64n (by omega)]
  rw [List.drop_eq_getElem_cons hi, List.any_cons]
  refine Ev.step es (Ev.bind hc ?_)
  rw [show six x0.data.toList L L[i] = (match cutOf x0.data.toList L L[i].f0.data.toList with | some c => decide (L[i].f1 ≠ 1) && (decide (L[i].f1 ≠ 2) || decide (L[i].f0.data.toList ≠ c)) | none => false) from rfl]
  cases cutOf x0.data.toList L L[i].f0.data.toList with
  | none => simp only [repC, Bool.false_eq_true, if_false, Bool.false_or]; exact ih
  | some c =>
   simp only [repC, if_true]
   by_cases h1 : L[i].f1 = 1
   · simp only [if_pos h1, decide_eq_false (show ¬ L[i].f1 ≠ 1 from fun e => e h1), Bool.false_and, Bool.false_or]
     exact ih
   · simp only [if_neg h1, decide_eq_true h1, Bool.true_and]
     by_cases h2 : L[i].f1 = 2
     · simp only [if_pos h2, decide_eq_false (show ¬ L[i].f1 ≠ 2 from fun e => e h2), Bool.false_or]
       by_cases h3 : L[i].f0.data.toList = c
       · rw [decide_eq_false (show ¬ L[i].f0.data.toList ≠ c from fun e => e h3), Bool.false_or]
         exact Ev.congr (fun k => if_pos (show L[i].f0.toList = (mkB c).toList by rw [Lib.toList_data, Lib.toList_data, mkB_data]; exact h3)) ih
       · rw [decide_eq_true (show L[i].f0.data.toList ≠ c from h3), Bool.true_or, if_pos rfl]
         exact Ev.congr (fun k => if_neg (show ¬ L[i].f0.toList = (mkB c).toList by rw [Lib.toList_data, Lib.toList_data, mkB_data]; exact h3)) (Ev.now _)
     · simp only [if_neg h2, decide_eq_true h2, Bool.true_or, if_true]
       exact Ev.now _
theorem rule3 (x0 : ByteArray) (L : List ZRec) (r : ZRec) (i : Nat) {X : Int} (hL : L.length < 1099511627776) (hX : Ev (fun k => spec_l6Rule.l2 k x0 L L (L.length : Int) ((i + 1 : Nat) : Int)) X) (hi : i < L.length) (P : List ZRec) (hP : P.length < 1099511627776) : ∀ (m j : Nat), j + m = P.length →
 Ev (fun k => spec_l6Rule.l3 k x0 L L (L.length : Int) (i : Int) P (P.length : Int) (j : Int) r.f0 r.f1 r.f2 r.f3) (if (P.drop j).any (fun o => decide (o.f0 = r.f0) && (decide (o.f1 = 5) || decide (r.f1 = 5))) = true then 4 else X)
 | 0, j, h => by
  refine Ev.step (f := fun k => spec_l6Rule.l2 k x0 L L (L.length : Int) ((i + 1 : Nat) : Int)) (fun k => ?_) ?_
  · show spec_l6Rule.l3 (k + 1) x0 L L (L.length : Int) (i : Int) P (P.length : Int) (j : Int) r.f0 r.f1 r.f2 r.f3 = _
    rw [spec_l6Rule.l3, if_neg (by omega), w64n (by omega)]
  · rw [List.drop_of_length_le (by omega)]; exact hX
 | m + 1, j, h => by
  have hj : j < P.length := by omega
  have ih := rule3 x0 L r i hL hX hi P hP m (j + 1) (by omega)
  have es : ∀ k, spec_l6Rule.l3 (k + 1) x0 L L (L.length : Int) (i : Int) P (P.length : Int) (j : Int) r.f0 r.f1 r.f2 r.f3 = (if P[j].f0.toList = r.f0.toList then (if P[j].f1 = 5 then (some 4) else (if r.f1 = 5 then (some 4) else (spec_l6Rule.l3 k x0 L L (L.length : Int) (i : Int) P (P.length : Int) ((j + 1 : Nat) : Int) r.f0 r.f1 r.f2 r.f3))) else (spec_l6Rule.l3 k x0 L L (L.length : Int) (i : Int) P (P.length : Int) ((j + 1 : Nat) : Int) r.f0 r.f1 r.f2 r.f3)) := fun k => by
   rw [spec_l6Rule.l3, if_pos (by omega), if_pos (by omega), if_pos (by omega), rdI P j hj, w64n (by omega)]
  rw [List.drop_eq_getElem_cons hj, List.any_cons]
  refine Ev.step es ?_
  by_cases h1 : P[j].f0 = r.f0
  · simp only [if_pos ((tl_eq _ _).2 h1), decide_eq_true h1, Bool.true_and]
    by_cases h2 : P[j].f1 = 5
    · simp only [if_pos h2, decide_eq_true h2, Bool.true_or, if_true]; exact Ev.now _
    · simp only [if_neg h2, decide_eq_false h2, Bool.false_or]
      by_cases h3 : r.f1 = 5
      · simp only [if_pos h3, decide_eq_true h3, Bool.true_or, if_true]; exact Ev.now _
      · simp only [if_neg h3, decide_eq_false h3, Bool.false_or]
        simp only [decide_eq_false h3, Bool.or_false] at ih
        simp only [Bool.or_false]
        exact ih
  · simp only [if_neg (fun e => h1 ((tl_eq _ _).1 e)), decide_eq_false h1, Bool.false_and, Bool.false_or]
    exact ih
theorem rule2 (x0 : ByteArray) (L : List ZRec) (ha : x0.size ≤ 1048576) (hL : L.length < 1099511627776) (hs : ∀ r ∈ L, r.f0.size ≤ 1048576) : ∀ (m i : Nat), i + m = L.length →
 Ev (fun k => spec_l6Rule.l2 k x0 L L (L.length : Int) (i : Int)) (if pairB (L.take i) (L.drop i) = true then 4 else if hasL L x0.data.toList 5 = true then 5 else if L.any (six x0.data.toList L) = true then 6 else 0)
 | 0, i, h => by
  refine Ev.step (f := fun k => (spec_l6Has.f k L x0 5).bind fun t713 => (if t713 = true then (some 5) else (spec_l6Rule.l4 k x0 L L (L.length : Int) 0))) (fun k => ?_) ?_
  · show spec_l6Rule.l2 (k + 1) x0 L L (L.length : Int) (i : Int) = _
    rw [spec_l6Rule.l2, if_neg (by omega)]
  · rw [List.drop_of_length_le (by omega), pairB, if_neg (by decide)]
    refine Ev.bind (hasF_ev L x0 5 hL) ?_
    by_cases h5 : hasL L x0.data.toList 5 = true
    · simp only [if_pos h5]; exact Ev.now _
    · simp only [if_neg h5]
      have := rule4 x0 L ha hL hs L.length 0 (by omega)
      rw [List.drop_zero] at this
      exact this
 | m + 1, i, h => by
  have hi : i < L.length := by omega
  have ih := rule2 x0 L ha hL hs m (i + 1) (by omega)
  have hlen : (L.take i).length = i := by rw [List.length_take]; omega
  have h3 := rule3 x0 L L[i] i hL ih hi (L.take i) (by omega) (L.take i).length 0 (by omega)
  rw [List.drop_zero] at h3
  rw [List.drop_eq_getElem_cons hi, pairB]
  rw [List.take_add_one, List.getElem?_eq_getElem hi] at h3
  have e : (if ((L.take i).any fun o => decide (o.f0 = L[i].f0) && (decide (o.f1 = 5) || decide (L[i].f1 = 5))) = true then (4 : Int) else if pairB (L.take i ++ (some L[i]).toList) (L.drop (i + 1)) = true then 4 else if hasL L x0.data.toList 5 = true then 5 else if L.any (six x0.data.toList L) = true then 6 else 0) = (if (((L.take i).any fun o => decide (o.f0 = L[i].f0) && (decide (o.f1 = 5) || decide (L[i].f1 = 5))) || pairB (L.take i ++ [L[i]]) (L.drop (i + 1))) = true then 4 else if hasL L x0.data.toList 5 = true then 5 else if L.any (six x0.data.toList L) = true then 6 else 0) := by
   rw [show (some L[i]).toList = [L[i]] from rfl]
   cases ((L.take i).any fun o => decide (o.f0 = L[i].f0) && (decide (o.f1 = 5) || decide (L[i].f1 = 5))) with
   | true => simp only [if_true, Bool.true_or]
   | false => simp only [Bool.false_eq_true, if_false, Bool.false_or]
  rw [← e]
  refine Ev.step (fun k => ?_) h3
  rw [spec_l6Rule.l2, if_pos (by omega), if_pos (by omega), if_pos (by omega), if_pos (by omega), rdI L i hi, Option.bind_some, Int.toNat_natCast]
  rfl
theorem rule1 (x0 : ByteArray) (L : List ZRec) (hL : L.length < 1099511627776) {X : Int} (hX : Ev (fun k => spec_l6Rule.l2 k x0 L L (L.length : Int) 0) X) : ∀ (m i : Nat), i + m = L.length → 1 ≤ i →
 Ev (fun k => spec_l6Rule.l1 k x0 L L (L.length : Int) (i : Int)) (if adjB (L.drop (i - 1)) = true then 3 else X)
 | 0, i, h, h1 => by
  refine Ev.step (f := fun k => spec_l6Rule.l2 k x0 L L (L.length : Int) 0) (fun k => ?_) ?_
  · show spec_l6Rule.l1 (k + 1) x0 L L (L.length : Int) (i : Int) = _
    rw [spec_l6Rule.l1, if_neg (by omega)]
  · rw [List.drop_eq_getElem_cons (show i - 1 < L.length by omega), List.drop_of_length_le (by omega)]
    exact hX
 | m + 1, i, h, h1 => by
  have hi : i < L.length := by omega
  have hp : i - 1 < L.length := by omega
  have ih := rule1 x0 L hL hX m (i + 1) (by omega) (by omega)
  have wp : wrap64 ((i : Int) - 1) = ((i - 1 : Nat) : Int) := by unfold wrap64; omega
  have es : ∀ k, spec_l6Rule.l1 (k + 1) x0 L L (L.length : Int) (i : Int) = (if L[i - 1].f0.toList = L[i].f0.toList then (if L[i - 1].f1 = L[i].f1 then (if L[i - 1].f2 = L[i].f2 then (if L[i - 1].f3.toList = L[i].f3.toList then (some 3) else (spec_l6Rule.l1 k x0 L L (L.length : Int) ((i + 1 : Nat) : Int))) else (some 3)) else (spec_l6Rule.l1 k x0 L L (L.length : Int) ((i + 1 : Nat) : Int))) else (spec_l6Rule.l1 k x0 L L (L.length : Int) ((i + 1 : Nat) : Int))) := fun k => by
   rw [spec_l6Rule.l1, if_pos (by omega), if_pos (by omega), if_pos (by omega), if_pos (by omega), wp, if_pos (by omega), if_pos (by omega), rdI L i hi, rdI L (i - 1) hp, w64n (by omega)]
  rw [List.drop_eq_getElem_cons hp, show i - 1 + 1 = i by omega, List.drop_eq_getElem_cons hi, adjB]
  rw [Nat.add_sub_cancel, List.drop_eq_getElem_cons hi] at ih
  refine Ev.step es ?_
  unfold sameK
  by_cases c0 : L[i - 1].f0 = L[i].f0
  · by_cases c1 : L[i - 1].f1 = L[i].f1
    · by_cases c2 : L[i - 1].f2 = L[i].f2
      · by_cases c3 : L[i - 1].f3 = L[i].f3
        · simp only [if_pos ((tl_eq _ _).2 c0), if_pos c1, if_pos c2, if_pos ((tl_eq _ _).2 c3), decide_eq_true c0, decide_eq_true c1, decide_eq_true c3, Bool.true_and, Bool.or_true, Bool.true_or, if_true]
          exact Ev.now _
        · simp only [if_pos ((tl_eq _ _).2 c0), if_pos c1, if_pos c2, if_neg (fun e => c3 ((tl_eq _ _).1 e)), decide_eq_true c0, decide_eq_true c1, decide_eq_false c3, decide_eq_false (show ¬ L[i - 1].f2 ≠ L[i].f2 from fun e => e c2), Bool.true_and, Bool.or_false, Bool.false_or]
          exact ih
      · simp only [if_pos ((tl_eq _ _).2 c0), if_pos c1, if_neg c2, decide_eq_true c0, decide_eq_true c1, decide_eq_true (show L[i - 1].f2 ≠ L[i].f2 from c2), Bool.true_and, Bool.true_or, if_true]
        exact Ev.now _
    · simp only [if_pos ((tl_eq _ _).2 c0), if_neg c1, decide_eq_false c1, Bool.and_false, Bool.false_and, Bool.false_or]
      exact ih
  · simp only [if_neg (fun e => c0 ((tl_eq _ _).1 e)), decide_eq_false c0, Bool.false_and, Bool.false_or]
    exact ih
theorem rule1F (x0 : ByteArray) (L : List ZRec) (hL : L.length < 1099511627776) {X : Int} (hX : Ev (fun k => spec_l6Rule.l2 k x0 L L (L.length : Int) 0) X) : Ev (fun k => spec_l6Rule.l1 k x0 L L (L.length : Int) 0) (if adjB L = true then 3 else X) := by
 cases hl : L with
 | nil =>
  subst hl
  refine Ev.step (f := fun k => spec_l6Rule.l2 k x0 [] [] (([] : List ZRec).length : Int) 0) (fun k => ?_) hX
  rw [spec_l6Rule.l1, if_neg (by decide)]
 | cons x l =>
  rw [← hl]
  have hlen : 1 ≤ L.length := by rw [hl, List.length_cons]; omega
  have := rule1 x0 L hL hX (L.length - 1) 1 (by omega) (Nat.le_refl _)
  rw [Nat.sub_self, List.drop_zero] at this
  refine Ev.step (fun k => ?_) this
  rw [spec_l6Rule.l1, if_pos (by omega), if_pos (by omega), if_pos (by omega), if_neg (by omega), show wrap64 (0 + 1) = ((1 : Nat) : Int) by unfold wrap64; omega]
theorem rule0 (x0 : ByteArray) (L : List ZRec) (ha : x0.size ≤ 1048576) (hL : L.length < 1099511627776) (hs : ∀ r ∈ L, r.f0.size ≤ 1048576) {X : Int} (hX : Ev (fun k => spec_l6Rule.l1 k x0 L L (L.length : Int) 0) X) : ∀ (m i : Nat) (s : Int), i + m = L.length → 0 ≤ s → s ≤ 2 * i →
 Ev (fun k => spec_l6Rule.l0 k x0 L s L (L.length : Int) (i : Int)) (if ((L.drop i).any fun r => !belowL (nmL r) x0.data.toList) = true then 1 else if s + soaW x0 (L.drop i) ≠ 1 then 2 else X)
 | 0, i, s, h, h0, h1 => by
  rw [List.drop_of_length_le (by omega), List.any_nil, if_neg (by decide)]
  have es : ∀ k, spec_l6Rule.l0 (k + 1) x0 L s L (L.length : Int) (i : Int) = (if s = 1 then (spec_l6Rule.l1 k x0 L L (L.length : Int) 0) else (some 2)) := fun k => by
   rw [spec_l6Rule.l0, if_neg (by omega)]
  show Ev _ (if s + 0 ≠ 1 then 2 else X)
  by_cases c : s = 1
  · rw [if_neg (by omega)]
    exact Ev.step (fun k => by rw [es, if_pos c]) hX
  · rw [if_pos (by omega)]
    exact Ev.step (f := fun _ => some 2) (fun k => by rw [es, if_neg c]) (Ev.now _)
 | m + 1, i, s, h, h0, h1 => by
  have hi : i < L.length := by omega
  have hb := specBelow_eq L[i].f0 x0 (by have := hs _ (List.getElem_mem hi); omega) (by omega)
  have es : ∀ k, spec_l6Rule.l0 (k + 1) x0 L s L (L.length : Int) (i : Int) = (if belowL (nmL L[i]) x0.data.toList = true then (if L[i].f1 = 6 then (if L[i].f0.toList = x0.toList then (spec_l6Rule.l0 k x0 L (s + 1) L (L.length : Int) ((i + 1 : Nat) : Int)) else (spec_l6Rule.l0 k x0 L (s + 1 + 1) L (L.length : Int) ((i + 1 : Nat) : Int))) else (spec_l6Rule.l0 k x0 L s L (L.length : Int) ((i + 1 : Nat) : Int))) else (some 1)) := fun k => by
   rw [spec_l6Rule.l0, if_pos (by omega), if_pos (by omega), if_pos (by omega), rdI L i hi, hb, Option.bind_some, w64n (by omega), w64p (by omega) h0, w64p (by omega) (by omega)]
   rfl
  rw [List.drop_eq_getElem_cons hi, List.any_cons]
  refine Ev.step es ?_
  by_cases c : belowL (nmL L[i]) x0.data.toList = true
  · simp only [if_pos c, c, Bool.not_true, Bool.false_or]
    show Ev _ (if ((L.drop (i + 1)).any fun r => !belowL (nmL r) x0.data.toList) = true then 1 else if s + ((if L[i].f1 = 6 then (if L[i].f0 = x0 then 1 else 2) else 0) + soaW x0 (L.drop (i + 1))) ≠ 1 then 2 else X)
    by_cases c6 : L[i].f1 = 6
    · simp only [if_pos c6]
      by_cases ca : L[i].f0 = x0
      · simp only [if_pos ((tl_eq _ _).2 ca), if_pos ca]
        have ih := rule0 x0 L ha hL hs hX m (i + 1) (s + 1) (by omega) (by omega) (by omega)
        rw [show s + (1 + soaW x0 (L.drop (i + 1))) = s + 1 + soaW x0 (L.drop (i + 1)) by omega]
        exact ih
      · simp only [if_neg (fun e => ca ((tl_eq _ _).1 e)), if_neg ca]
        have ih := rule0 x0 L ha hL hs hX m (i + 1) (s + 1 + 1) (by omega) (by omega) (by omega)
        rw [show s + (2 + soaW x0 (L.drop (i + 1))) = s + 1 + 1 + soaW x0 (L.drop (i + 1)) by omega]
        exact ih
    · simp only [if_neg c6]
      have ih := rule0 x0 L ha hL hs hX m (i + 1) s (by omega) (by omega) (by omega)
      rw [show s + (0 + soaW x0 (L.drop (i + 1))) = s + soaW x0 (L.drop (i + 1)) by omega]
      exact ih
  · simp only [if_neg c, Bool.eq_false_iff.mpr c, Bool.not_false, Bool.true_or, if_true]
    exact Ev.now _
theorem specRule_ev (x0 : ByteArray) (L : List ZRec) (ha : x0.size ≤ 1048576) (hL : L.length < 1099511627776) (hs : ∀ r ∈ L, r.f0.size ≤ 1048576) : Ev (fun k => spec_l6Rule.f k x0 L) (ruleS x0 L) := by
 have h2 := rule2 x0 L ha hL hs L.length 0 (by omega)
 rw [List.take_zero, List.drop_zero] at h2
 have h0 := rule0 x0 L ha hL hs (rule1F x0 L hL h2) L.length 0 0 (by omega) (by omega) (by omega)
 rw [List.drop_zero, Int.zero_add] at h0
 exact Ev.congr (fun k => rfl) h0
end Go.Proofs.YtkpkfallgjdkmaaGreatDoor.Pure
namespace Go.Proofs.YtkpkfallgjdkmaaGreatDoor.P
open Go.RowKit Go.Proofs.YtkpkfallgjdkmaaGreatDoorW.PrintWords Go.Proofs.YtkpkfallgjdkmaaGreatDoorW.PrintLast Go.Proofs.YtkpkfallgjdkmaaGreatDoorW.PrintMore Go.Proofs.YtkpkfallgjdkmaaGreatDoor.Pure
set_option linter.unusedVariables false
set_option linter.unusedSimpArgs false
theorem box2 (w : World) (o1 o2 : Obj) : ((w.alloc o1).alloc o2).heap[w.heap.size + 1]? = some o2 := by
 show ((w.heap.push o1).push o2)[w.heap.size + 1]? = some o2
 rw [Array.getElem?_push, if_pos (by simp)]
theorem box1 (w : World) (o1 o2 : Obj) : ((w.alloc o1).alloc o2).heap[w.heap.size]? = some o1 := by
 show ((w.heap.push o1).push o2)[w.heap.size]? = some o1
 simp [Array.getElem?_push]
theorem cell1 (w : World) (v : Value) (t : TypeId) (o2 : Obj) : ((w.alloc (.cells #[v] t (0, 0))).alloc o2).cell? ⟨w.heap.size, 0, none⟩ = some v :=
 (blk_cell (box1 w _ o2) 0).trans rfl
theorem cell2 (w : World) (o1 : Obj) (v : Value) (t : TypeId) : ((w.alloc o1).alloc (.cells #[v] t (0, 0))).cell? ⟨w.heap.size + 1, 0, none⟩ = some v :=
 (blk_cell (box2 w o1 _) 0).trans rfl
def SizeOk (apex : ByteArray) (l : List (S72)) : Prop := apex.size ≤ 1048576 ∧ l.length ≤ 1048576 ∧ ∀ r ∈ l, r.f0.size ≤ 1048576
theorem at_loop (name : ByteArray) (kind : Int) (L : List (S72)) (hL : L.length ≤ 1048576) : ∀ (m i : Nat) (out : List (S72)), i + m = L.length → out.length ≤ i →
 Ev (fun k => impl_at.l0 k name kind out L (L.length : Int) (i : Int)) (out ++ atL (L.drop i) name kind)
 | 0, i, out, h, ho => by
  refine Ev.step (f := fun _ => some out) (fun k => ?_) ?_
  · show impl_at.l0 (k + 1) name kind out L (L.length : Int) (i : Int) = _
    rw [impl_at.l0, if_neg (by omega)]
  · rw [List.drop_of_length_le (by omega), show atL [] name kind = [] from rfl, List.append_nil]; exact Ev.now _
 | m + 1, i, out, h, ho => by
  have hi : i < L.length := by omega
  have hr : rd_T72 L (i : Int) = L[i] := by
   unfold rd_T72
   rw [Int.toNat_natCast, List.getD_eq_getElem?_getD, List.getElem?_eq_getElem hi, Option.getD_some]
  have hw : wrap64 ((i : Int) + 1) = ((i + 1 : Nat) : Int) := by unfold wrap64; omega
  have tl : ∀ a b : ByteArray, (a.toList = b.toList) ↔ a = b := fun a b => by rw [Lib.toList_data, Lib.toList_data]; exact (nm_eq a b).symm
  have es : ∀ k, impl_at.l0 (k + 1) name kind out L (L.length : Int) (i : Int) = (if L[i].f0 = name ∧ (kind = 0 ∨ L[i].f1 = kind) then (impl_at.l0 k name kind (out ++ [L[i]]) L (L.length : Int) ((i + 1 : Nat) : Int)) else (impl_at.l0 k name kind out L (L.length : Int) ((i + 1 : Nat) : Int))) := fun k => by
   rw [impl_at.l0, if_pos (by omega), if_pos (by omega), if_pos (by omega), hr, hw]
   by_cases c0 : L[i].f0 = name
   · rw [if_pos ((tl _ _).2 c0)]
     by_cases c1 : kind = 0
     · rw [if_pos c1, if_pos (by omega), if_pos ⟨c0, .inl c1⟩]
     · rw [if_neg c1]
       by_cases c2 : L[i].f1 = kind
       · rw [if_pos c2, if_pos (by omega), if_pos ⟨c0, .inr c2⟩]
       · rw [if_neg c2, if_neg (fun e => e.2.elim c1 c2)]
   · rw [if_neg (fun e => c0 ((tl _ _).1 e)), if_neg (fun e => c0 e.1)]
  rw [List.drop_eq_getElem_cons hi]
  refine Ev.step es ?_
  unfold atL
  rw [List.filter_cons]
  by_cases c : L[i].f0 = name ∧ (kind = 0 ∨ L[i].f1 = kind)
  · rw [if_pos (by simpa using c)]
    have ih := at_loop name kind L hL m (i + 1) (out ++ [L[i]]) (by omega) (by rw [List.length_append, List.length_singleton]; omega)
    unfold atL at ih
    rw [List.append_assoc] at ih
    exact Ev.congr (fun k => if_pos c) ih
  · rw [if_neg (by simpa using c)]
    have ih := at_loop name kind L hL m (i + 1) out (by omega) (by omega)
    unfold atL at ih
    exact Ev.congr (fun k => if_neg c) ih
theorem at_ev (name : ByteArray) (kind : Int) (L : List (S72)) (hL : L.length ≤ 1048576) : Ev (fun k => impl_at.f k L name kind) (atL L name kind) := by
 have := at_loop name kind L hL L.length 0 [] (by omega) (by simp)
 rw [List.drop_zero, List.nil_append] at this
 exact Ev.congr (fun k => rfl) this
theorem at_calls (A0 : Option Addr) (c0 : Nat) (l0 : List (S72)) (a1 : ByteArray) (a2 : Int) (w : World) (hr0 : Kd.C k72 w A0 l0.length l0) (hc0 : l0.length ≤ c0) (hl : l0.length ≤ 1048576) :
 Calls Tryz.prog 62 #[.slice A0 l0.length c0, .string a1, .int .i64 a2] w fun e w' => ∃ (A : Option Addr) (c : Nat), e = .returned (.slice A (atL l0 a1 a2).length c) ∧ Kd.C k72 w' A (atL l0 a1 a2).length (atL l0 a1 a2) ∧ Below w.heap.size w w' := by
 obtain ⟨K, h⟩ := at_ev a1 a2 l0 hl
 refine (impl_at.calls K A0 c0 l0 a1 a2 _ w hr0 hc0 (h K (Nat.le_refl _))).mono ?_
 rintro e w' ⟨v, rfl, hR, hB⟩
 obtain ⟨A, c, rfl⟩ := Kd.R_slice hR
 exact ⟨A, c, rfl, (Kd.R_reads' hR).2.2, hB⟩
set_option maxHeartbeats 4000000 in
set_option maxRecDepth 100000 in
theorem breaks_calls (apex : ByteArray) (A0 : Option Addr) (c0 : Nat) (l0 : List (S72)) (r : S72) (rule : Int) (w : World) (hr0 : Kd.C k72 w A0 l0.length l0) (hc0 : l0.length ≤ c0) (hs : SizeOk apex l0) (hr : r.f0.size ≤ 1048576) :
 Calls Tryz.prog 61 #[.string apex, .slice A0 l0.length c0, encR r, .int .i64 rule] w fun e w' => e = .returned (.bool (breaksL apex l0 r rule)) ∧ Below w.heap.size w w' := by
 have HS := Aside0.mk hs
 have HR := Aside0.mk hr0
 clear hs hr0
 by_cases r1 : rule = 1
 · subst r1
   have hb := Aside0.mk (implBelow_eq r.f0 apex (by have := HS.out.1; omega) (by have := HS.out.1; omega))
   have key : breaksL apex l0 r 1 = !belowL r.f0.data.toList apex.data.toList := rfl
   rw [key]
   clear key
   unfold encR
   go_enter Tryz.func61, Tryz.ntmps61
   go_wp2_with (go_at_call 90; refine (impl_isBelow.calls _ _ _ _ hb.out).mono ?_; rintro e w' ⟨rfl, ⟨nd, rfl⟩⟩)
   go_ret
   exact ⟨rfl, pw_below_drewN (below_alloc (below_alloc (Below.refl _ _) _) _) _⟩
 · by_cases r2 : rule = 2
   · subst r2
     clear r1
     have key : breaksL apex l0 r 2 = ((r.f1 == 6) && !(r.f0.toList == apex.toList)) := by
      rw [bytes_eq]
      have e : ∀ a b : Int, (a == b) = decide (a = b) := fun a b => by rw [Bool.eq_iff_iff, beq_iff_eq, decide_eq_true_eq]
      rw [e]
      show (decide (r.f1 = 6) && decide (r.f0 ≠ apex)) = _
      simp
     rw [key]
     clear key
     unfold encR
     by_cases c1 : r.f1 = 6
     · have b1 : (r.f1 == 6) = true := beq_iff_eq.mpr c1
       clear c1
       rw [b1, Bool.true_and]
       by_cases c2 : r.f0.toList = apex.toList
       · have b2 : (r.f0.toList == apex.toList) = true := beq_iff_eq.mpr c2
         have b2' : (r.f0.toList != apex.toList) = false := bne_eq_false_iff_eq.mpr c2
         clear c2
         rw [b2]
         go_enter Tryz.func61, Tryz.ntmps61
         go_wp2
         go_ret
         exact ⟨rfl, below_alloc (below_alloc (Below.refl _ _) _) _⟩
       · have b2 : (r.f0.toList == apex.toList) = false := beq_eq_false_iff_ne.mpr c2
         have b2' : (r.f0.toList != apex.toList) = true := bne_iff_ne.mpr c2
         clear c2
         rw [b2]
         go_enter Tryz.func61, Tryz.ntmps61
         go_wp2
         go_ret
         exact ⟨rfl, below_alloc (below_alloc (Below.refl _ _) _) _⟩
     · have b1 : (r.f1 == 6) = false := beq_eq_false_iff_ne.mpr c1
       clear c1
       rw [b1, Bool.false_and]
       go_enter Tryz.func61, Tryz.ntmps61
       go_wp2
       go_ret
       exact ⟨rfl, below_alloc (below_alloc (Below.refl _ _) _) _⟩
   · by_cases r3 : rule = 3
     · subst r3
       clear r1 r2
       have key : breaksL apex l0 r 3 = (atL l0 r.f0 r.f1).any (clashB r) := rfl
       rw [key]
       clear key
       have e91 : ∀ args w, (callFunc 91 args).run Tryz.prog w = .ok (.enter 91 args) w := enters_of Tryz.func91 (by kernel_rfl) rfl
       have c1 := fun W hr => at_calls A0 c0 l0 r.f0 r.f1 W hr hc0 HS.out.2.1
       have c2 := fun (A : Option Addr) (c : Nat) (W : World) (hC : Kd.C k72 W A (atL l0 r.f0 r.f1).length (atL l0 r.f0 r.f1)) (B : Nat) (hrec : RecAt W B r) => contains_rec A c (atL l0 r.f0 r.f1) 91 #[.pointer (some ⟨B, 0, none⟩)] (clashB r) W hC e91 (fun j x _ _ W' hW => breaks1 r x B W' (hrec.below hW))
       unfold encR
       go_enter Tryz.func61, Tryz.ntmps61
       go_wp2_with (first | (go_at_call 62; refine (c1 _ (Kd.C_below HR.out (below_alloc (below_alloc (Below.refl _ _) _) _))).mono ?_; rintro e w1 ⟨A, c, rfl, hC, hb⟩) | (go_at_call 59; refine (c2 A c _ hC (w.heap.size + 1) (RecAt.below (RecAt.of_box (box2 _ _ _)) hb)).mono ?_; rintro e w2 ⟨rfl, hb2⟩))
       go_ret
       exact ⟨rfl, below_step (below_step (below_alloc (below_alloc (Below.refl _ _) _) _) hb) hb2⟩
     · by_cases r4 : rule = 4
       · subst r4
         clear r1 r2 r3
         have key : breaksL apex l0 r 4 = ((r.f1 == 5) && decide (1 < ((atL l0 r.f0 0).length : Int))) := by
          have e : ∀ a b : Int, (a == b) = decide (a = b) := fun a b => by rw [Bool.eq_iff_iff, beq_iff_eq, decide_eq_true_eq]
          rw [e]
          show (decide (r.f1 = 5) && decide (1 < (atL l0 r.f0 0).length)) = _
          congr 1
          rw [decide_eq_decide]
          omega
         rw [key]
         clear key
         have c1 := fun W hr => at_calls A0 c0 l0 r.f0 0 W hr hc0 HS.out.2.1
         unfold encR
         by_cases c5 : r.f1 = 5
         · have b1 : (r.f1 == 5) = true := beq_iff_eq.mpr c5
           clear c5
           rw [b1, Bool.true_and]
           go_enter Tryz.func61, Tryz.ntmps61
           go_wp2_with (go_at_call 62; refine (c1 _ (Kd.C_below HR.out (below_alloc (below_alloc (Below.refl _ _) _) _))).mono ?_; rintro e w1 ⟨A, c, rfl, hC, hb⟩)
           go_ret
           exact ⟨rfl, below_step (below_alloc (below_alloc (Below.refl _ _) _) _) hb⟩
         · have b1 : (r.f1 == 5) = false := beq_eq_false_iff_ne.mpr c5
           clear c5
           rw [b1, Bool.false_and]
           go_enter Tryz.func61, Tryz.ntmps61
           go_wp2
           go_ret
           exact ⟨rfl, (below_alloc (below_alloc (Below.refl _ _) _) _)⟩
       · by_cases r5 : rule = 5
         · subst r5
           clear r1 r2 r3 r4
           have key : breaksL apex l0 r 5 = ((r.f1 == 5) && (r.f0.toList == apex.toList)) := by
            rw [bytes_eq]
            have e : ∀ a b : Int, (a == b) = decide (a = b) := fun a b => by rw [Bool.eq_iff_iff, beq_iff_eq, decide_eq_true_eq]
            rw [e]
            rfl
           rw [key]
           clear key
           unfold encR
           by_cases c5 : r.f1 = 5
           · have b1 : (r.f1 == 5) = true := beq_iff_eq.mpr c5
             clear c5
             rw [b1, Bool.true_and]
             go_enter Tryz.func61, Tryz.ntmps61
             go_wp2
             go_ret
             exact ⟨rfl, (below_alloc (below_alloc (Below.refl _ _) _) _)⟩
           · have b1 : (r.f1 == 5) = false := beq_eq_false_iff_ne.mpr c5
             clear c5
             rw [b1, Bool.false_and]
             go_enter Tryz.func61, Tryz.ntmps61
             go_wp2
             go_ret
             exact ⟨rfl, (below_alloc (below_alloc (Below.refl _ _) _) _)⟩
         · have key : breaksL apex l0 r rule = l0.any (cutB apex r) := by
            unfold breaksL
            rw [if_neg r1, if_neg r2, if_neg r3, if_neg r4, if_neg r5]
            rfl
           rw [key]
           clear key
           have b1 : (rule == 1) = false := beq_eq_false_iff_ne.mpr r1
           have b2 : (rule == 2) = false := beq_eq_false_iff_ne.mpr r2
           have b3 : (rule == 3) = false := beq_eq_false_iff_ne.mpr r3
           have b4 : (rule == 4) = false := beq_eq_false_iff_ne.mpr r4
           have b5 : (rule == 5) = false := beq_eq_false_iff_ne.mpr r5
           clear r1 r2 r3 r4 r5
           have e92 : ∀ args w, (callFunc 92 args).run Tryz.prog w = .ok (.enter 92 args) w := enters_of Tryz.func92 (by kernel_rfl) rfl
           have c2 := fun (W : World) (hC : Kd.C k72 W A0 l0.length l0) (BA B : Nat) (ha : W.cell? ⟨BA, 0, none⟩ = some (.string apex)) (hrec : RecAt W B r) => contains_rec A0 c0 l0 92 #[.pointer (some ⟨BA, 0, none⟩), .pointer (some ⟨B, 0, none⟩)] (cutB apex r) W hC e92 (fun j x hx _ W' hW => breaks2 apex r x BA B W' ⟨hr, HS.out.2.2 _ (List.mem_of_getElem? hx)⟩ ((hW.cell (World.block_lt_of_cell? _ _ ha)).trans ha) (hrec.below hW))
           unfold encR
           go_enter Tryz.func61, Tryz.ntmps61
           go_wp2_with (go_at_call 59; refine (c2 _ (Kd.C_below HR.out (below_alloc (below_alloc (Below.refl _ _) _) _)) w.heap.size (w.heap.size + 1) (cell1 _ _ _ _) (RecAt.of_box (box2 _ _ _))).mono ?_; rintro e w2 ⟨rfl, hb2⟩)
           go_ret
           exact ⟨rfl, below_step (below_alloc (below_alloc (Below.refl _ _) _) _) hb2⟩
instance (apex : ByteArray) (l : List (S72)) : Decidable (SizeOk apex l) := by unfold SizeOk; infer_instance
def impl_RuleOf.f (k : Nat) (apex : ByteArray) (l : List (S72)) : Option Int := if SizeOk apex l then (impl_isWhole.f k apex l).bind fun t => (if t = true then some (firstI apex l 6 1) else some 9) else none
set_option maxHeartbeats 4000000 in
set_option maxRecDepth 100000 in
theorem ruleOf1 (apex : ByteArray) (A0 : Option Addr) (c0 : Nat) (l0 : List (S72)) (r : S72) (rule : Int) (BA BL BR : Nat) (W : World) (hr0 : Kd.C k72 W A0 l0.length l0) (hc0 : l0.length ≤ c0) (hs : SizeOk apex l0) (hr : r.f0.size ≤ 1048576)
 (ha : W.cell? ⟨BA, 0, none⟩ = some (.string apex)) (hl : W.cell? ⟨BL, 0, none⟩ = some (.slice A0 l0.length c0)) (hru : W.cell? ⟨BR, 0, none⟩ = some (.int .i64 rule)) :
 Calls Tryz.prog 60 #[encR r, .pointer (some ⟨BA, 0, none⟩), .pointer (some ⟨BL, 0, none⟩), .pointer (some ⟨BR, 0, none⟩)] W fun e W' => e = .returned (.bool (breaksL apex l0 r rule)) ∧ Below W.heap.size W W' := by
 have cc := fun o => breaks_calls apex A0 c0 l0 r rule (W.alloc o) (Kd.C_below hr0 (below_alloc (Below.refl _ _) o)) hc0 hs hr
 have la := fun o => (below_alloc (Below.refl W.heap.size W) o).cell (World.block_lt_of_cell? _ _ ha) |>.trans ha
 have ll := fun o => (below_alloc (Below.refl W.heap.size W) o).cell (World.block_lt_of_cell? _ _ hl) |>.trans hl
 have lr := fun o => (below_alloc (Below.refl W.heap.size W) o).cell (World.block_lt_of_cell? _ _ hru) |>.trans hru
 unfold encR at cc ⊢
 go_enter Tryz.func60, Tryz.ntmps60
 go_wp2_with (go_at_call 61; refine (cc _).mono ?_; rintro e w' ⟨rfl, hb⟩)
 go_ret
 exact ⟨rfl, below_step (below_alloc (Below.refl _ _) _) hb⟩
set_option maxHeartbeats 4000000 in
set_option maxRecDepth 100000 in
theorem impl_RuleOf.calls (k : Nat) (a0 : ByteArray) (A1 : Option Addr) (c1 : Nat) (l1 : List (S72)) (r : Int) (w : World) (hr1 : Kd.C k72 w A1 l1.length l1) (hc1 : l1.length ≤ c1) (h : impl_RuleOf.f k a0 l1 = some r) (hv_ : Vars w := by first | assumption | (refine Vars.below (Aside0.out (by assumption)) ?_; repeat (first | (with_reducible first | exact Below.refl _ _ | exact Aside0.out (by assumption) | apply below_alloc | apply pw_below_drewN | apply below_drew1 | refine below_set ?_ (Aside0.out (by assumption))) | exact Aside0.out (by assumption)))) :
 Calls Tryz.prog 31 #[.string a0, .slice A1 l1.length c1] w fun e w' => e = .returned (.int .i64 r) ∧ Below w.heap.size w w' := by
 unfold impl_RuleOf.f at h
 by_cases hs : SizeOk a0 l1
 · rw [if_pos hs] at h
   obtain ⟨t, ht, h⟩ := Option.bind_eq_some_iff.mp h
   have HC := Aside0.mk hr1
   have HS := Aside0.mk hs
   have HT := Aside0.mk ht
   have HV := Aside0.mk hv_
   have cw := fun W hr hv => impl_isWhole.calls k a0 A1 c1 l1 t W hr hc1 HT.out hv
   clear hr1 hs ht hv_
   cases t with
   | false =>
    rw [if_neg (by decide)] at h
    obtain rfl := Option.some.inj h
    clear h
    go_enter Tryz.func31, Tryz.ntmps31
    go_wp2_with (go_at_call 58; refine (cw _ (Kd.C_below HC.out (below_alloc (below_alloc (Below.refl _ _) _) _)) (Vars.below HV.out (below_alloc (below_alloc (Below.refl _ _) _) _))).mono ?_; rintro e w1 ⟨rfl, hb⟩)
    go_ret
    exact ⟨rfl, below_step (below_alloc (below_alloc (Below.refl _ _) _) _) hb⟩
   | true =>
    rw [if_pos rfl] at h
    have H := Aside0.mk (Option.some.inj h)
    clear h
    go_enter Tryz.func31, Tryz.ntmps31
    go_wp2_with (go_at_call 58; refine (cw _ (Kd.C_below HC.out (below_alloc (below_alloc (Below.refl _ _) _) _)) (Vars.below HV.out (below_alloc (below_alloc (Below.refl _ _) _) _))).mono ?_; rintro e w1 ⟨rfl, hb⟩)
    have HB := Aside0.mk (below_step (below_alloc (below_alloc (Below.refl _ _) _) _) hb)
    have h2 := Aside0.mk ((hb.cell (World.block_lt_of_cell? _ _ (cell1 w (.string a0) 9 (.cells #[.slice A1 l1.length c1] 22 (0, 0))))).trans (cell1 w (.string a0) 9 (.cells #[.slice A1 l1.length c1] 22 (0, 0))))
    have h3 := Aside0.mk ((hb.cell (World.block_lt_of_cell? _ _ (cell2 w (.cells #[.string a0] 9 (0, 0)) (.slice A1 l1.length c1) 22))).trans (cell2 w (.cells #[.string a0] 9 (0, 0)) (.slice A1 l1.length c1) 22))
    clear hb
    have e60 : ∀ args w, (callFunc 60 args).run Tryz.prog w = .ok (.enter 60 args) w := enters_of Tryz.func60 (by kernel_rfl) rfl
    go_loopg [5] 6 (fun gg s5 wr => ∃ (kk B : Nat) (v : Int), kk ≤ 6 ∧ 6 - kk ≤ gg ∧ s5 = .pointer (some ⟨B, 0, none⟩) ∧ wr.cell? ⟨B, 0, none⟩ = some (.int .i64 v) ∧ Aside0 (v = (kk : Int) + 1) ∧ Aside0 (wr.cell? ⟨w.heap.size, 0, none⟩ = some (.string a0)) ∧ Aside0 (wr.cell? ⟨w.heap.size + 1, 0, none⟩ = some (.slice A1 l1.length c1)) ∧ Aside0 (Below w.heap.size w wr) ∧ Aside0 (firstI a0 l1 (6 - kk) v = r))
    case atStart => exact ⟨0, w1.heap.size, 1, by omega, by omega, rfl, by simp, ⟨rfl⟩, ⟨((below_alloc (Below.refl w1.heap.size w1) _).cell (World.block_lt_of_cell? _ _ h2.out)).trans h2.out⟩, ⟨((below_alloc (Below.refl w1.heap.size w1) _).cell (World.block_lt_of_cell? _ _ h3.out)).trans h3.out⟩, ⟨below_step HB.out (below_alloc (Below.refl _ _) _)⟩, H⟩
    case round =>
     clear h2 h3 HB H
     obtain ⟨kk, B, v, hkk, hg, rfl, l5, HVV, L2, L3, HB, H⟩ := hrel
     have l2 := L2.out
     have l3 := L3.out
     by_cases hlt : kk < 6
     · have hle : decide (v ≤ 6) = true := decide_eq_true (by have := HVV.out; omega)
       have cc := contains_rec A1 c1 l1 60 #[.pointer (some ⟨w.heap.size, 0, none⟩), .pointer (some ⟨w.heap.size + 1, 0, none⟩), .pointer (some ⟨B, 0, none⟩)] (fun r => breaksL a0 l1 r v) wr (Kd.C_below HC.out HB.out) e60 (fun j x hx _ W' hW => ruleOf1 a0 A1 c1 l1 x v w.heap.size (w.heap.size + 1) B W' (Kd.C_below (Kd.C_below HC.out HB.out) hW) hc1 HS.out (HS.out.2.2 _ (List.mem_of_getElem? hx)) ((hW.cell (World.block_lt_of_cell? _ _ L2.out)).trans L2.out) ((hW.cell (World.block_lt_of_cell? _ _ L3.out)).trans L3.out) ((hW.cell (World.block_lt_of_cell? _ _ l5)).trans l5))
       have e6 : firstI a0 l1 (6 - kk) v = if ruleI a0 l1 v = true then v else firstI a0 l1 (6 - (kk + 1)) (v + 1) := by
        rw [show 6 - kk = (6 - (kk + 1)) + 1 by omega, firstI]
       have H2 := Aside0.mk (e6.symm.trans H.out)
       clear e6 H
       cases hq : l1.any (fun r => breaksL a0 l1 r v) with
       | true =>
        rw [hq] at cc
        have hr : r = v := by
         rw [← H2.out]
         unfold ruleI
         rw [hq, Bool.true_or, if_pos rfl]
        go_wp2_with (go_at_call 59; refine cc.mono ?_; rintro e w2 ⟨rfl, hb⟩; have q5 := (hb.cell (World.block_lt_of_cell? _ _ l5)).trans l5)
        go_ret
        exact ⟨by rw [hr]; rfl, below_step HB.out hb⟩
       | false =>
        rw [hq] at cc
        have hw : wrap64 (v + 1) = v + 1 := by have := HVV.out; unfold wrap64; omega
        by_cases h2 : v = 2
        · have b2 : (v == 2) = true := beq_iff_eq.mpr h2
          have ca := fun W hr => at_calls A1 c1 l1 a0 6 W hr hc1 HS.out.2.1
          by_cases h1 : (atL l1 a0 6).length = 1
          · have b1 : (((atL l1 a0 6).length : Int) == 1) = true := beq_iff_eq.mpr (by omega)
            have b1' : (((atL l1 a0 6).length : Int) != 1) = false := bne_eq_false_iff_eq.mpr (by omega)
            have H3 : Aside0 (firstI a0 l1 (6 - (kk + 1)) (v + 1) = r) := ⟨by
             rw [← H2.out]
             unfold ruleI
             rw [hq, decide_eq_true h2, decide_eq_false (fun e => e h1), Bool.and_false, Bool.or_false, if_neg (by decide)]⟩
            clear H2 h2 h1
            go_wp2_with (first | (go_at_call 59; refine cc.mono ?_; rintro e w2 ⟨rfl, hb⟩; have q5 := (hb.cell (World.block_lt_of_cell? _ _ l5)).trans l5; have q2 := (hb.cell (World.block_lt_of_cell? _ _ L2.out)).trans L2.out; have q3 := (hb.cell (World.block_lt_of_cell? _ _ L3.out)).trans L3.out) | (go_at_call 62; refine (ca _ (Kd.C_below HC.out (below_step HB.out hb))).mono ?_; rintro e w3 ⟨A, c, rfl, hC, hb3⟩; have p5 := (hb3.cell (World.block_lt_of_cell? _ _ q5)).trans q5; have p2 := Aside0.mk ((hb3.cell (World.block_lt_of_cell? _ _ q2)).trans q2); have p3 := Aside0.mk ((hb3.cell (World.block_lt_of_cell? _ _ q3)).trans q3)))
            go_roundg (6 - (kk + 1))
            case measure => omega
            case rel => exact ⟨kk + 1, w3.heap.size, v + 1, by omega, by omega, rfl, by simp, ⟨by have := HVV.out; omega⟩, ⟨((below_alloc (Below.refl w3.heap.size w3) _).cell (World.block_lt_of_cell? _ _ p2.out)).trans p2.out⟩, ⟨((below_alloc (Below.refl w3.heap.size w3) _).cell (World.block_lt_of_cell? _ _ p3.out)).trans p3.out⟩, ⟨below_step (below_step (below_step HB.out hb) hb3) (below_alloc (Below.refl _ _) _)⟩, H3⟩
          · have b1 : (((atL l1 a0 6).length : Int) == 1) = false := beq_eq_false_iff_ne.mpr (by omega)
            have b1' : (((atL l1 a0 6).length : Int) != 1) = true := bne_iff_ne.mpr (by omega)
            have hr : r = v := by
             rw [← H2.out]
             unfold ruleI
             rw [hq, decide_eq_true h2, decide_eq_true h1, Bool.and_true, Bool.false_or, if_pos rfl]
            clear H2 h2 h1
            go_wp2_with (first | (go_at_call 59; refine cc.mono ?_; rintro e w2 ⟨rfl, hb⟩; have q5 := (hb.cell (World.block_lt_of_cell? _ _ l5)).trans l5; have q2 := (hb.cell (World.block_lt_of_cell? _ _ L2.out)).trans L2.out; have q3 := (hb.cell (World.block_lt_of_cell? _ _ L3.out)).trans L3.out) | (go_at_call 62; refine (ca _ (Kd.C_below HC.out (below_step HB.out hb))).mono ?_; rintro e w3 ⟨A, c, rfl, hC, hb3⟩; have p5 := (hb3.cell (World.block_lt_of_cell? _ _ q5)).trans q5; have p2 := Aside0.mk ((hb3.cell (World.block_lt_of_cell? _ _ q2)).trans q2); have p3 := Aside0.mk ((hb3.cell (World.block_lt_of_cell? _ _ q3)).trans q3)))
            go_ret
            exact ⟨by rw [hr]; rfl, below_step (below_step HB.out hb) hb3⟩
        · have b2 : (v == 2) = false := beq_eq_false_iff_ne.mpr h2
          have H3 : Aside0 (firstI a0 l1 (6 - (kk + 1)) (v + 1) = r) := ⟨by
           rw [← H2.out]
           unfold ruleI
           rw [hq, decide_eq_false h2, Bool.false_and, Bool.or_false, if_neg (by decide)]⟩
          clear H2 h2
          go_wp2_with (go_at_call 59; refine cc.mono ?_; rintro e w2 ⟨rfl, hb⟩; have q5 := (hb.cell (World.block_lt_of_cell? _ _ l5)).trans l5; have q2 := (hb.cell (World.block_lt_of_cell? _ _ L2.out)).trans L2.out; have q3 := (hb.cell (World.block_lt_of_cell? _ _ L3.out)).trans L3.out)
          have p2 := Aside0.mk q2
          have p3 := Aside0.mk q3
          go_roundg (6 - (kk + 1))
          case measure => omega
          case rel => exact ⟨kk + 1, w2.heap.size, v + 1, by omega, by omega, rfl, by simp, ⟨by have := HVV.out; omega⟩, ⟨((below_alloc (Below.refl w2.heap.size w2) _).cell (World.block_lt_of_cell? _ _ p2.out)).trans p2.out⟩, ⟨((below_alloc (Below.refl w2.heap.size w2) _).cell (World.block_lt_of_cell? _ _ p3.out)).trans p3.out⟩, ⟨below_step (below_step HB.out hb) (below_alloc (Below.refl _ _) _)⟩, H3⟩
     · have hle : decide (v ≤ 6) = false := decide_eq_false (by have := HVV.out; omega)
       have hr : r = 0 := by rw [← H.out, show 6 - kk = 0 by omega, firstI]
       go_wp2
       go_ret
       exact ⟨by rw [hr]; rfl, HB.out⟩
 · rw [if_neg hs] at h
   cases h
end Go.Proofs.YtkpkfallgjdkmaaGreatDoor.P
