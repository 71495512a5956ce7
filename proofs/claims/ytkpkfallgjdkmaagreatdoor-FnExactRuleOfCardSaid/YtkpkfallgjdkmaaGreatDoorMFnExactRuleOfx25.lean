/- FnExactRuleOf: part 26 of 26 of my texts for this claim, joined; the theorem stands in the last. Conditions: none beyond the statement's. -/
import Derived.Test.YtkpkfallgjdkmaaGreatDoorMFnExactRuleOfx24
import Derived.Test.YtkpkfallgjdkmaaGreatDoorMFnExactRuleOfx23
import Derived.Test.YtkpkfallgjdkmaaGreatDoorMFnExactRuleOfx13
import Derived.Test.YtkpkfallgjdkmaaGreatDoorMFnExactRuleOfx2
import Derived.WalkKit
import Derived.ProofKit
import Derived.OpenShut
import Derived.ShutString
import Derived.ChangeOld
import Derived.Below
import Derived.SizedLaws
import Derived.Lib.SmallJoins
import Derived.Deep.Slices
import Derived.Test.YtkpkfallgjdkmaaGreatDoorCards
import Derived.Test.YtkpkfallgjdkmaaGreatDoorTie
import Derived.Deep.DeepHandedRow
import Derived.Stop.LaidErr
import Derived.Lib.LaidTab
import Derived.Lib.ItoaNum
namespace Go.Proofs.YtkpkfallgjdkmaaGreatDoor.Pure
open Go.RowKit Go.Proofs.YtkpkfallgjdkmaaGreatDoor.P Go.Proofs.YtkpkfallgjdkmaaGreatDoorW.PrintWords Go.Proofs.YtkpkfallgjdkmaaGreatDoorW.PrintLast Go.Proofs.YtkpkfallgjdkmaaGreatDoorW.PrintMore
set_option linter.unusedVariables false
set_option linter.unusedSimpArgs false
/-- A text can be an apex. -/
def apexL (l : List UInt8) : Bool := goodL l && !l.contains 42
theorem apex_impl (s : ByteArray) : impl_isApex.f s = some (apexL s.data.toList) := by
  unfold impl_isApex.f impl_GoodName.f apexL
  rw [contains_eq]
  cases goodL s.data.toList with
  | true => rfl
  | false => rfl
theorem apex_loop (l : List ByteArray) (hl : l.length < 1099511627776) : ∀ (m i : Nat) (ok : Bool), i + m = l.length →
    Ev (fun k => spec_l6Apex.l0 k ok l (l.length : Int) (i : Int)) (ok && (l.drop i).all (fun x => decide (x.data.toList ≠ [42])))
  | 0, i, ok, him => by
    rw [List.drop_of_length_le (by omega), List.all_nil, Bool.and_true]
    refine Ev.step (f := fun _ => some ok) (fun k => ?_) (Ev.now _)
    show spec_l6Apex.l0 (k + 1) ok l (l.length : Int) (i : Int) = _
    rw [spec_l6Apex.l0, if_neg (by omega)]
  | m + 1, i, ok, him => by
    have hi : i < l.length := by omega
    have ih := apex_loop l hl m (i + 1) (ok && decide (l[i].data.toList ≠ [42])) (by omega)
    rw [List.drop_eq_getElem_cons hi, List.all_cons, ← Bool.and_assoc]
    refine Ev.step (fun k => ?_) ih
    show spec_l6Apex.l0 (k + 1) ok l (l.length : Int) (i : Int) = _
    rw [spec_l6Apex.l0, if_pos (by omega), if_pos (by omega), if_pos (by omega), td_rd l i hi, w64n (by omega), Lib.toList_data]
    cases ok with
    | true =>
      rw [if_pos rfl, Bool.true_and]
      congr 1
      by_cases h : l[i].data.toList = [42]
      · rw [h]; simp
      · rw [decide_eq_true h, bne_iff_ne.mpr h]
    | false => rfl
theorem apex_spec (s : ByteArray) (hs : s.size ≤ 1048576) : Ev (fun k => spec_l6Apex.f k s) (apexL s.data.toList) := by
  obtain ⟨r, e1, e2, e3⟩ := labels_ev s (by omega)
  have hlen : r.1.length < 1099511627776 := by
    by_cases h : r.2 = true
    · rw [e3 h, List.length_map]
      have := (good_all (e2.symm.trans h)).1
      omega
    · exact labels_short s hs r e1
  refine Ev.congr (fun k => rfl) (Ev.bind e1 ?_)
  have := apex_loop r.1 hlen r.1.length 0 r.2 (by omega)
  rw [List.drop_zero] at this
  have et : (r.2 && r.1.all (fun x => decide (x.data.toList ≠ [42]))) = apexL s.data.toList := by
    unfold apexL
    rw [e2]
    cases hg : goodL s.data.toList with
    | false => simp
    | true =>
      rw [e3 (e2.trans hg), Bool.true_and, Bool.true_and]
      have h1 := star_label hg
      rw [Bool.eq_iff_iff, List.all_eq_true, Bool.not_eq_true', Bool.eq_false_iff]
      constructor
      · intro h2 h3
        obtain ⟨p, hp, rfl⟩ := h1.1 h3
        exact of_decide_eq_true (h2 (mkB [42]) (List.mem_map.2 ⟨_, hp, rfl⟩)) (mkB_data _)
      · intro h2 x hx
        refine decide_eq_true fun h3 => ?_
        obtain ⟨p, hp, rfl⟩ := List.mem_map.1 hx
        rw [mkB_data] at h3
        exact h2 (h1.2 ⟨p, hp, h3⟩)
  rw [et] at this
  exact this
open Classical in
/-- The bytes of a record's data. -/
noncomputable def kB (r : ZRec) : List UInt8 := if h : ∃ x : ByteArray, Ev (fun k => spec_l3Bytes.f k r.f1 r.f3) (x, true) then h.choose.data.toList else []
theorem kB_eq {r : ZRec} {x : ByteArray} (h : Ev (fun k => spec_l3Bytes.f k r.f1 r.f3) (x, true)) : kB r = x.data.toList := by
  have hex : ∃ x : ByteArray, Ev (fun k => spec_l3Bytes.f k r.f1 r.f3) (x, true) := ⟨x, h⟩
  unfold kB
  rw [dif_pos hex]
  rw [(Prod.mk.inj (Ev.unique hex.choose_spec h)).1]
/-- A record is good. -/
noncomputable def goodRB (r : ZRec) : Bool := @decide (Ev (fun k => impl_GoodRecord.f k r.f0 r.f1 r.f2 r.f3) true) (Classical.propDecidable _)
theorem goodR_true {r : ZRec} (h : goodRB r = true) : Ev (fun k => impl_GoodRecord.f k r.f0 r.f1 r.f2 r.f3) true := by
  unfold goodRB at h
  exact @of_decide_eq_true _ (Classical.propDecidable _) h
theorem goodR_both (r : ZRec) (hr : Small r.f0 ∧ Small r.f3) : Ev (fun k => spec_GoodRecord.f k r.f0 r.f1 r.f2 r.f3) (goodRB r) ∧ Ev (fun k => impl_GoodRecord.f k r.f0 r.f1 r.f2 r.f3) (goodRB r) := by
  obtain ⟨b, _, r1, r2, _⟩ := goodrec_both r.f0 r.f1 r.f2 r.f3 hr.1 hr.2
  have e : goodRB r = b := by
    unfold goodRB
    cases b with
    | true => exact @decide_eq_true _ (Classical.propDecidable _) r2
    | false => exact @decide_eq_false _ (Classical.propDecidable _) fun h => by have := Ev.unique h r2; cases this
  rw [e]
  exact ⟨r1, r2⟩
theorem good_of {r : ZRec} (hr : Small r.f0 ∧ Small r.f3) (h : goodRB r = true) : r.f0.size ≤ 60 ∧ goodL r.f0.data.toList = true ∧ (1 ≤ r.f1 ∧ r.f1 ≤ 16) ∧ (0 ≤ r.f2 ∧ r.f2 ≤ 100000) ∧ r.f3.size ≤ 100 :=
  good_parts r.f0 r.f1 r.f2 r.f3 hr.1 hr.2 (goodR_true h)
theorem cmp_both (r s : ZRec) (hr : Small r.f0 ∧ Small r.f3) (hs : Small s.f0 ∧ Small s.f3) (gr : goodRB r = true) (gs : goodRB s = true) :
    Ev (fun k => spec_l3Compare.f k r.f0 r.f1 r.f2 r.f3 s.f0 s.f1 s.f2 s.f3) (recO kB r s) ∧ Ev (fun k => impl_compareRecords.f k r.f0 r.f1 r.f2 r.f3 s.f0 s.f1 s.f2 s.f3) (recO kB r s) := by
  obtain ⟨x, x1, x2⟩ := good_bytes r.f1 r.f3 r.f0 r.f2 hr.1 hr.2 (goodR_true gr)
  obtain ⟨y, y1, y2⟩ := good_bytes s.f1 s.f3 s.f0 s.f2 hs.1 hs.2 (goodR_true gs)
  have e : recO kB r s = ordR r.f0.data.toList r.f1 r.f2 x.data.toList s.f0.data.toList s.f1 s.f2 y.data.toList := by
    unfold recO
    rw [kB_eq x1, kB_eq y1]
    rfl
  rw [e]
  exact ⟨specOrd_ev _ _ _ _ _ _ _ _ _ _ hr.1 hs.1 (good_of hr gr).2.1 (good_of hs gs).2.1 x1 y1, implOrd_ev _ _ _ _ _ _ _ _ _ _ hr.1 hs.1 x2 y2⟩
/-- Records are good, and rise from one on. -/
noncomputable def riseFrom : ZRec → List ZRec → Bool
  | _, [] => true
  | p, r :: l => goodRB r && (decide (recO kB p r < 0) && riseFrom r l)
noncomputable def riseB : List ZRec → Bool
  | [] => true
  | r :: l => goodRB r && riseFrom r l
theorem rise_loops (L : List ZRec) (hL : L.length < 1099511627776) (hs : ∀ r ∈ L, Small r.f0 ∧ Small r.f3) : ∀ (m i : Nat), i + m = L.length → ∀ (hi : 1 ≤ i) (hp : i - 1 < L.length), goodRB L[i - 1] = true →
    Ev (fun k => impl_areRising.l0 k L L (L.length : Int) (i : Int)) (riseFrom L[i - 1] (L.drop i)) ∧ Ev (fun k => spec_l6List.l0 k L L (L.length : Int) (i : Int)) (riseFrom L[i - 1] (L.drop i) && decide ((L.length : Int) ≤ 40))
  | 0, i, h, hi, hp, hg => by
    rw [List.drop_of_length_le (by omega), riseFrom, Bool.true_and]
    refine ⟨Ev.step (f := fun _ => some true) (fun k => ?_) (Ev.now _), Ev.step (f := fun _ => some (decide ((L.length : Int) ≤ 40))) (fun k => ?_) (Ev.now _)⟩
    · show impl_areRising.l0 (k + 1) L L (L.length : Int) (i : Int) = _
      rw [impl_areRising.l0, if_neg (by omega)]
    · show spec_l6List.l0 (k + 1) L L (L.length : Int) (i : Int) = _
      rw [spec_l6List.l0, if_neg (by omega)]
  | m + 1, i, h, hi, hp, hg => by
    have hlt : i < L.length := by omega
    have wp : wrap64 ((i : Int) - 1) = ((i - 1 : Nat) : Int) := by unfold wrap64; omega
    obtain ⟨g1, g2⟩ := goodR_both L[i] (hs _ (List.getElem_mem hlt))
    have e1 : ∀ k, impl_areRising.l0 (k + 1) L L (L.length : Int) (i : Int) = (impl_GoodRecord.f k L[i].f0 L[i].f1 L[i].f2 L[i].f3).bind fun t598 => (if t598 = true then ((impl_compareRecords.f k L[i - 1].f0 L[i - 1].f1 L[i - 1].f2 L[i - 1].f3 L[i].f0 L[i].f1 L[i].f2 L[i].f3).bind fun t600 => (if t600 ≥ 0 then (some false) else (impl_areRising.l0 k L L (L.length : Int) ((i + 1 : Nat) : Int)))) else (some false)) := fun k => by
      rw [impl_areRising.l0, if_pos (by omega), if_pos (by omega), if_pos (by omega)]
      simp only [if_pos (show (i : Int) > 0 by omega), wp, if_pos (show (0 : Int) ≤ ((i - 1 : Nat) : Int) by omega), if_pos (show ((i - 1 : Nat) : Int) < (L.length : Int) by omega), rdI L i hlt, rdI L (i - 1) hp, w64n (show i < 4611686018427387904 by omega)]
    have e2 : ∀ k, spec_l6List.l0 (k + 1) L L (L.length : Int) (i : Int) = (spec_GoodRecord.f k L[i].f0 L[i].f1 L[i].f2 L[i].f3).bind fun t598 => (if t598 = true then ((spec_l3Compare.f k L[i - 1].f0 L[i - 1].f1 L[i - 1].f2 L[i - 1].f3 L[i].f0 L[i].f1 L[i].f2 L[i].f3).bind fun t600 => (if t600 ≥ 0 then (some false) else (spec_l6List.l0 k L L (L.length : Int) ((i + 1 : Nat) : Int)))) else (some false)) := fun k => by
      rw [spec_l6List.l0, if_pos (by omega), if_pos (by omega), if_pos (by omega)]
      simp only [if_pos (show (i : Int) > 0 by omega), wp, if_pos (show (0 : Int) ≤ ((i - 1 : Nat) : Int) by omega), if_pos (show ((i - 1 : Nat) : Int) < (L.length : Int) by omega), rdI L i hlt, rdI L (i - 1) hp, w64n (show i < 4611686018427387904 by omega)]
    rw [List.drop_eq_getElem_cons hlt, riseFrom]
    cases hgi : goodRB L[i] with
    | false =>
      rw [hgi] at g1 g2
      exact ⟨Ev.step e1 (Ev.bind g2 (Ev.now _)), Ev.step e2 (Ev.bind g1 (Ev.now _))⟩
    | true =>
      rw [hgi] at g1 g2
      obtain ⟨c1, c2⟩ := cmp_both L[i - 1] L[i] (hs _ (List.getElem_mem hp)) (hs _ (List.getElem_mem hlt)) hg hgi
      have ih := rise_loops L hL hs m (i + 1) (by omega) (by omega) (by simpa using hlt) hgi
      rw [Bool.true_and]
      have ih : Ev (fun k => impl_areRising.l0 k L L (L.length : Int) ((i + 1 : Nat) : Int)) (riseFrom L[i] (L.drop (i + 1))) ∧ Ev (fun k => spec_l6List.l0 k L L (L.length : Int) ((i + 1 : Nat) : Int)) (riseFrom L[i] (L.drop (i + 1)) && decide ((L.length : Int) ≤ 40)) := ih
      by_cases hc : recO kB L[i - 1] L[i] < 0
      · rw [decide_eq_true hc, Bool.true_and]
        refine ⟨Ev.step e1 (Ev.bind g2 ?_), Ev.step e2 (Ev.bind g1 ?_)⟩
        · simp only [if_true]
          refine Ev.bind c2 ?_
          simp only [if_neg (show ¬ recO kB L[i - 1] L[i] ≥ 0 by omega)]
          exact ih.1
        · simp only [if_true]
          refine Ev.bind c1 ?_
          simp only [if_neg (show ¬ recO kB L[i - 1] L[i] ≥ 0 by omega)]
          exact ih.2
      · rw [decide_eq_false hc, Bool.false_and, Bool.false_and]
        refine ⟨Ev.step e1 (Ev.bind g2 ?_), Ev.step e2 (Ev.bind g1 ?_)⟩
        · simp only [if_true]
          refine Ev.bind c2 ?_
          simp only [if_pos (show recO kB L[i - 1] L[i] ≥ 0 by omega)]
          exact Ev.now _
        · simp only [if_true]
          refine Ev.bind c1 ?_
          simp only [if_pos (show recO kB L[i - 1] L[i] ≥ 0 by omega)]
          exact Ev.now _
theorem rise_both (L : List ZRec) (hL : L.length < 1099511627776) (hs : ∀ r ∈ L, Small r.f0 ∧ Small r.f3) : Ev (fun k => impl_areRising.f k L) (riseB L) ∧ Ev (fun k => spec_l6List.f k L) (riseB L && decide ((L.length : Int) ≤ 40)) := by
  cases L with
  | nil =>
    refine ⟨Ev.congr (fun k => rfl) (Ev.step (f := fun _ => some true) (fun k => ?_) (Ev.now _)), Ev.congr (fun k => rfl) (Ev.step (f := fun _ => some (decide ((([] : List ZRec).length : Int) ≤ 40))) (fun k => ?_) (Ev.now _))⟩
    · show impl_areRising.l0 (k + 1) [] [] ((([] : List ZRec).length : Nat) : Int) 0 = _
      rw [impl_areRising.l0, if_neg (by decide)]
    · show spec_l6List.l0 (k + 1) [] [] ((([] : List ZRec).length : Nat) : Int) 0 = _
      rw [spec_l6List.l0, if_neg (by decide)]
  | cons x l =>
    obtain ⟨g1, g2⟩ := goodR_both x (hs _ List.mem_cons_self)
    have e1 : ∀ k, impl_areRising.l0 (k + 1) (x :: l) (x :: l) ((x :: l).length : Int) 0 = (impl_GoodRecord.f k x.f0 x.f1 x.f2 x.f3).bind fun t598 => (if t598 = true then (impl_areRising.l0 k (x :: l) (x :: l) ((x :: l).length : Int) ((1 : Nat) : Int)) else (some false)) := fun k => by
      have hlen : (0 : Int) < ((x :: l).length : Int) := by rw [List.length_cons]; omega
      rw [impl_areRising.l0, if_pos hlen, if_pos (by decide), if_pos hlen]
      simp only [if_neg (show ¬ (0 : Int) > 0 by decide), show wrap64 (0 + 1) = ((1 : Nat) : Int) by unfold wrap64; omega, show rd_T72 (x :: l) 0 = x from rfl]
    have e2 : ∀ k, spec_l6List.l0 (k + 1) (x :: l) (x :: l) ((x :: l).length : Int) 0 = (spec_GoodRecord.f k x.f0 x.f1 x.f2 x.f3).bind fun t598 => (if t598 = true then (spec_l6List.l0 k (x :: l) (x :: l) ((x :: l).length : Int) ((1 : Nat) : Int)) else (some false)) := fun k => by
      have hlen : (0 : Int) < ((x :: l).length : Int) := by rw [List.length_cons]; omega
      rw [spec_l6List.l0, if_pos hlen, if_pos (by decide), if_pos hlen]
      simp only [if_neg (show ¬ (0 : Int) > 0 by decide), show wrap64 (0 + 1) = ((1 : Nat) : Int) by unfold wrap64; omega, show rd_T72 (x :: l) 0 = x from rfl]
    rw [show riseB (x :: l) = (goodRB x && riseFrom x l) from rfl]
    cases hg : goodRB x with
    | false =>
      rw [hg] at g1 g2
      exact ⟨Ev.congr (fun k => rfl) (Ev.step e1 (Ev.bind g2 (Ev.now _))), Ev.congr (fun k => rfl) (Ev.step e2 (Ev.bind g1 (Ev.now _)))⟩
    | true =>
      rw [hg] at g1 g2
      have h := rise_loops (x :: l) hL hs l.length 1 (by rw [List.length_cons]; omega) (Nat.le_refl _) (by rw [List.length_cons]; omega) hg
      have h : Ev (fun k => impl_areRising.l0 k (x :: l) (x :: l) ((x :: l).length : Int) ((1 : Nat) : Int)) (riseFrom x l) ∧ Ev (fun k => spec_l6List.l0 k (x :: l) (x :: l) ((x :: l).length : Int) ((1 : Nat) : Int)) (riseFrom x l && decide (((x :: l).length : Int) ≤ 40)) := h
      rw [Bool.true_and]
      exact ⟨Ev.congr (fun k => rfl) (Ev.step e1 (Ev.bind g2 (by simp only [if_true]; exact h.1))), Ev.congr (fun k => rfl) (Ev.step e2 (Ev.bind g1 (by simp only [if_true]; exact h.2)))⟩
theorem riseFrom_true : ∀ (l : List ZRec) (p : ZRec), riseFrom p l = true → (∀ r ∈ l, goodRB r = true) ∧ (∀ r ∈ l, recO kB p r < 0) ∧ Rise kB l
  | [], p, h => ⟨fun r hr => (by cases hr), fun r hr => (by cases hr), List.Pairwise.nil⟩
  | x :: l, p, h => by
    unfold riseFrom at h
    rw [Bool.and_eq_true, Bool.and_eq_true, decide_eq_true_eq] at h
    obtain ⟨h1, h2, h3⟩ := riseFrom_true l x h.2.2
    refine ⟨fun r hr => ?_, fun r hr => ?_, List.pairwise_cons.2 ⟨h2, h3⟩⟩
    · rcases List.mem_cons.1 hr with rfl | hr
      · exact h.1
      · exact h1 r hr
    · rcases List.mem_cons.1 hr with rfl | hr
      · exact h.2.1
      · exact recO_trans kB h.2.1 (h2 r hr)
theorem riseB_true (L : List ZRec) (h : riseB L = true) : (∀ r ∈ L, goodRB r = true) ∧ Rise kB L := by
  cases L with
  | nil => exact ⟨fun r hr => (by cases hr), List.Pairwise.nil⟩
  | cons x l =>
    unfold riseB at h
    rw [Bool.and_eq_true] at h
    obtain ⟨h1, h2, h3⟩ := riseFrom_true l x h.2
    refine ⟨fun r hr => ?_, List.pairwise_cons.2 ⟨h2, h3⟩⟩
    rcases List.mem_cons.1 hr with rfl | hr
    · exact h.1
    · exact h1 r hr
/-- A zone's apex and records are as said. -/
noncomputable def wholeB (apex : ByteArray) (L : List ZRec) : Bool := apexL apex.data.toList && (decide ((L.length : Int) ≤ 40) && riseB L)
noncomputable def ruleT (apex : ByteArray) (L : List ZRec) : Int := if wholeB apex L = true then ruleS apex L else 9
theorem rule_both (apex : ByteArray) (L : List ZRec) (ha : apex.size ≤ 1048576) (hL : L.length ≤ 1048576) (hs : ∀ r ∈ L, Small r.f0 ∧ Small r.f3) : Ev (fun k => spec_RuleOf.f k apex L) (ruleT apex L) ∧ Ev (fun k => impl_RuleOf.f k apex L) (ruleT apex L) := by
  obtain ⟨r1, r2⟩ := rise_both L (by omega) hs
  have hz : SizeOk apex L := ⟨ha, hL, fun r hr => (hs r hr).1⟩
  unfold ruleT wholeB
  constructor
  · refine Ev.congr (fun k => rfl) (Ev.bind (apex_spec apex ha) ?_)
    cases apexL apex.data.toList with
    | false => exact Ev.now _
    | true =>
      simp only [if_true, Bool.true_and]
      refine Ev.bind r2 ?_
      rw [Bool.and_comm]
      cases (decide ((L.length : Int) ≤ 40) && riseB L) with
      | false => exact Ev.now _
      | true =>
        simp only [if_true]
        exact Ev.bind (specRule_ev apex L ha (by omega) fun r hr => (hs r hr).1) (Ev.now _)
  · have hw : Ev (fun k => impl_isWhole.f k apex L) (apexL apex.data.toList && (decide ((L.length : Int) ≤ 40) && riseB L)) := by
      refine Ev.congr (f := fun k => if apexL apex.data.toList = true then (if (L.length : Int) ≤ 40 then ((impl_areRising.f k L).bind fun t602 => (some t602)) else (some false)) else (some false)) (fun k => by unfold impl_isWhole.f; rw [apex_impl, Option.bind_some]) ?_
      cases apexL apex.data.toList with
      | false => exact Ev.now _
      | true =>
        simp only [if_true, Bool.true_and]
        by_cases h40 : (L.length : Int) ≤ 40
        · simp only [if_pos h40, decide_eq_true h40, Bool.true_and]
          exact Ev.bind r1 (Ev.now _)
        · simp only [if_neg h40, decide_eq_false h40, Bool.false_and]
          exact Ev.now _
    refine Ev.congr (f := fun k => (impl_isWhole.f k apex L).bind fun t => (if t = true then some (firstI apex L 6 1) else some 9)) (fun k => by unfold impl_RuleOf.f; rw [if_pos hz]) (Ev.bind hw ?_)
    cases hw2 : (apexL apex.data.toList && (decide ((L.length : Int) ≤ 40) && riseB L)) with
    | false => exact Ev.now _
    | true =>
      simp only [if_true]
      rw [Bool.and_eq_true, Bool.and_eq_true] at hw2
      obtain ⟨g, ri⟩ := riseB_true L hw2.2.2
      rw [rule_same kB apex L ri fun r hr => (good_of (hs r hr) (g r hr)).2.2.1.1]
      exact Ev.now _
end Go.Proofs.YtkpkfallgjdkmaaGreatDoor.Pure
namespace Go.Proofs.YtkpkfallgjdkmaaGreatDoor.Pure
open Go.RowKit Go.Proofs.YtkpkfallgjdkmaaGreatDoor.P Go.Proofs.YtkpkfallgjdkmaaGreatDoorW.PrintWords Go.Proofs.YtkpkfallgjdkmaaGreatDoorW.PrintLast Go.Proofs.YtkpkfallgjdkmaaGreatDoorW.PrintMore
set_option linter.unusedVariables false
set_option linter.unusedSimpArgs false
theorem FnExactRuleOf : ∀ (a : ByteArray) (l : List LRec), a.size ≤ maxLen → l.length ≤ maxLen → (∀ y ∈ l, y.f0.size ≤ maxLen ∧ y.f3.size ≤ maxLen) → ∃ k, laws_FnExactRuleOf.f k a l = some true := by
  intro a l ha hm hw
  suffices h : Ev (fun k => laws_FnExactRuleOf.f k a l) true from h.rounds
  unfold laws_FnExactRuleOf.f
  by_cases h : (a.size : Int) > 1048576
  · simp only [if_pos h]; exact Ev.now _
  · simp only [if_neg h]
    obtain ⟨t, e, q⟩ := szRS_ev l 1048576 (by decide) (by decide) hm hw
    refine Ev.bind e ?_
    by_cases ht : t < 0
    · simp only [if_pos ht]; exact Ev.now _
    · obtain ⟨q1, q2, q3⟩ := q (by omega)
      have eT := toRS_ev l q2
      obtain ⟨r1, r2⟩ := rule_both a (l.map conv) (by omega) (by rw [List.length_map]; exact q2) (small_conv q3)
      have eE := eqRS_ev (l.map conv) (by rw [List.length_map]; exact q2)
      simp only [if_neg ht]
      refine Ev.bind eT (Ev.bind r1 (Ev.bind eT (Ev.bind r2 ?_)))
      simp only [if_true]
      exact Ev.bind eT (Ev.bind eE (Ev.now _))
end Go.Proofs.YtkpkfallgjdkmaaGreatDoor.Pure
namespace Go.Proofs.YtkpkfallgjdkmaaGreatDoor.P
open Go.ChangeShapes Go.WideShapes Go.ChangeAt Go.RowKit Go.Joins Go.Deep Go.Proofs.YtkpkfallgjdkmaaGreatDoorW.PrintWords Go.Proofs.YtkpkfallgjdkmaaGreatDoorW.PrintLast Go.Proofs.YtkpkfallgjdkmaaGreatDoorW.PrintMore
set_option linter.unusedVariables false
set_option linter.unusedSimpArgs false
/-- What reads at a type is of a kind, and within bounds. -/
def Opens {α : Type} (P : Program) (t : TypeId) (d : Kd α) (ok : α → Prop) : Prop :=
  ∀ (H : Type) (enc : TypeId × Value → H) (w : World) (base : Nat) (spare : Nat → Bool) (held : Bool) (fuel : Nat) (cs : List Value) (x : DataW H × List MemPlace),
    DataW.trod enc P w base spare held fuel t cs = some x → ∃ y : α, d.K w y cs ∧ ok y
section
variable {P : Program} {t : TypeId}
theorem opens_text (ht : P.underlying t = some .string) : Opens P t Kd.string (fun s => s.size ≤ maxLen) := by
  intro H enc w base spare held fuel cs x h
  obtain ⟨s, e, _, hs⟩ := DataW.trod_string ht h
  exact ⟨s, e, hs⟩
theorem opens_int {k : IntKind} (ht : P.underlying t = some (.int k)) : Opens P t (Kd.int k) (fun _ => True) := by
  intro H enc w base spare held fuel cs x h
  obtain ⟨s, e, _, _⟩ := DataW.trod_int ht h
  exact ⟨s, e, trivial⟩
theorem opens_slice {α : Type} [Inhabited α] {e : TypeId} {d : Kd α} {ok : α → Prop} (ht : P.underlying t = some (.slice e)) (hc : P.cellsOf e = d.sz) (hd : Opens P e d ok) : Opens P t (Kd.slice e d) (fun l => l.length ≤ maxLen ∧ ∀ y ∈ l, ok y) := by
  intro H enc w base spare held fuel cs x h
  rcases DataW.trod_slice ht h with ⟨rfl, _⟩ | ⟨a, len, cap, elems, rest, n, _, rfl, _, hb, hl, hm, hlen, hel, _, _⟩
  · exact ⟨[], ⟨none, 0, rfl, Nat.le_refl _, rfl, by simp, fun h => absurd h (by simp)⟩, by simp, fun y hy => by cases hy⟩
  · have each : ∀ i, i < len → ∃ y : α, ok y ∧ ∃ c, c.length = d.sz ∧ d.K w y c ∧ ∀ j u, c[j]? = some u → w.cell? (a.add (i * d.sz + j)) = some u := by
      intro i hi
      have hi2 := hel i hi
      rw [List.getElem?_eq_getElem (by omega)] at hi2
      obtain ⟨cs', h1, h2⟩ := Option.bind_eq_some_iff.1 hi2
      obtain ⟨y, hy, hok⟩ := hd H enc w base spare held n cs' _ h2
      obtain ⟨_, hz, hcell⟩ := World.cells?_some h1
      refine ⟨y, hok, cs', by rw [hz, hc], hy, fun j u hu => ?_⟩
      have hj : j < P.cellsOf e := by
        rw [← hz]
        exact (List.getElem?_eq_some_iff.1 hu).1
      rw [← hc, ← Deep.add_add, hcell j hj, hu]
    obtain ⟨f, hf⟩ := choose_lt each
    refine ⟨(List.range len).map f, ⟨some a, cap, by simp, by simpa using hl, rfl, ?_, fun _ => ⟨a, rfl, fun j p hj => ?_⟩⟩, ?_, fun y hy => ?_⟩
    · simp only [List.length_map, List.length_range]
      simp only [maxLen] at hm
      omega
    · obtain ⟨hj2, hj3⟩ := List.getElem?_eq_some_iff.1 hj
      simp only [List.length_map, List.length_range] at hj2
      rw [List.getElem_map, List.getElem_range] at hj3
      subst hj3
      obtain ⟨_, c, c1, c2, c3⟩ := hf j hj2
      exact ⟨c, c1, c2, c3⟩
    · simp only [List.length_map, List.length_range]
      omega
    · obtain ⟨i, hi, rfl⟩ := List.mem_map.1 hy
      exact (hf i (List.mem_range.1 hi)).1
theorem opens_struct4 {α0 α1 α2 α3 : Type} {f0 f1 f2 f3 : Field} {d0 : Kd α0} {d1 : Kd α1} {d2 : Kd α2} {d3 : Kd α3} {k0 : α0 → Prop} {k1 : α1 → Prop} {k2 : α2 → Prop} {k3 : α3 → Prop} (ht : P.underlying t = some (.struct #[f0, f1, f2, f3])) (hone : oneCellFields P #[f0, f1, f2, f3] = true) (hC : P.cellsOf t = 4)
    (h0 : Opens P f0.type d0 k0) (h1 : Opens P f1.type d1 k1) (h2 : Opens P f2.type d2 k2) (h3 : Opens P f3.type d3 k3) :
    Opens P t (Kd.pair d0 (Kd.pair d1 (Kd.pair d2 d3))) (fun x => k0 x.1 ∧ k1 x.2.1 ∧ k2 x.2.2.1 ∧ k3 x.2.2.2) := by
  intro H enc w base spare held fuel cs x h
  obtain ⟨y0, y1, y2, y3, n, _, hl, g0, g1, g2, g3⟩ := trod_struct4 ht h
  rw [hC] at hl
  obtain ⟨o0, p0⟩ := hone_of hone 0 f0 rfl
  obtain ⟨o1, p1⟩ := hone_of hone 1 f1 rfl
  obtain ⟨o2, p2⟩ := hone_of hone 2 f2 rfl
  obtain ⟨o3, p3⟩ := hone_of hone 3 f3 rfl
  rw [o0, p0] at g0
  rw [o1, p1] at g1
  rw [o2, p2] at g2
  rw [o3, p3] at g3
  obtain ⟨z0, c0, e0⟩ := h0 H enc w base spare held n _ _ g0
  obtain ⟨z1, c1, e1⟩ := h1 H enc w base spare held n _ _ g1
  obtain ⟨z2, c2, e2⟩ := h2 H enc w base spare held n _ _ g2
  obtain ⟨z3, c3, e3⟩ := h3 H enc w base spare held n _ _ g3
  refine ⟨(z0, z1, z2, z3), ⟨_, _, ?_, c0, _, _, rfl, c1, _, _, rfl, c2, c3⟩, e0, e1, e2, e3⟩
  match cs, hl with
  | [a, b, c, d], _ => rfl
theorem opens_iso {α β : Type} {d : Kd α} {f : β → α} {k : α → Prop} (g : α → β) (hg : ∀ x, f (g x) = x) (h : Opens P t d k) : Opens P t (Kd.iso d f) (fun x => k (f x)) := by
  intro H enc w base spare held fuel cs x hx
  obtain ⟨y, h1, h2⟩ := h H enc w base spare held fuel cs x hx
  exact ⟨g y, by show d.K w (f (g y)) cs; rw [hg]; exact h1, by show k (f (g y)); rw [hg]; exact h2⟩
theorem Opens.imp {α : Type} {d : Kd α} {k k' : α → Prop} (h : Opens P t d k) (hk : ∀ x, k x → k' x) : Opens P t d k' := by
  intro H enc w base spare held fuel cs x hx
  obtain ⟨y, h1, h2⟩ := h H enc w base spare held fuel cs x hx
  exact ⟨y, h1, hk _ h2⟩
end
end Go.Proofs.YtkpkfallgjdkmaaGreatDoor.P
namespace Go.Proofs.YtkpkfallgjdkmaaGreatDoor.fnExactRuleOf
open Go.ChangeShapes Go.WideShapes Go.ChangeAt Go.RowKit Go.Joins Go.Proofs.YtkpkfallgjdkmaaGreatDoor.P Go.Proofs.YtkpkfallgjdkmaaGreatDoorW.PrintWords
open Go.ChangeMaps (open_string shut_string)
set_option linter.unusedVariables false
theorem own : ownKnob Tryz.prog.godebug = none := by kernel_rfl
theorem laidOut : laidOutB Tryz.prog = true := by kernel_rfl
instance : Inhabited (P.S71) := ⟨P.z71⟩
theorem opens_rec : Opens Tryz.prog 71 P.k71 (fun x => x.f0.size ≤ maxLen ∧ x.f3.size ≤ maxLen) :=
  Opens.imp (opens_iso (f := fun x : P.S71 => (x.f0, x.f1, x.f2, x.f3)) (fun x => (⟨x.1, x.2.1, x.2.2.1, x.2.2.2⟩ : P.S71)) (fun _ => rfl) (opens_struct4 Tryz.underlying71 (by kernel_rfl) (by kernel_rfl) (opens_text Tryz.underlying9) (opens_int Tryz.underlying3) (opens_int Tryz.underlying3) (opens_text Tryz.underlying9))) fun x h => ⟨h.1, h.2.2.2⟩
theorem opens_recs : Opens Tryz.prog 30 (Kd.slice 71 P.k71) (fun l => l.length ≤ maxLen ∧ ∀ y ∈ l, y.f0.size ≤ maxLen ∧ y.f3.size ≤ maxLen) :=
  opens_slice Tryz.underlying30 (by kernel_rfl) opens_rec
/-- So many blocks has the settled world. -/
noncomputable def low : Nat := (World.holding Tryz.prog default ⟨#[], #[], []⟩).heap.size
/-- A world for the witness: the settled one, the listed tables holding what the row lists. -/
noncomputable def laidWorld (os : Os) : World :=
  { World.holding Tryz.prog os ⟨#[.cells #[.string { data := #[118, 97, 108, 117, 101, 32, 111, 117, 116, 32, 111, 102, 32, 114, 97, 110, 103, 101] }] 179, .cells #[.string { data := #[105, 110, 118, 97, 108, 105, 100, 32, 115, 121, 110, 116, 97, 120] }] 179], #[], []⟩ with heap := ((((((((World.holding Tryz.prog os ⟨#[.cells #[.string { data := #[118, 97, 108, 117, 101, 32, 111, 117, 116, 32, 111, 102, 32, 114, 97, 110, 103, 101] }] 179, .cells #[.string { data := #[105, 110, 118, 97, 108, 105, 100, 32, 115, 121, 110, 116, 97, 120] }] 179], #[], []⟩).heap.modify 4 fun
      | .cells _ t frozen => .cells #[.int .u8 0, .int .u8 1, .int .u8 28, .int .u8 2, .int .u8 29, .int .u8 14, .int .u8 24, .int .u8 3, .int .u8 30, .int .u8 22, .int .u8 20, .int .u8 15, .int .u8 25, .int .u8 17, .int .u8 4, .int .u8 8, .int .u8 31, .int .u8 27, .int .u8 13, .int .u8 23, .int .u8 21, .int .u8 19, .int .u8 16, .int .u8 7, .int .u8 26, .int .u8 12, .int .u8 18, .int .u8 6, .int .u8 11, .int .u8 5, .int .u8 10, .int .u8 9] t frozen
      | o => o).modify 5 fun
      | .cells _ t frozen => .cells #[.int .u8 0, .int .u8 1, .int .u8 56, .int .u8 2, .int .u8 57, .int .u8 49, .int .u8 28, .int .u8 3, .int .u8 61, .int .u8 58, .int .u8 42, .int .u8 50, .int .u8 38, .int .u8 29, .int .u8 17, .int .u8 4, .int .u8 62, .int .u8 47, .int .u8 59, .int .u8 36, .int .u8 45, .int .u8 43, .int .u8 51, .int .u8 22, .int .u8 53, .int .u8 39, .int .u8 33, .int .u8 30, .int .u8 24, .int .u8 18, .int .u8 12, .int .u8 5, .int .u8 63, .int .u8 55, .int .u8 48, .int .u8 27, .int .u8 60, .int .u8 41, .int .u8 37, .int .u8 16, .int .u8 46, .int .u8 35, .int .u8 44, .int .u8 21, .int .u8 52, .int .u8 32, .int .u8 23, .int .u8 11, .int .u8 54, .int .u8 26, .int .u8 40, .int .u8 15, .int .u8 34, .int .u8 20, .int .u8 31, .int .u8 10, .int .u8 25, .int .u8 14, .int .u8 19, .int .u8 9, .int .u8 13, .int .u8 8, .int .u8 7, .int .u8 6] t frozen
      | o => o).modify 1 fun
      | .cells _ t frozen => .cells #[.int .u64 1, .int .u64 10, .int .u64 100, .int .u64 1000, .int .u64 10000, .int .u64 100000, .int .u64 1000000, .int .u64 10000000, .int .u64 100000000, .int .u64 1000000000, .int .u64 10000000000, .int .u64 100000000000, .int .u64 1000000000000, .int .u64 10000000000000, .int .u64 100000000000000, .int .u64 1000000000000000, .int .u64 10000000000000000, .int .u64 100000000000000000, .int .u64 1000000000000000000, .int .u64 10000000000000000000] t frozen
      | o => o).modify 3 fun
      | .cells _ t frozen => .cells #[.int .u8 128, .int .u8 191, .int .u8 160, .int .u8 191, .int .u8 128, .int .u8 159, .int .u8 144, .int .u8 191, .int .u8 128, .int .u8 143, .int .u8 0, .int .u8 0, .int .u8 0, .int .u8 0, .int .u8 0, .int .u8 0, .int .u8 0, .int .u8 0, .int .u8 0, .int .u8 0, .int .u8 0, .int .u8 0, .int .u8 0, .int .u8 0, .int .u8 0, .int .u8 0, .int .u8 0, .int .u8 0, .int .u8 0, .int .u8 0, .int .u8 0, .int .u8 0] t frozen
      | o => o).modify 7 fun
      | .cells _ t frozen => .cells #[.iface 177 (.pointer (some ⟨low, 0, none⟩))] t frozen
      | o => o).modify 6 fun
      | .cells _ t frozen => .cells #[.iface 177 (.pointer (some ⟨low + 1, 0, none⟩))] t frozen
      | o => o).modify 2 fun
      | .cells _ t frozen => .cells #[.int .u8 240, .int .u8 240, .int .u8 240, .int .u8 240, .int .u8 240, .int .u8 240, .int .u8 240, .int .u8 240, .int .u8 240, .int .u8 240, .int .u8 240, .int .u8 240, .int .u8 240, .int .u8 240, .int .u8 240, .int .u8 240, .int .u8 240, .int .u8 240, .int .u8 240, .int .u8 240, .int .u8 240, .int .u8 240, .int .u8 240, .int .u8 240, .int .u8 240, .int .u8 240, .int .u8 240, .int .u8 240, .int .u8 240, .int .u8 240, .int .u8 240, .int .u8 240, .int .u8 240, .int .u8 240, .int .u8 240, .int .u8 240, .int .u8 240, .int .u8 240, .int .u8 240, .int .u8 240, .int .u8 240, .int .u8 240, .int .u8 240, .int .u8 240, .int .u8 240, .int .u8 240, .int .u8 240, .int .u8 240, .int .u8 240, .int .u8 240, .int .u8 240, .int .u8 240, .int .u8 240, .int .u8 240, .int .u8 240, .int .u8 240, .int .u8 240, .int .u8 240, .int .u8 240, .int .u8 240, .int .u8 240, .int .u8 240, .int .u8 240, .int .u8 240, .int .u8 240, .int .u8 240, .int .u8 240, .int .u8 240, .int .u8 240, .int .u8 240, .int .u8 240, .int .u8 240, .int .u8 240, .int .u8 240, .int .u8 240, .int .u8 240, .int .u8 240, .int .u8 240, .int .u8 240, .int .u8 240, .int .u8 240, .int .u8 240, .int .u8 240, .int .u8 240, .int .u8 240, .int .u8 240, .int .u8 240, .int .u8 240, .int .u8 240, .int .u8 240, .int .u8 240, .int .u8 240, .int .u8 240, .int .u8 240, .int .u8 240, .int .u8 240, .int .u8 240, .int .u8 240, .int .u8 240, .int .u8 240, .int .u8 240, .int .u8 240, .int .u8 240, .int .u8 240, .int .u8 240, .int .u8 240, .int .u8 240, .int .u8 240, .int .u8 240, .int .u8 240, .int .u8 240, .int .u8 240, .int .u8 240, .int .u8 240, .int .u8 240, .int .u8 240, .int .u8 240, .int .u8 240, .int .u8 240, .int .u8 240, .int .u8 240, .int .u8 240, .int .u8 240, .int .u8 240, .int .u8 240, .int .u8 240, .int .u8 240, .int .u8 240, .int .u8 241, .int .u8 241, .int .u8 241, .int .u8 241, .int .u8 241, .int .u8 241, .int .u8 241, .int .u8 241, .int .u8 241, .int .u8 241, .int .u8 241, .int .u8 241, .int .u8 241, .int .u8 241, .int .u8 241, .int .u8 241, .int .u8 241, .int .u8 241, .int .u8 241, .int .u8 241, .int .u8 241, .int .u8 241, .int .u8 241, .int .u8 241, .int .u8 241, .int .u8 241, .int .u8 241, .int .u8 241, .int .u8 241, .int .u8 241, .int .u8 241, .int .u8 241, .int .u8 241, .int .u8 241, .int .u8 241, .int .u8 241, .int .u8 241, .int .u8 241, .int .u8 241, .int .u8 241, .int .u8 241, .int .u8 241, .int .u8 241, .int .u8 241, .int .u8 241, .int .u8 241, .int .u8 241, .int .u8 241, .int .u8 241, .int .u8 241, .int .u8 241, .int .u8 241, .int .u8 241, .int .u8 241, .int .u8 241, .int .u8 241, .int .u8 241, .int .u8 241, .int .u8 241, .int .u8 241, .int .u8 241, .int .u8 241, .int .u8 241, .int .u8 241, .int .u8 241, .int .u8 241, .int .u8 2, .int .u8 2, .int .u8 2, .int .u8 2, .int .u8 2, .int .u8 2, .int .u8 2, .int .u8 2, .int .u8 2, .int .u8 2, .int .u8 2, .int .u8 2, .int .u8 2, .int .u8 2, .int .u8 2, .int .u8 2, .int .u8 2, .int .u8 2, .int .u8 2, .int .u8 2, .int .u8 2, .int .u8 2, .int .u8 2, .int .u8 2, .int .u8 2, .int .u8 2, .int .u8 2, .int .u8 2, .int .u8 2, .int .u8 2, .int .u8 19, .int .u8 3, .int .u8 3, .int .u8 3, .int .u8 3, .int .u8 3, .int .u8 3, .int .u8 3, .int .u8 3, .int .u8 3, .int .u8 3, .int .u8 3, .int .u8 3, .int .u8 35, .int .u8 3, .int .u8 3, .int .u8 52, .int .u8 4, .int .u8 4, .int .u8 4, .int .u8 68, .int .u8 241, .int .u8 241, .int .u8 241, .int .u8 241, .int .u8 241, .int .u8 241, .int .u8 241, .int .u8 241, .int .u8 241, .int .u8 241, .int .u8 241] t frozen
      | o => o) }
set_option maxRecDepth 100000 in
theorem laid_met (os : Os) : laidMet Tryz.prog Rows.fnExactRuleOfRow.laid ((laidWorld os).forCall (fun _ _ => 0) ⟨#[], #[.string ByteArray.empty, .slice none 0 0], []⟩).memory :=
  laidMet_of_run' 8 (by kernel_rfl) (by kernel_rfl)
theorem ptr_row (u : TypeId) (h : Tryz.prog.typeName? 3 u = some "*errors.errorString") : u = 177 :=
  typeName_ptr_named (nm := "errors.errorString") (by rw [show "*" ++ "errors.errorString" = "*errors.errorString" by decide]; kernel_rfl) (by kernel_rfl) (by decide) u (by rw [show "*" ++ "errors.errorString" = "*errors.errorString" by decide]; exact h)
/-- What the row lists is what the walk asks of the variables. -/
theorem vars_of {W : World} (hL : laidMet Tryz.prog Rows.fnExactRuleOfRow.laid W) : P.Vars W := by
  obtain ⟨_, _, hs, -, -, -⟩ := laid_sentinel (n := "strconv.ErrSyntax") (g := 6) hL.tail.tail.tail.tail.tail (by kernel_rfl) (by kernel_rfl) Tryz.underlying140 ptr_row Tryz.underlying177 Tryz.underlying179 rfl rfl Tryz.underlying9 (by kernel_rfl) (by kernel_rfl)
  obtain ⟨_, _, hr, -, -, -⟩ := laid_sentinel (n := "strconv.ErrRange") (g := 7) hL.tail.tail.tail.tail (by kernel_rfl) (by kernel_rfl) Tryz.underlying140 ptr_row Tryz.underlying177 Tryz.underlying179 rfl rfl Tryz.underlying9 (by kernel_rfl) (by kernel_rfl)
  have hp : laidMet Tryz.prog (("internal/strconv.uint64pow10", Lib.tabData .u64 Lib.pow10Tab) :: _) W := hL.tail.tail
  have ht := Lib.tabIs_of_head (g := 1) (by kernel_rfl) (by kernel_rfl) Tryz.underlying148 Tryz.underlying130 (by kernel_rfl) (by kernel_rfl) hp
  exact ⟨⟨_, _, hs⟩, ⟨_, _, hr⟩, ht⟩
set_option maxRecDepth 100000 in
theorem contract (H : Type) (enc : TypeId × Value → H) (W : World) (base : Nat) (args : Array Value) (ds gs : List (DataW H)) (before : List MemPlace)
    (hval0 : ∀ (j : Nat) t v, Tryz.f6.params[j]? = some t → args[j]? = some v → Value.okWide Tryz.prog W .any base t v)
    (hW : DataW.Whole enc Tryz.prog Tryz.f6.params.toList Rows.fnExactRuleOfSpec.vars false W args.toList ds gs before)
    (hsz0 : (DataW.weightsEach Tryz.prog (Tryz.f6.params.toList ++ Rows.fnExactRuleOfSpec.plain.varTypes Tryz.prog) (ds ++ gs)).all (· ≤ reachBytes) = true) (hL : laidMet Tryz.prog Rows.fnExactRuleOfRow.laid W) :
    Calls Tryz.prog 6 args W fun e W' => ∃ v, e = .returned v ∧ Rows.fnExactRuleOfSpec.post enc Tryz.prog Tryz.f6 false true false false W args v W' := by
  have hsz : (DataW.weightsEach Tryz.prog (Tryz.f6.params.toList ++ Rows.fnExactRuleOfSpec.plain.varTypes Tryz.prog) (ds ++ gs)).all (· ≤ reachBytes) = true := hsz0
  have hval : ∀ (j : Nat) t v, Tryz.f6.params[j]? = some t → args[j]? = some v → Value.okWide Tryz.prog W .any base t v := hval0
  have hW' := hW
  obtain ⟨p, q, hA0, hV, rfl, hfz, hnd⟩ := hW
  have hA : DataW.TrodAll enc Tryz.prog W 0 (fun _ => true) true Tryz.f6.params.toList args.toList ds p := hA0
  rw [Tryz.params6] at hA hval hsz
  obtain ⟨v0, vs0, d0, ds0, p0, q0, hargs, rfl, rfl, h0, r0⟩ := trodAll_cons hA
  obtain ⟨v1, vs1, d1, ds1, p1, q1, rfl, rfl, rfl, h1, r1⟩ := trodAll_cons r0
  obtain ⟨rfl, rfl, rfl⟩ := trodAll_nil r1
  obtain rfl : args = #[v0, v1] := by cases args; simp_all
  obtain ⟨rfl, rfl⟩ := trodVars_none hV
  have k0 := h0
  have lt0 : ∀ x ∈ p0, x.block < W.heap.size := by obtain ⟨m, hm⟩ := k0; exact DataW.trod_lt m _ _ _ hm
  obtain ⟨a0, rfl, rfl, rfl, w0⟩ := open_string Tryz.underlying9 (hval 0 9 v0 rfl rfl) h0
  have wa0 : a0.size ≤ maxLen := by first | exact w0 | exact Nat.le_trans w0 (by decide)
  have k1 := h1
  have lt1 : ∀ x ∈ p1, x.block < W.heap.size := by obtain ⟨m, hm⟩ := k1; exact DataW.trod_lt m _ _ _ hm
  obtain ⟨s1, n1, b1, rfl⟩ := okWide_slice Tryz.underlying30 (hval 1 30 v1 rfl rfl)
  obtain ⟨u1, h1⟩ := h1
  have h1 : DataW.trod enc Tryz.prog W 0 (fun _ => true) true u1 30 [.slice s1 n1 b1] = some (d1, p1) := h1
  obtain ⟨g1, ⟨Ag1, cg1, eg1, lg1, rg1⟩, mg1, wg1⟩ := opens_recs H enc W 0 _ true _ _ _ h1
  obtain ⟨rfl, rfl, rfl⟩ : s1 = Ag1 ∧ n1 = g1.length ∧ b1 = cg1 := by simpa using eg1
  clear hA0 hval0 hsz0 hsz
  obtain ⟨k, hk⟩ := Pure.FnExactRuleOf a0 g1 wa0 mg1 wg1
  refine (P.laws_FnExactRuleOf.calls k a0 s1 b1 g1 true W rg1 lg1 hk (vars_of hL)).mono fun e W' ⟨he, bel⟩ => ?_
  subst he
  exact ⟨_, rfl, _, _, _, [], _, [], hW', trodAll_mk1 (shut_bool Tryz.underlying4 _), (trodAll_cons_mk (Below.trod laidOut (by kernel_rfl) (of_decide_eq_true (by kernel_rfl)) k0 bel lt0) (trodAll_cons_mk (Below.trod laidOut (by kernel_rfl) (of_decide_eq_true (by kernel_rfl)) k1 bel lt1) trodAll_mk0)), rfl, bel.frame _, fun h => by cases h⟩
set_option maxRecDepth 100000 in
theorem reads (os : Os) {H : Type} (enc : TypeId × Value → H) : ∃ places, DataW.whole enc Tryz.prog ((laidWorld os).forCall (fun _ _ => 0) ⟨#[], #[.string ByteArray.empty, .slice none 0 0], []⟩).memory Tryz.f6.params.toList Rows.fnExactRuleOfSpec.vars false (#[.string ByteArray.empty, .slice none 0 0] : Array Value).toList 8 = some ([.lit (.string []), .nil], [], places) :=
  ⟨[], by kernel_rfl⟩
set_option maxRecDepth 100000 in
theorem lifted (os : Os) (started : os.Started) (H : Type) (enc : TypeId × Value → H) (F : Stop.Interp) :
    ReturnsInHanded {} Tryz.checked os 6 .any ((OpenSpec.ofChange Rows.fnExactRuleOfSpec).preRow enc Tryz.prog Tryz.f6 Rows.fnExactRuleOfRow.domain false Rows.fnExactRuleOfRow.laid) (((OpenSpec.ofChange Rows.fnExactRuleOfSpec).at F).post enc Tryz.prog Tryz.f6 false true false false) := by
  obtain ⟨places, hx⟩ := reads os enc
  refine returnsInHanded_of_row (C := Tryz.checked) (s := OpenSpec.ofChange Rows.fnExactRuleOfSpec) own started (by kernel_rfl) Tryz.func6
    (witness_row_at (enc := enc) (C := Tryz.checked) false (laidWorld os) #[.string ByteArray.empty, .slice none 0 0] rfl (by kernel_rfl) (by kernel_rfl) (by kernel_rfl)
      (OpenSpec.preRow_of_cond 8 hx (by kernel_rfl) (fun k hk => by cases hk) (by kernel_rfl) (laid_met os))) ?_
  intro W base args ds gs before hval hW _ _ hsz hL _ _
  exact contract H enc W base args ds gs before hval hW hsz hL
theorem said : Rows.FnExactRuleOfSaid :=
  OpenClaim.holds_of_cond 6 Tryz.f6 rfl rfl rfl rfl rfl rfl rfl ⟨rfl, rfl, rfl, rfl, rfl⟩ rfl rfl rfl rfl rfl (by kernel_rfl) Tryz.func6 (by kernel_rfl)
    (of_decide_eq_true (by kernel_rfl)) (by unfold Func.isWrapper; first | (rw [if_pos (by decide +kernel)]; kernel_rfl) | (rw [if_neg (by decide +kernel)]; exact ⟨rfl, rfl⟩))
    (fun os started H enc _ F => by rw [OpenClaim.pre_eq_preRow]; exact lifted os started H enc F)
theorem wants : Tryz.f6.params.toList.all (fun t => Tryz.prog.wantsStandIn t == false) = true := by kernel_rfl
theorem plain (f : FuncId) (fn : Func) (hf : Tryz.pinned.checked.prog.funcNamed "loop.example/g00300/laws.FnExactRuleOf" = some f) (hfn : Tryz.pinned.checked.prog.funcs[f]? = some fn) :
    true = Tryz.pinned.checked.prog.looks [] ∧ ∀ (j : Nat) t, fn.params[j]? = some t → Tryz.pinned.checked.prog.wantsStandIn t = false := by
  obtain rfl : f = 6 := Option.some.inj ((show Tryz.prog.funcNamed "loop.example/g00300/laws.FnExactRuleOf" = some 6 by kernel_rfl).symm.trans hf) |>.symm
  obtain rfl : fn = Tryz.f6 := (Option.some.inj (Tryz.func6.symm.trans hfn)).symm
  refine ⟨by kernel_rfl, fun j t ht => ?_⟩
  exact eq_of_beq (List.all_eq_true.1 wants t (Array.mem_toList_iff.2 (Array.mem_of_getElem? ht)))
theorem proved : Rows.FnExactRuleOfCardSaid :=
  Claim7.holds_tied_plain_at .later [] _ _ _ _ said (fun _ h => by cases h) (by kernel_rfl) (fun _ h => by cases h) fnExactRuleOf_row_tie rfl ⟨rfl, rfl⟩ (by kernel_rfl) rfl plain (by kernel_rfl)
#print axioms proved
end Go.Proofs.YtkpkfallgjdkmaaGreatDoor.fnExactRuleOf
namespace Go.Proofs.YtkpkfallgjdkmaaGreatDoor
/-- The card, under a short name, for the claim. -/
theorem fnExactRuleOf_holds : Rows.FnExactRuleOfCardSaid := fnExactRuleOf.proved
end Go.Proofs.YtkpkfallgjdkmaaGreatDoor
