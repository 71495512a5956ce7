/- FnExactSetIn: part 29 of 31 of my texts for this claim, joined; the theorem stands in the last. Conditions: none beyond the statement's. -/
import Derived.Test.YtkpkfallgjdkmaaGreatDoorMFnExactSetInx27
import Derived.Test.YtkpkfallgjdkmaaGreatDoorMFnExactSetInx21
import Derived.Test.YtkpkfallgjdkmaaGreatDoorMFnExactSetInx10
import Derived.Test.YtkpkfallgjdkmaaGreatDoorMFnExactSetInx11
namespace Go.Proofs.YtkpkfallgjdkmaaGreatDoor.Pure
open Go.RowKit Go.Proofs.YtkpkfallgjdkmaaGreatDoor.P Go.Proofs.YtkpkfallgjdkmaaGreatDoorW.PrintWords Go.Proofs.YtkpkfallgjdkmaaGreatDoorW.PrintLast Go.Proofs.YtkpkfallgjdkmaaGreatDoorW.PrintMore
set_option linter.unusedVariables false
set_option linter.unusedSimpArgs false
theorem num_it (n : Int) (h0 : 0 ≤ n) (h1 : n < 9223372036854775807) : Ev (fun k => spec_l1Num.f k n) (itB n) := by
 have := num_ev n.toNat n.toNat (Nat.le_refl _) (by omega)
 rwa [show ((n.toNat : Nat) : Int) = n by omega] at this
theorem itoa_it (n : Int) (h0 : 0 ≤ n) (h1 : n < 9223372036854775807) : strconv_Itoa.f n = some (itB n) := by
 unfold strconv_Itoa.f itB Lib.itoa
 rw [if_pos (by omega), if_neg (by omega)]
 rfl
/-- The serial of a counter, as a text. -/
def serT (c : Int) : ByteArray := itB (Int.tmod c 4294967296)
theorem ser_range {c : Int} (h : 0 ≤ c) : 0 ≤ Int.tmod c 4294967296 ∧ Int.tmod c 4294967296 < 9223372036854775807 := by
 rw [Int.tmod_eq_emod_of_nonneg h]
 omega
theorem soa_ev (apex : ByteArray) (c : Int) (L : List ZRec) (h : 0 ≤ c) : Ev (fun k => spec_l6Soa.f k apex c L) (serT c) :=
 Ev.congr (fun k => rfl) (Ev.bind (num_it _ (ser_range h).1 (ser_range h).2) (Ev.now _))
theorem ser_impl (c : Int) (h : 0 ≤ c) : impl_serialText.f c = some (serT c) := by
 unfold impl_serialText.f
 rw [itoa_it _ (ser_range h).1 (ser_range h).2]
 rfl
theorem gz_loop (apex : ByteArray) (c : Int) (L : List ZRec) (hc : 0 ≤ c) (hL : L.length < 1099511627776) : ∀ (m i : Nat), i + m = L.length →
 Ev (fun k => spec_GoodZone.l0 k L (L.length : Int) (i : Int) apex c L) ((L.drop i).all fun r => !decide (r.f1 = 6) || decide (r.f3 = serT c))
 | 0, i, h => by
  rw [List.drop_of_length_le (by omega), List.all_nil]
  refine Ev.step (f := fun _ => some true) (fun k => ?_) (Ev.now _)
  show spec_GoodZone.l0 (k + 1) L (L.length : Int) (i : Int) apex c L = _
  rw [spec_GoodZone.l0, if_neg (by omega)]
 | m + 1, i, h => by
  have hi : i < L.length := by omega
  have ih := gz_loop apex c L hc hL m (i + 1) (by omega)
  have es : ∀ k, spec_GoodZone.l0 (k + 1) L (L.length : Int) (i : Int) apex c L = (if L[i].f1 = 6 then ((spec_l6Soa.f k apex c L).bind fun t750 => (if L[i].f3.toList = t750.toList then (spec_GoodZone.l0 k L (L.length : Int) ((i + 1 : Nat) : Int) apex c L) else (some false))) else (spec_GoodZone.l0 k L (L.length : Int) ((i + 1 : Nat) : Int) apex c L)) := fun k => by
   rw [spec_GoodZone.l0, if_pos (by omega), if_pos (by omega), if_pos (by omega), rdI L i hi, w64n (by omega)]
  rw [List.drop_eq_getElem_cons hi, List.all_cons]
  refine Ev.step es ?_
  by_cases h6 : L[i].f1 = 6
  · rw [decide_eq_true h6, Bool.not_true, Bool.false_or]
    simp only [if_pos h6]
    refine Ev.bind (soa_ev apex c L hc) ?_
    by_cases hs : L[i].f3 = serT c
    · rw [decide_eq_true hs, Bool.true_and]
      exact Ev.congr (fun k => if_pos ((tl_eq _ _).2 hs)) ih
    · rw [decide_eq_false hs, Bool.false_and]
      exact Ev.congr (fun k => if_neg (fun e => hs ((tl_eq _ _).1 e))) (Ev.now _)
  · rw [decide_eq_false h6, Bool.not_false, Bool.true_or, Bool.true_and]
    simp only [if_neg h6]
    exact ih
/-- No rule is broken: then there is one record of a serial, at the apex. -/
theorem soa_one {apex : ByteArray} {L : List ZRec} (h : ruleS apex L = 0) : (atL L apex 6).length = 1 ∧ ∀ r ∈ L, r.f1 = 6 → r.f0 = apex := by
 unfold ruleS at h
 by_cases h1 : (L.any fun r => !belowL (nmL r) apex.data.toList) = true
 · rw [if_pos h1] at h; cases h
 · rw [if_neg h1] at h
   by_cases h2 : soaW apex L ≠ 1
   · rw [if_pos h2] at h; cases h
   · have h3 : soaW apex L = 1 := Decidable.not_not.1 h2
     rw [soa_parts] at h3
     have h4 : (L.filter fun r => decide (r.f1 = 6) && decide (r.f0 ≠ apex)).length = 0 := by omega
     refine ⟨by omega, fun r hr h6 => ?_⟩
     apply Decidable.byContradiction
     intro hne
     have : r ∈ L.filter fun r => decide (r.f1 = 6) && decide (r.f0 ≠ apex) := List.mem_filter.2 ⟨hr, by simp [h6, hne]⟩
     rw [List.length_eq_zero_iff.1 h4] at this
     cases this
theorem soa_all {apex : ByteArray} {L : List ZRec} (h : ruleS apex L = 0) (T : ByteArray) : (L.all fun r => !decide (r.f1 = 6) || decide (r.f3 = T)) = (atL L apex 6).all fun r => decide (r.f3 = T) := by
 have h1 := (soa_one h).2
 rw [Bool.eq_iff_iff, List.all_eq_true, List.all_eq_true]
 unfold atL
 constructor
 · intro hh r hr
   obtain ⟨h2, h3⟩ := List.mem_filter.1 hr
   have h4 : r.f1 = 6 := by simpa using (Bool.and_eq_true_iff.1 h3).2
   have := hh r h2
   rw [decide_eq_true h4, Bool.not_true, Bool.false_or] at this
   exact this
 · intro hh r hr
   by_cases h6 : r.f1 = 6
   · rw [decide_eq_true h6, Bool.not_true, Bool.false_or]
     exact hh r (List.mem_filter.2 ⟨hr, by simp [h6, h1 r hr h6]⟩)
   · rw [decide_eq_false h6, Bool.not_false, Bool.true_or]
/-- A zone is good. -/
noncomputable def zoneB (apex : ByteArray) (c : Int) (L : List ZRec) : Bool := decide (0 ≤ c ∧ c ≤ 1152921504606846976) && (decide (ruleT apex L = 0) && (atL L apex 6).all fun r => decide (r.f3 = serT c))
theorem ruleT_zero {apex : ByteArray} {L : List ZRec} (h : ruleT apex L = 0) : wholeB apex L = true ∧ ruleS apex L = 0 := by
 unfold ruleT at h
 by_cases hw : wholeB apex L = true
 · rw [if_pos hw] at h; exact ⟨hw, h⟩
 · rw [if_neg hw] at h; cases h
theorem zone_both (apex : ByteArray) (c : Int) (L : List ZRec) (ha : apex.size ≤ 1048576) (hL : L.length ≤ 1048576) (hs : ∀ r ∈ L, Small r.f0 ∧ Small r.f3) : Ev (fun k => spec_GoodZone.f k apex c L) (zoneB apex c L) ∧ Ev (fun k => impl_GoodZone.f k apex c L) (zoneB apex c L) := by
 obtain ⟨r1, r2⟩ := rule_both apex L ha hL hs
 unfold zoneB
 constructor
 · refine Ev.congr (f := fun k => if decide (0 ≤ c ∧ c ≤ 1152921504606846976) = true then ((spec_RuleOf.f k apex L).bind fun t747 => (spec_GoodZone.j0 k (t747 != 0) apex c L)) else (spec_GoodZone.j0 k true apex c L)) (fun k => by unfold spec_GoodZone.f; rw [within_spec, Option.bind_some]) ?_
   have jb : Ev (fun k => spec_GoodZone.j0 k true apex c L) false := Ev.step (f := fun _ => some false) (fun k => by rw [spec_GoodZone.j0, if_pos rfl]) (Ev.now _)
   by_cases hc : 0 ≤ c ∧ c ≤ 1152921504606846976
   · simp only [decide_eq_true hc, if_true, Bool.true_and]
     refine Ev.bind r1 ?_
     by_cases h0 : ruleT apex L = 0
     · rw [decide_eq_true h0, Bool.true_and, ← soa_all (ruleT_zero h0).2, show (ruleT apex L != 0) = false from bne_eq_false_iff_eq.mpr h0]
       have := gz_loop apex c L hc.1 (by omega) L.length 0 (by omega)
       rw [List.drop_zero] at this
       exact Ev.step (fun k => by rw [spec_GoodZone.j0, if_neg (by decide)]; rfl) this
     · rw [decide_eq_false h0, Bool.false_and, show (ruleT apex L != 0) = true from bne_iff_ne.mpr h0]
       exact jb
   · simp only [decide_eq_false hc, Bool.false_eq_true, if_false, Bool.false_and]
     exact jb
 · have hcnt : impl_isCounter.f c = some (decide (0 ≤ c ∧ c ≤ 1152921504606846976)) := by
    unfold impl_isCounter.f
    rw [within_eq]
    rfl
   refine Ev.congr (f := fun k => if decide (0 ≤ c ∧ c ≤ 1152921504606846976) = true then ((impl_RuleOf.f k apex L).bind fun t618 => (if t618 = 0 then ((impl_at.f k L apex 6).bind fun t619 => (if 0 < (t619.length : Int) then ((impl_serialText.f c).bind fun t623 => (some (((rd_T72 t619 0).f3).toList == t623.toList))) else (none))) else (some false))) else (some false)) (fun k => by unfold impl_GoodZone.f; rw [hcnt, Option.bind_some]) ?_
   by_cases hc : 0 ≤ c ∧ c ≤ 1152921504606846976
   · simp only [decide_eq_true hc, if_true, Bool.true_and]
     refine Ev.bind r2 ?_
     by_cases h0 : ruleT apex L = 0
     · simp only [if_pos h0, decide_eq_true h0, Bool.true_and]
       have h1 := (soa_one (ruleT_zero h0).2).1
       refine Ev.bind (at_ev apex 6 L hL) ?_
       obtain ⟨x, hx⟩ := List.length_eq_one_iff.1 h1
       rw [hx, ser_impl c hc.1]
       simp only [Option.bind_some, if_pos (show (0 : Int) < (([x] : List ZRec).length : Int) by rw [List.length_singleton]; decide), List.all_cons, List.all_nil, Bool.and_true]
       rw [show rd_T72 [x] 0 = x from rfl]
       have e : (x.f3.toList == (serT c).toList) = decide (x.f3 = serT c) := by
        rw [Bool.eq_iff_iff, beq_iff_eq, decide_eq_true_eq]; exact tl_eq _ _
       rw [e]
       exact Ev.now _
     · simp only [if_neg h0, decide_eq_false h0, Bool.false_and]
       exact Ev.now _
   · simp only [decide_eq_false hc, Bool.false_eq_true, if_false, Bool.false_and]
     exact Ev.now _
theorem szZ_ev (a : ByteArray) (c : Int) (l : List LRec) (ha : a.size ≤ maxLen) (hm : l.length ≤ maxLen) (hw : ∀ y ∈ l, y.f0.size ≤ maxLen ∧ y.f3.size ≤ maxLen) : ∃ t, Ev (fun k => laws_szZone.f k a c l 1048576) t ∧ (0 ≤ t → a.size ≤ 1048576 ∧ l.length ≤ 1048576 ∧ ∀ y ∈ l, Small y.f0 ∧ Small y.f3) := by
 have h2 : wrap64 (1048576 - (a.size : Int)) = 1048576 - (a.size : Int) := by simp only [maxLen] at ha; unfold wrap64; omega
 by_cases hn : 1048576 - (a.size : Int) < 0
 · refine ⟨-1, Ev.congr (f := fun _ => some (-1)) (fun k => ?_) (Ev.now _), fun h => absurd h (by omega)⟩
   unfold laws_szZone.f
   rw [h2, if_pos hn]
 · obtain ⟨t, e, q⟩ := szRS_ev l (1048576 - (a.size : Int)) (by omega) (by omega) hm hw
   have hf : ∀ k, laws_szZone.f k a c l 1048576 = ((laws_szRecordS.f k l (1048576 - (a.size : Int))).bind fun t735 => (if t735 < 0 then (some (-1)) else (some t735))) := fun k => by
    unfold laws_szZone.f
    rw [h2, if_neg hn]
   by_cases ht : t < 0
   · refine ⟨-1, Ev.congr hf (Ev.bind e ?_), fun h => absurd h (by omega)⟩
     simp only [if_pos ht]; exact Ev.now _
   · obtain ⟨q1, q2, q3⟩ := q (by omega)
     refine ⟨t, Ev.congr hf (Ev.bind e ?_), fun h => ⟨by omega, q2, q3⟩⟩
     simp only [if_neg ht]; exact Ev.now _
theorem toZ_ev (a : ByteArray) (c : Int) (l : List LRec) (hl : l.length ≤ 1048576) : Ev (fun k => laws_toZone.f k a c l) (a, c, l.map conv) := Ev.congr (fun k => rfl) (Ev.bind (toRS_ev l hl) (Ev.now _))
theorem eqZ_ev (a : ByteArray) (c : Int) (L : List IRec) (hl : L.length ≤ 1048576) : Ev (fun k => laws_eqZone.f k a c L a c L) true := by
 unfold laws_eqZone.f
 simp only [if_true]
 exact Ev.bind (eqRS_ev L hl) (Ev.now _)
end Go.Proofs.YtkpkfallgjdkmaaGreatDoor.Pure
