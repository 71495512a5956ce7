/- FnExactRuleOf: part 25 of 26 of my texts for this claim, joined; the theorem stands in the last. Conditions: none beyond the statement's. -/
import Derived.Test.YtkpkfallgjdkmaaGreatDoorMFnExactRuleOfx19
import Derived.Test.YtkpkfallgjdkmaaGreatDoorMFnExactRuleOfx3
import Derived.Test.YtkpkfallgjdkmaaGreatDoorMFnExactRuleOfx4
import Derived.Test.YtkpkfallgjdkmaaGreatDoorMFnExactRuleOfx20
import Derived.Test.YtkpkfallgjdkmaaGreatDoorMFnExactRuleOfx12
import Derived.Test.YtkpkfallgjdkmaaGreatDoorMFnExactRuleOfx2
import Derived.Test.YtkpkfallgjdkmaaGreatDoorMFnExactRuleOfx16
import Derived.Lib.ItoaLen
namespace Go.Proofs.YtkpkfallgjdkmaaGreatDoor.Pure
open Go.RowKit Go.Proofs.YtkpkfallgjdkmaaGreatDoor.P Go.Proofs.YtkpkfallgjdkmaaGreatDoorW.PrintWords Go.Proofs.YtkpkfallgjdkmaaGreatDoorW.PrintLast Go.Proofs.YtkpkfallgjdkmaaGreatDoorW.PrintMore
set_option linter.unusedVariables false
set_option linter.unusedSimpArgs false
abbrev LRec := S71
abbrev IRec := S72
def conv (x : LRec) : IRec := ⟨x.f0, x.f1, x.f2, x.f3⟩
theorem rdL (l : List LRec) (i : Nat) (h : i < l.length) : rd_T71 l (i : Int) = l[i] := by
  unfold rd_T71
  rw [Int.toNat_natCast, List.getD_eq_getElem?_getD, List.getElem?_eq_getElem h, Option.getD_some]
theorem rdI (l : List IRec) (i : Nat) (h : i < l.length) : rd_T72 l (i : Int) = l[i] := by
  unfold rd_T72
  rw [Int.toNat_natCast, List.getD_eq_getElem?_getD, List.getElem?_eq_getElem h, Option.getD_some]
def Small (x : ByteArray) : Prop := x.size ≤ 1048576
theorem szRS_loop (l : List LRec) (hl : l.length < 1099511627776) (hs : ∀ y ∈ l, y.f0.size ≤ maxLen ∧ y.f3.size ≤ maxLen) : ∀ (m i : Nat) (left : Int), i + m = l.length → 0 ≤ left → left ≤ 1048576 →
    ∃ t, Ev (fun k => laws_szRecordS.l0 k l left (i : Int)) t ∧ (0 ≤ t → t ≤ left ∧ ∀ (j : Nat) (h : j < l.length), i ≤ j → l[j].f0.size ≤ 1048576 ∧ l[j].f3.size ≤ 1048576)
  | 0, i, left, hi, h0, h1 => by
    refine ⟨left, Ev.step (f := fun _ => some left) (fun k => ?_) (Ev.now _), fun _ => ⟨Int.le_refl _, fun j h hij => absurd h (by omega)⟩⟩
    show laws_szRecordS.l0 (k + 1) l left (i : Int) = _
    rw [laws_szRecordS.l0, if_neg (by omega)]
  | m + 1, i, left, hi, h0, h1 => by
    have hlt : i < l.length := by omega
    have hx := hs _ (List.getElem_mem hlt)
    obtain ⟨t, e, ht⟩ := szRecAt left h0 h1 l[i].f0 l[i].f1 l[i].f2 l[i].f3 hx.1 hx.2
    have hw : wrap64 ((i : Int) + 1) = ((i + 1 : Nat) : Int) := w64n (by omega)
    by_cases hn : t < 0
    · refine ⟨-1, Ev.step (f := fun _ => some (-1)) (fun k => ?_) (Ev.now _), fun h => absurd h (by omega)⟩
      show laws_szRecordS.l0 (k + 1) l left (i : Int) = _
      rw [laws_szRecordS.l0, if_pos (by omega), if_pos (by omega), rdL l i hlt, e, Option.bind_some, if_pos hn]
    · obtain ⟨g1, g2, g3⟩ := ht (by omega)
      obtain ⟨t', e', ht'⟩ := szRS_loop l hl hs m (i + 1) t (by omega) (by omega) (by omega)
      refine ⟨t', Ev.step (f := fun k => laws_szRecordS.l0 k l t ((i + 1 : Nat) : Int)) (fun k => ?_) e', fun h => ?_⟩
      · show laws_szRecordS.l0 (k + 1) l left (i : Int) = _
        rw [laws_szRecordS.l0, if_pos (by omega), if_pos (by omega), rdL l i hlt, e, Option.bind_some, if_neg hn, hw]
      · obtain ⟨q1, q2⟩ := ht' h
        refine ⟨by omega, fun j hj hij => ?_⟩
        by_cases c : j = i
        · subst c; exact ⟨g2, g3⟩
        · exact q2 j hj (by omega)
theorem szRS_ev (l : List LRec) (left : Int) (h0 : 0 ≤ left) (h1 : left ≤ 1048576) (hm : l.length ≤ maxLen) (hs : ∀ y ∈ l, y.f0.size ≤ maxLen ∧ y.f3.size ≤ maxLen) :
    ∃ t, Ev (fun k => laws_szRecordS.f k l left) t ∧ (0 ≤ t → t ≤ left ∧ l.length ≤ 1048576 ∧ ∀ y ∈ l, Small y.f0 ∧ Small y.f3) := by
  simp only [maxLen] at hm
  have hw : wrap64 (left - (l.length : Int)) = left - (l.length : Int) := by unfold wrap64; omega
  by_cases hn : left - (l.length : Int) < 0
  · refine ⟨-1, Ev.congr (f := fun _ => some (-1)) (fun k => ?_) (Ev.now _), fun h => absurd h (by omega)⟩
    unfold laws_szRecordS.f
    rw [hw, if_pos hn]
  · obtain ⟨t, e, ht⟩ := szRS_loop l (by omega) hs l.length 0 (left - (l.length : Int)) (by omega) (by omega) (by omega)
    refine ⟨t, Ev.congr (fun k => ?_) e, fun h => ?_⟩
    · unfold laws_szRecordS.f
      rw [hw, if_neg hn]
      rfl
    · obtain ⟨q1, q2⟩ := ht h
      refine ⟨by omega, by omega, fun y hy => ?_⟩
      obtain ⟨j, hj, rfl⟩ := List.mem_iff_getElem.1 hy
      exact q2 j hj (Nat.zero_le _)
theorem toRS_loop (l : List LRec) (hl : l.length < 1099511627776) : ∀ (m i : Nat) (out : List IRec), i + m = l.length → out = (l.take i).map conv ++ List.replicate m z72 → Ev (fun k => laws_toRecordS.l0 k l out (i : Int)) (l.map conv)
  | 0, i, out, hi, ho => by
    refine Ev.step (f := fun _ => some (l.map conv)) (fun k => ?_) (Ev.now _)
    show laws_toRecordS.l0 (k + 1) l out (i : Int) = _
    rw [laws_toRecordS.l0, if_neg (by omega), ho, List.take_of_length_le (by omega)]
    simp
  | m + 1, i, out, hi, ho => by
    have hlt : i < l.length := by omega
    have hw : wrap64 ((i : Int) + 1) = ((i + 1 : Nat) : Int) := w64n (by omega)
    have hlen : ((l.take i).map conv).length = i := by rw [List.length_map, List.length_take]; omega
    have ih := toRS_loop l hl m (i + 1) (out.set i (conv l[i])) (by omega) (by
      rw [ho, List.set_append_right _ _ (by omega), hlen, Nat.sub_self, List.take_succ_eq_append_getElem hlt, List.map_append, List.append_assoc]
      rfl)
    refine Ev.step (f := fun k => laws_toRecordS.l0 k l (out.set i (conv l[i])) ((i + 1 : Nat) : Int)) (fun k => ?_) ih
    show laws_toRecordS.l0 (k + 1) l out (i : Int) = _
    have ho2 : out.length = l.length := by rw [ho, List.length_append, hlen, List.length_replicate]; omega
    rw [laws_toRecordS.l0, if_pos (by omega), if_pos (by omega), rdL l i hlt]
    unfold laws_toRecord.f
    rw [Option.bind_some, if_pos (by omega), hw, Int.toNat_natCast]
    rfl
theorem toRS_ev (l : List LRec) (hl : l.length ≤ 1048576) : Ev (fun k => laws_toRecordS.f k l) (l.map conv) := by
  refine Ev.congr (fun k => ?_) (toRS_loop l (by omega) l.length 0 (List.replicate l.length z72) (by omega) (by simp))
  unfold laws_toRecordS.f
  rw [if_pos (by omega), Int.toNat_natCast, if_pos (by omega)]
  rfl
theorem eqRec_self (x : IRec) : laws_eqRecord.f x.f0 x.f1 x.f2 x.f3 x.f0 x.f1 x.f2 x.f3 = some true := by
  unfold laws_eqRecord.f
  simp
theorem eqRS_loop (l : List IRec) (hl : l.length < 1099511627776) : ∀ (m i : Nat), i + m = l.length → Ev (fun k => laws_eqRecordS.l0 k l l (i : Int)) true
  | 0, i, hi => by
    refine Ev.step (f := fun _ => some true) (fun k => ?_) (Ev.now _)
    show laws_eqRecordS.l0 (k + 1) l l (i : Int) = _
    rw [laws_eqRecordS.l0, if_neg (by omega)]
  | m + 1, i, hi => by
    have hlt : i < l.length := by omega
    have hw : wrap64 ((i : Int) + 1) = ((i + 1 : Nat) : Int) := w64n (by omega)
    refine Ev.step (f := fun k => laws_eqRecordS.l0 k l l ((i + 1 : Nat) : Int)) (fun k => ?_) (eqRS_loop l hl m (i + 1) (by omega))
    show laws_eqRecordS.l0 (k + 1) l l (i : Int) = _
    rw [laws_eqRecordS.l0, if_pos (by omega), if_pos (by omega), if_pos (by omega), eqRec_self, Option.bind_some, if_pos rfl, hw]
theorem eqRS_ev (l : List IRec) (hl : l.length ≤ 1048576) : Ev (fun k => laws_eqRecordS.f k l l) true := by
  refine Ev.congr (fun k => ?_) (eqRS_loop l (by omega) l.length 0 (by omega))
  unfold laws_eqRecordS.f
  rw [if_pos rfl]
  rfl
theorem small_conv {l : List LRec} (h : ∀ y ∈ l, Small y.f0 ∧ Small y.f3) : ∀ y ∈ l.map conv, Small y.f0 ∧ Small y.f3 := by
  intro y hy
  obtain ⟨x, hx, rfl⟩ := List.mem_map.1 hy
  exact h x hx
theorem tl_eq (a b : ByteArray) : (a.toList = b.toList) ↔ a = b := by
  rw [Lib.toList_data, Lib.toList_data]; exact (nm_eq a b).symm
theorem w64p {x : Int} (h : x < 4611686018427387904) (h0 : 0 ≤ x) : wrap64 (x + 1) = x + 1 := by unfold wrap64; omega
theorem has_ev6 (L : List ZRec) (x : ByteArray) (c : Int) (hL : L.length < 1099511627776) : ∀ (m i : Nat), i + m = L.length → Ev (fun k => spec_l6Has.l0 k x c L (L.length : Int) (i : Int)) (hasL (L.drop i) x.data.toList c)
  | 0, i, h => by
    refine Ev.step (f := fun _ => some false) (fun k => ?_) ?_
    · show spec_l6Has.l0 (k + 1) x c L (L.length : Int) (i : Int) = _
      rw [spec_l6Has.l0, if_neg (by omega)]
    · rw [List.drop_of_length_le (by omega)]; exact Ev.now _
  | m + 1, i, h => by
    have hi : i < L.length := by omega
    have ih := has_ev6 L x c hL m (i + 1) (by omega)
    rw [List.drop_eq_getElem_cons hi]
    unfold hasL at ih ⊢
    rw [List.any_cons]
    have es : ∀ k, spec_l6Has.l0 (k + 1) x c L (L.length : Int) (i : Int) = (if L[i].f0.toList = x.toList then (if L[i].f1 = c then (some true) else (spec_l6Has.l0 k x c L (L.length : Int) ((i + 1 : Nat) : Int))) else (spec_l6Has.l0 k x c L (L.length : Int) ((i + 1 : Nat) : Int))) := fun k => by
      rw [spec_l6Has.l0, if_pos (by omega), if_pos (by omega), if_pos (by omega), rdI L i hi, w64n (by omega)]
    by_cases h1 : L[i].f0 = x
    · by_cases h2 : L[i].f1 = c
      · refine Ev.step (f := fun _ => some true) (fun k => ?_) ?_
        · rw [es, if_pos ((tl_eq _ _).2 h1), if_pos h2]
        · rw [decide_eq_true (show nmL L[i] = x.data.toList from (nm_eq _ _).1 h1), decide_eq_true h2]; exact Ev.now _
      · rw [decide_eq_false h2, Bool.and_false, Bool.false_or]
        exact Ev.step (fun k => by rw [es, if_pos ((tl_eq _ _).2 h1), if_neg h2]) ih
    · rw [decide_eq_false (show ¬ nmL L[i] = x.data.toList from fun e => h1 ((nm_eq _ _).2 e)), Bool.false_and, Bool.false_or]
      exact Ev.step (fun k => by rw [es, if_neg (fun e => h1 ((tl_eq _ _).1 e))]) ih
theorem hasF_ev (L : List ZRec) (x : ByteArray) (c : Int) (hL : L.length < 1099511627776) : Ev (fun k => spec_l6Has.f k L x c) (hasL L x.data.toList c) := by
  have := has_ev6 L x c hL L.length 0 (by omega)
  rw [List.drop_zero] at this
  exact Ev.congr (fun k => rfl) this
/-- What l6Cut hands on. -/
def repC : Option (List UInt8) → ByteArray × Bool
  | some c => (mkB c, true)
  | none => (⟨#[]⟩, false)
theorem cut_ev (apex : ByteArray) (L : List ZRec) (ha : apex.size ≤ 1048576) (hL : L.length < 1099511627776) : ∀ (n : Nat) (found : Option (List UInt8)) (name : List UInt8), name.length < n → name.length ≤ 1048576 →
    Ev (fun k => spec_l6Cut.l0 k apex L (mkB name) (repC found).1 (repC found).2) (repC (cutL apex.data.toList L n found name))
  | 0, found, name, hn, hs => absurd hn (by omega)
  | n + 1, found, name, hn, hs => by
    have hb := specBelow_eq (mkB name) apex (by rw [mkB_size]; omega) (by omega)
    rw [mkB_data] at hb
    unfold cutL
    have stop : Ev (fun k => spec_l6Cut.j1 k apex L (mkB name) (repC found).1 (repC found).2 false) (repC found) :=
      Ev.step (f := fun _ => some ((repC found).1, (repC found).2)) (fun k => by rw [spec_l6Cut.j1, if_neg (by decide)]) (Ev.now _)
    by_cases h1 : name = apex.data.toList
    · rw [if_neg (fun c => c.1 h1)]
      refine Ev.step (f := fun k => spec_l6Cut.j1 k apex L (mkB name) (repC found).1 (repC found).2 false) (fun k => ?_) stop
      rw [spec_l6Cut.l0, if_pos (by rw [Lib.toList_data, Lib.toList_data, mkB_data]; exact h1)]
    · refine Ev.step (f := fun k => spec_l6Cut.j1 k apex L (mkB name) (repC found).1 (repC found).2 (belowL name apex.data.toList)) (fun k => ?_) ?_
      · rw [spec_l6Cut.l0, if_neg (by rw [Lib.toList_data, Lib.toList_data, mkB_data]; exact h1), hb, Option.bind_some]
      · by_cases h2 : belowL name apex.data.toList = true
        · rw [if_pos ⟨h1, h2⟩, h2]
          have hh := hasF_ev L (mkB name) 2 hL
          have hp := specParent_ev (mkB name) (by rw [mkB_size]; omega)
          rw [mkB_data] at hh hp
          have hpl : (parL name).length ≤ name.length - 1 := parL_len name
          refine Ev.step (f := fun k => (spec_l6Has.f k L (mkB name) 2).bind fun t693 => (if t693 = true then (if (mkB name).toList = ([] : List UInt8) then (some ((mkB name), true)) else ((spec_l1Parent.f k (mkB name)).bind fun t694 => (spec_l6Cut.l0 k apex L t694 (mkB name) true))) else (if (mkB name).toList = ([] : List UInt8) then (some ((repC found).1, (repC found).2)) else ((spec_l1Parent.f k (mkB name)).bind fun t695 => (spec_l6Cut.l0 k apex L t695 (repC found).1 (repC found).2))))) (fun k => by rw [spec_l6Cut.j1, if_pos rfl]) (Ev.bind hh ?_)
          by_cases h3 : hasL L name 2 = true
          · simp only [if_pos h3]
            by_cases h4 : name = []
            · simp only [if_pos h4, if_pos (show (mkB name).toList = [] by rw [Lib.toList_data, mkB_data]; exact h4)]
              exact Ev.now _
            · have hlt : 0 < name.length := List.length_pos_iff.2 h4
              simp only [if_neg h4, if_neg (show ¬ (mkB name).toList = [] by rw [Lib.toList_data, mkB_data]; exact h4)]
              exact Ev.bind hp (cut_ev apex L ha hL n (some name) (parL name) (by omega) (by omega))
          · simp only [if_neg h3]
            by_cases h4 : name = []
            · simp only [if_pos h4, if_pos (show (mkB name).toList = [] by rw [Lib.toList_data, mkB_data]; exact h4)]
              exact Ev.now _
            · have hlt : 0 < name.length := List.length_pos_iff.2 h4
              simp only [if_neg h4, if_neg (show ¬ (mkB name).toList = [] by rw [Lib.toList_data, mkB_data]; exact h4)]
              exact Ev.bind hp (cut_ev apex L ha hL n found (parL name) (by omega) (by omega))
        · rw [if_neg (fun c => h2 c.2), Bool.eq_false_iff.mpr h2]
          exact stop
theorem cutF_ev (apex name : ByteArray) (L : List ZRec) (ha : apex.size ≤ 1048576) (hn : name.size ≤ 1048576) (hL : L.length < 1099511627776) : Ev (fun k => spec_l6Cut.f k apex L name) (repC (cutOf apex.data.toList L name.data.toList)) := by
  have := cut_ev apex L ha hL (name.data.toList.length + 1) none name.data.toList (by omega) (by rw [← size_len]; exact hn)
  rw [show mkB name.data.toList = name by simp [mkB]] at this
  exact Ev.congr (fun k => rfl) this
/-- The last loop: the cuts. -/
theorem rule4 (x0 : ByteArray) (L : List ZRec) (ha : x0.size ≤ 1048576) (hL : L.length < 1099511627776) (hs : ∀ r ∈ L, r.f0.size ≤ 1048576) : ∀ (m i : Nat), i + m = L.length →
    Ev (fun k => spec_l6Rule.l4 k x0 L L (L.length : Int) (i : Int)) (if (L.drop i).any (six x0.data.toList L) = true then 6 else 0)
  | 0, i, h => by
    refine Ev.step (f := fun _ => some 0) (fun k => ?_) ?_
    · show spec_l6Rule.l4 (k + 1) x0 L L (L.length : Int) (i : Int) = _
      rw [spec_l6Rule.l4, if_neg (by omega)]
    · rw [List.drop_of_length_le (by omega)]; exact Ev.now _
  | m + 1, i, h => by
    have hi : i < L.length := by omega
    have ih := rule4 x0 L ha hL hs m (i + 1) (by omega)
    have hc := cutF_ev x0 L[i].f0 L ha (hs _ (List.getElem_mem hi)) hL
    have es : ∀ k, spec_l6Rule.l4 (k + 1) x0 L L (L.length : Int) (i : Int) = ((spec_l6Cut.f k x0 L L[i].f0).bind fun bt716 => (if bt716.2 = true then (if L[i].f1 = 1 then (spec_l6Rule.l4 k x0 L L (L.length : Int) ((i + 1 : Nat) : Int)) else (if L[i].f1 = 2 then (if L[i].f0.toList = bt716.1.toList then (spec_l6Rule.l4 k x0 L L (L.length : Int) ((i + 1 : Nat) : Int)) else (some 6)) else (some 6))) else (spec_l6Rule.l4 k x0 L L (L.length : Int) ((i + 1 : Nat) : Int)))) := fun k => by
      rw [spec_l6Rule.l4, if_pos (by omega), if_pos (by omega), if_pos (by omega), rdI L i hi, w64n (by omega)]
    rw [List.drop_eq_getElem_cons hi, List.any_cons]
    refine Ev.step es (Ev.bind hc ?_)
    rw [show six x0.data.toList L L[i] = (match cutOf x0.data.toList L L[i].f0.data.toList with | some c => decide (L[i].f1 ≠ 1) && (decide (L[i].f1 ≠ 2) || decide (L[i].f0.data.toList ≠ c)) | none => false) from rfl]
    cases cutOf x0.data.toList L L[i].f0.data.toList with
    | none => simp only [repC, Bool.false_eq_true, if_false, Bool.false_or]; exact ih
    | some c =>
      simp only [repC, if_true]
      by_cases h1 : L[i].f1 = 1
      · simp only [if_pos h1, decide_eq_false (show ¬ L[i].f1 ≠ 1 from fun e => e h1), Bool.false_and, Bool.false_or]
        exact ih
      · simp only [if_neg h1, decide_eq_true h1, Bool.true_and]
        by_cases h2 : L[i].f1 = 2
        · simp only [if_pos h2, decide_eq_false (show ¬ L[i].f1 ≠ 2 from fun e => e h2), Bool.false_or]
          by_cases h3 : L[i].f0.data.toList = c
          · rw [decide_eq_false (show ¬ L[i].f0.data.toList ≠ c from fun e => e h3), Bool.false_or]
            exact Ev.congr (fun k => if_pos (show L[i].f0.toList = (mkB c).toList by rw [Lib.toList_data, Lib.toList_data, mkB_data]; exact h3)) ih
          · rw [decide_eq_true (show L[i].f0.data.toList ≠ c from h3), Bool.true_or, if_pos rfl]
            exact Ev.congr (fun k => if_neg (show ¬ L[i].f0.toList = (mkB c).toList by rw [Lib.toList_data, Lib.toList_data, mkB_data]; exact h3)) (Ev.now _)
        · simp only [if_neg h2, decide_eq_true h2, Bool.true_or, if_true]
          exact Ev.now _
/-- The third loop, and the rest. -/
theorem rule3 (x0 : ByteArray) (L : List ZRec) (r : ZRec) (i : Nat) {X : Int} (hL : L.length < 1099511627776) (hX : Ev (fun k => spec_l6Rule.l2 k x0 L L (L.length : Int) ((i + 1 : Nat) : Int)) X) (hi : i < L.length) (P : List ZRec) (hP : P.length < 1099511627776) : ∀ (m j : Nat), j + m = P.length →
    Ev (fun k => spec_l6Rule.l3 k x0 L L (L.length : Int) (i : Int) P (P.length : Int) (j : Int) r.f0 r.f1 r.f2 r.f3) (if (P.drop j).any (fun o => decide (o.f0 = r.f0) && (decide (o.f1 = 5) || decide (r.f1 = 5))) = true then 4 else X)
  | 0, j, h => by
    refine Ev.step (f := fun k => spec_l6Rule.l2 k x0 L L (L.length : Int) ((i + 1 : Nat) : Int)) (fun k => ?_) ?_
    · show spec_l6Rule.l3 (k + 1) x0 L L (L.length : Int) (i : Int) P (P.length : Int) (j : Int) r.f0 r.f1 r.f2 r.f3 = _
      rw [spec_l6Rule.l3, if_neg (by omega), w64n (by omega)]
    · rw [List.drop_of_length_le (by omega)]; exact hX
  | m + 1, j, h => by
    have hj : j < P.length := by omega
    have ih := rule3 x0 L r i hL hX hi P hP m (j + 1) (by omega)
    have es : ∀ k, spec_l6Rule.l3 (k + 1) x0 L L (L.length : Int) (i : Int) P (P.length : Int) (j : Int) r.f0 r.f1 r.f2 r.f3 = (if P[j].f0.toList = r.f0.toList then (if P[j].f1 = 5 then (some 4) else (if r.f1 = 5 then (some 4) else (spec_l6Rule.l3 k x0 L L (L.length : Int) (i : Int) P (P.length : Int) ((j + 1 : Nat) : Int) r.f0 r.f1 r.f2 r.f3))) else (spec_l6Rule.l3 k x0 L L (L.length : Int) (i : Int) P (P.length : Int) ((j + 1 : Nat) : Int) r.f0 r.f1 r.f2 r.f3)) := fun k => by
      rw [spec_l6Rule.l3, if_pos (by omega), if_pos (by omega), if_pos (by omega), rdI P j hj, w64n (by omega)]
    rw [List.drop_eq_getElem_cons hj, List.any_cons]
    refine Ev.step es ?_
    by_cases h1 : P[j].f0 = r.f0
    · simp only [if_pos ((tl_eq _ _).2 h1), decide_eq_true h1, Bool.true_and]
      by_cases h2 : P[j].f1 = 5
      · simp only [if_pos h2, decide_eq_true h2, Bool.true_or, if_true]; exact Ev.now _
      · simp only [if_neg h2, decide_eq_false h2, Bool.false_or]
        by_cases h3 : r.f1 = 5
        · simp only [if_pos h3, decide_eq_true h3, Bool.true_or, if_true]; exact Ev.now _
        · simp only [if_neg h3, decide_eq_false h3, Bool.false_or]
          simp only [decide_eq_false h3, Bool.or_false] at ih
          simp only [Bool.or_false]
          exact ih
    · simp only [if_neg (fun e => h1 ((tl_eq _ _).1 e)), decide_eq_false h1, Bool.false_and, Bool.false_or]
      exact ih
theorem rule2 (x0 : ByteArray) (L : List ZRec) (ha : x0.size ≤ 1048576) (hL : L.length < 1099511627776) (hs : ∀ r ∈ L, r.f0.size ≤ 1048576) : ∀ (m i : Nat), i + m = L.length →
    Ev (fun k => spec_l6Rule.l2 k x0 L L (L.length : Int) (i : Int)) (if pairB (L.take i) (L.drop i) = true then 4 else if hasL L x0.data.toList 5 = true then 5 else if L.any (six x0.data.toList L) = true then 6 else 0)
  | 0, i, h => by
    refine Ev.step (f := fun k => (spec_l6Has.f k L x0 5).bind fun t713 => (if t713 = true then (some 5) else (spec_l6Rule.l4 k x0 L L (L.length : Int) 0))) (fun k => ?_) ?_
    · show spec_l6Rule.l2 (k + 1) x0 L L (L.length : Int) (i : Int) = _
      rw [spec_l6Rule.l2, if_neg (by omega)]
    · rw [List.drop_of_length_le (by omega), pairB, if_neg (by decide)]
      refine Ev.bind (hasF_ev L x0 5 hL) ?_
      by_cases h5 : hasL L x0.data.toList 5 = true
      · simp only [if_pos h5]; exact Ev.now _
      · simp only [if_neg h5]
        have := rule4 x0 L ha hL hs L.length 0 (by omega)
        rw [List.drop_zero] at this
        exact this
  | m + 1, i, h => by
    have hi : i < L.length := by omega
    have ih := rule2 x0 L ha hL hs m (i + 1) (by omega)
    have hlen : (L.take i).length = i := by rw [List.length_take]; omega
    have h3 := rule3 x0 L L[i] i hL ih hi (L.take i) (by omega) (L.take i).length 0 (by omega)
    rw [List.drop_zero] at h3
    rw [List.drop_eq_getElem_cons hi, pairB]
    rw [List.take_add_one, List.getElem?_eq_getElem hi] at h3
    have e : (if ((L.take i).any fun o => decide (o.f0 = L[i].f0) && (decide (o.f1 = 5) || decide (L[i].f1 = 5))) = true then (4 : Int) else if pairB (L.take i ++ (some L[i]).toList) (L.drop (i + 1)) = true then 4 else if hasL L x0.data.toList 5 = true then 5 else if L.any (six x0.data.toList L) = true then 6 else 0) = (if (((L.take i).any fun o => decide (o.f0 = L[i].f0) && (decide (o.f1 = 5) || decide (L[i].f1 = 5))) || pairB (L.take i ++ [L[i]]) (L.drop (i + 1))) = true then 4 else if hasL L x0.data.toList 5 = true then 5 else if L.any (six x0.data.toList L) = true then 6 else 0) := by
      rw [show (some L[i]).toList = [L[i]] from rfl]
      cases ((L.take i).any fun o => decide (o.f0 = L[i].f0) && (decide (o.f1 = 5) || decide (L[i].f1 = 5))) with
      | true => simp only [if_true, Bool.true_or]
      | false => simp only [Bool.false_eq_true, if_false, Bool.false_or]
    rw [← e]
    refine Ev.step (fun k => ?_) h3
    rw [spec_l6Rule.l2, if_pos (by omega), if_pos (by omega), if_pos (by omega), if_pos (by omega), rdI L i hi, Option.bind_some, Int.toNat_natCast]
    rfl
/-- The second loop, and the rest. -/
theorem rule1 (x0 : ByteArray) (L : List ZRec) (hL : L.length < 1099511627776) {X : Int} (hX : Ev (fun k => spec_l6Rule.l2 k x0 L L (L.length : Int) 0) X) : ∀ (m i : Nat), i + m = L.length → 1 ≤ i →
    Ev (fun k => spec_l6Rule.l1 k x0 L L (L.length : Int) (i : Int)) (if adjB (L.drop (i - 1)) = true then 3 else X)
  | 0, i, h, h1 => by
    refine Ev.step (f := fun k => spec_l6Rule.l2 k x0 L L (L.length : Int) 0) (fun k => ?_) ?_
    · show spec_l6Rule.l1 (k + 1) x0 L L (L.length : Int) (i : Int) = _
      rw [spec_l6Rule.l1, if_neg (by omega)]
    · rw [List.drop_eq_getElem_cons (show i - 1 < L.length by omega), List.drop_of_length_le (by omega)]
      exact hX
  | m + 1, i, h, h1 => by
    have hi : i < L.length := by omega
    have hp : i - 1 < L.length := by omega
    have ih := rule1 x0 L hL hX m (i + 1) (by omega) (by omega)
    have wp : wrap64 ((i : Int) - 1) = ((i - 1 : Nat) : Int) := by unfold wrap64; omega
    have es : ∀ k, spec_l6Rule.l1 (k + 1) x0 L L (L.length : Int) (i : Int) = (if L[i - 1].f0.toList = L[i].f0.toList then (if L[i - 1].f1 = L[i].f1 then (if L[i - 1].f2 = L[i].f2 then (if L[i - 1].f3.toList = L[i].f3.toList then (some 3) else (spec_l6Rule.l1 k x0 L L (L.length : Int) ((i + 1 : Nat) : Int))) else (some 3)) else (spec_l6Rule.l1 k x0 L L (L.length : Int) ((i + 1 : Nat) : Int))) else (spec_l6Rule.l1 k x0 L L (L.length : Int) ((i + 1 : Nat) : Int))) := fun k => by
      rw [spec_l6Rule.l1, if_pos (by omega), if_pos (by omega), if_pos (by omega), if_pos (by omega), wp, if_pos (by omega), if_pos (by omega), rdI L i hi, rdI L (i - 1) hp, w64n (by omega)]
    rw [List.drop_eq_getElem_cons hp, show i - 1 + 1 = i by omega, List.drop_eq_getElem_cons hi, adjB]
    rw [Nat.add_sub_cancel, List.drop_eq_getElem_cons hi] at ih
    refine Ev.step es ?_
    unfold sameK
    by_cases c0 : L[i - 1].f0 = L[i].f0
    · by_cases c1 : L[i - 1].f1 = L[i].f1
      · by_cases c2 : L[i - 1].f2 = L[i].f2
        · by_cases c3 : L[i - 1].f3 = L[i].f3
          · simp only [if_pos ((tl_eq _ _).2 c0), if_pos c1, if_pos c2, if_pos ((tl_eq _ _).2 c3), decide_eq_true c0, decide_eq_true c1, decide_eq_true c3, Bool.true_and, Bool.or_true, Bool.true_or, if_true]
            exact Ev.now _
          · simp only [if_pos ((tl_eq _ _).2 c0), if_pos c1, if_pos c2, if_neg (fun e => c3 ((tl_eq _ _).1 e)), decide_eq_true c0, decide_eq_true c1, decide_eq_false c3, decide_eq_false (show ¬ L[i - 1].f2 ≠ L[i].f2 from fun e => e c2), Bool.true_and, Bool.or_false, Bool.false_or]
            exact ih
        · simp only [if_pos ((tl_eq _ _).2 c0), if_pos c1, if_neg c2, decide_eq_true c0, decide_eq_true c1, decide_eq_true (show L[i - 1].f2 ≠ L[i].f2 from c2), Bool.true_and, Bool.true_or, if_true]
          exact Ev.now _
      · simp only [if_pos ((tl_eq _ _).2 c0), if_neg c1, decide_eq_false c1, Bool.and_false, Bool.false_and, Bool.false_or]
        exact ih
    · simp only [if_neg (fun e => c0 ((tl_eq _ _).1 e)), decide_eq_false c0, Bool.false_and, Bool.false_or]
      exact ih
theorem rule1F (x0 : ByteArray) (L : List ZRec) (hL : L.length < 1099511627776) {X : Int} (hX : Ev (fun k => spec_l6Rule.l2 k x0 L L (L.length : Int) 0) X) : Ev (fun k => spec_l6Rule.l1 k x0 L L (L.length : Int) 0) (if adjB L = true then 3 else X) := by
  cases hl : L with
  | nil =>
    subst hl
    refine Ev.step (f := fun k => spec_l6Rule.l2 k x0 [] [] (([] : List ZRec).length : Int) 0) (fun k => ?_) hX
    rw [spec_l6Rule.l1, if_neg (by decide)]
  | cons x l =>
    rw [← hl]
    have hlen : 1 ≤ L.length := by rw [hl, List.length_cons]; omega
    have := rule1 x0 L hL hX (L.length - 1) 1 (by omega) (Nat.le_refl _)
    rw [Nat.sub_self, List.drop_zero] at this
    refine Ev.step (fun k => ?_) this
    rw [spec_l6Rule.l1, if_pos (by omega), if_pos (by omega), if_pos (by omega), if_neg (by omega), show wrap64 (0 + 1) = ((1 : Nat) : Int) by unfold wrap64; omega]
/-- The first loop, and the rest. -/
theorem rule0 (x0 : ByteArray) (L : List ZRec) (ha : x0.size ≤ 1048576) (hL : L.length < 1099511627776) (hs : ∀ r ∈ L, r.f0.size ≤ 1048576) {X : Int} (hX : Ev (fun k => spec_l6Rule.l1 k x0 L L (L.length : Int) 0) X) : ∀ (m i : Nat) (s : Int), i + m = L.length → 0 ≤ s → s ≤ 2 * i →
    Ev (fun k => spec_l6Rule.l0 k x0 L s L (L.length : Int) (i : Int)) (if ((L.drop i).any fun r => !belowL (nmL r) x0.data.toList) = true then 1 else if s + soaW x0 (L.drop i) ≠ 1 then 2 else X)
  | 0, i, s, h, h0, h1 => by
    rw [List.drop_of_length_le (by omega), List.any_nil, if_neg (by decide)]
    have es : ∀ k, spec_l6Rule.l0 (k + 1) x0 L s L (L.length : Int) (i : Int) = (if s = 1 then (spec_l6Rule.l1 k x0 L L (L.length : Int) 0) else (some 2)) := fun k => by
      rw [spec_l6Rule.l0, if_neg (by omega)]
    show Ev _ (if s + 0 ≠ 1 then 2 else X)
    by_cases c : s = 1
    · rw [if_neg (by omega)]
      exact Ev.step (fun k => by rw [es, if_pos c]) hX
    · rw [if_pos (by omega)]
      exact Ev.step (f := fun _ => some 2) (fun k => by rw [es, if_neg c]) (Ev.now _)
  | m + 1, i, s, h, h0, h1 => by
    have hi : i < L.length := by omega
    have hb := specBelow_eq L[i].f0 x0 (by have := hs _ (List.getElem_mem hi); omega) (by omega)
    have es : ∀ k, spec_l6Rule.l0 (k + 1) x0 L s L (L.length : Int) (i : Int) = (if belowL (nmL L[i]) x0.data.toList = true then (if L[i].f1 = 6 then (if L[i].f0.toList = x0.toList then (spec_l6Rule.l0 k x0 L (s + 1) L (L.length : Int) ((i + 1 : Nat) : Int)) else (spec_l6Rule.l0 k x0 L (s + 1 + 1) L (L.length : Int) ((i + 1 : Nat) : Int))) else (spec_l6Rule.l0 k x0 L s L (L.length : Int) ((i + 1 : Nat) : Int))) else (some 1)) := fun k => by
      rw [spec_l6Rule.l0, if_pos (by omega), if_pos (by omega), if_pos (by omega), rdI L i hi, hb, Option.bind_some, w64n (by omega), w64p (by omega) h0, w64p (by omega) (by omega)]
      rfl
    rw [List.drop_eq_getElem_cons hi, List.any_cons]
    refine Ev.step es ?_
    by_cases c : belowL (nmL L[i]) x0.data.toList = true
    · simp only [if_pos c, c, Bool.not_true, Bool.false_or]
      show Ev _ (if ((L.drop (i + 1)).any fun r => !belowL (nmL r) x0.data.toList) = true then 1 else if s + ((if L[i].f1 = 6 then (if L[i].f0 = x0 then 1 else 2) else 0) + soaW x0 (L.drop (i + 1))) ≠ 1 then 2 else X)
      by_cases c6 : L[i].f1 = 6
      · simp only [if_pos c6]
        by_cases ca : L[i].f0 = x0
        · simp only [if_pos ((tl_eq _ _).2 ca), if_pos ca]
          have ih := rule0 x0 L ha hL hs hX m (i + 1) (s + 1) (by omega) (by omega) (by omega)
          rw [show s + (1 + soaW x0 (L.drop (i + 1))) = s + 1 + soaW x0 (L.drop (i + 1)) by omega]
          exact ih
        · simp only [if_neg (fun e => ca ((tl_eq _ _).1 e)), if_neg ca]
          have ih := rule0 x0 L ha hL hs hX m (i + 1) (s + 1 + 1) (by omega) (by omega) (by omega)
          rw [show s + (2 + soaW x0 (L.drop (i + 1))) = s + 1 + 1 + soaW x0 (L.drop (i + 1)) by omega]
          exact ih
      · simp only [if_neg c6]
        have ih := rule0 x0 L ha hL hs hX m (i + 1) s (by omega) (by omega) (by omega)
        rw [show s + (0 + soaW x0 (L.drop (i + 1))) = s + soaW x0 (L.drop (i + 1)) by omega]
        exact ih
    · simp only [if_neg c, Bool.eq_false_iff.mpr c, Bool.not_false, Bool.true_or, if_true]
      exact Ev.now _
/-- What the reference's l6Rule returns. -/
theorem specRule_ev (x0 : ByteArray) (L : List ZRec) (ha : x0.size ≤ 1048576) (hL : L.length < 1099511627776) (hs : ∀ r ∈ L, r.f0.size ≤ 1048576) : Ev (fun k => spec_l6Rule.f k x0 L) (ruleS x0 L) := by
  have h2 := rule2 x0 L ha hL hs L.length 0 (by omega)
  rw [List.take_zero, List.drop_zero] at h2
  have h0 := rule0 x0 L ha hL hs (rule1F x0 L hL h2) L.length 0 0 (by omega) (by omega) (by omega)
  rw [List.drop_zero, Int.zero_add] at h0
  exact Ev.congr (fun k => rfl) h0
end Go.Proofs.YtkpkfallgjdkmaaGreatDoor.Pure
namespace Go.Proofs.YtkpkfallgjdkmaaGreatDoor.P
open Go.RowKit Go.Proofs.YtkpkfallgjdkmaaGreatDoorW.PrintWords Go.Proofs.YtkpkfallgjdkmaaGreatDoorW.PrintLast Go.Proofs.YtkpkfallgjdkmaaGreatDoorW.PrintMore
attribute [local go_sem] max2_int min2_int max_two min_two max_three min_three max_four min_four
set_option linter.unusedVariables false
set_option linter.unusedSimpArgs false
def spec_l1Num.f : Nat → Int → Option (ByteArray)
  | 0, _ => none
  | k + 1, a0 => if a0 < 10 then (some (strOfNums (([(wrap64 (48 + a0)) % 256] : List Int)))) else ((spec_l1Num.f k (wrap64 (Int.tdiv a0 10))).bind fun t739 => ((some (([(wrap64 (48 + (Int.tmod a0 10))) % 256] : List Int) : List Int)).bind fun y740 => (if t739.size + (strOfNums y740).size ≤ 9223372036854775807 then (some (t739 ++ (strOfNums y740))) else (none))))
def spec_l1Num.T3 : Bool × List (List Nat × List Nat) := (true, [([], []), ([0], [0]), ([1], [1]), ([], []), ([3], [3]), ([4], [4]), ([5], [5]), ([6], [6]), ([7], [7]), ([2, 8], [2, 8]), ([9, 2, 0, 1, 2, 3, 4, 5, 6, 7, 8, 9], [9])])
def spec_l1Num.B3 : List Nat := [0, 1, 3, 0, 8, 24, 56, 120, 248, 511, 1023]
def spec_l3Text.f (k : Nat) (a0_0 : ByteArray) (a0_1 : Int) (a0_2 : Int) (a0_3 : ByteArray) : Option (ByteArray) := if a0_0.toList = ([] : List UInt8) then (if 1 + 1 ≤ 9223372036854775807 then ((spec_l1Num.f k a0_2).bind fun t807 => (if 2 + t807.size ≤ 9223372036854775807 then (if (((⟨#[46]⟩ : ByteArray) ++ (⟨#[32]⟩ : ByteArray)) ++ t807).size + 1 ≤ 9223372036854775807 then ((spec_l1Num.f k a0_1).bind fun t808 => (if ((((⟨#[46]⟩ : ByteArray) ++ (⟨#[32]⟩ : ByteArray)) ++ t807) ++ (⟨#[32]⟩ : ByteArray)).size + t808.size ≤ 9223372036854775807 then (if (((((⟨#[46]⟩ : ByteArray) ++ (⟨#[32]⟩ : ByteArray)) ++ t807) ++ (⟨#[32]⟩ : ByteArray)) ++ t808).size + 1 ≤ 9223372036854775807 then (if ((((((⟨#[46]⟩ : ByteArray) ++ (⟨#[32]⟩ : ByteArray)) ++ t807) ++ (⟨#[32]⟩ : ByteArray)) ++ t808) ++ (⟨#[32]⟩ : ByteArray)).size + a0_3.size ≤ 9223372036854775807 then (some (((((((⟨#[46]⟩ : ByteArray) ++ (⟨#[32]⟩ : ByteArray)) ++ t807) ++ (⟨#[32]⟩ : ByteArray)) ++ t808) ++ (⟨#[32]⟩ : ByteArray)) ++ a0_3)) else (none)) else (none)) else (none))) else (none)) else (none))) else (none)) else (if a0_0.size + 1 ≤ 9223372036854775807 then ((spec_l1Num.f k a0_2).bind fun t809 => (if (a0_0 ++ (⟨#[32]⟩ : ByteArray)).size + t809.size ≤ 9223372036854775807 then (if ((a0_0 ++ (⟨#[32]⟩ : ByteArray)) ++ t809).size + 1 ≤ 9223372036854775807 then ((spec_l1Num.f k a0_1).bind fun t810 => (if (((a0_0 ++ (⟨#[32]⟩ : ByteArray)) ++ t809) ++ (⟨#[32]⟩ : ByteArray)).size + t810.size ≤ 9223372036854775807 then (if ((((a0_0 ++ (⟨#[32]⟩ : ByteArray)) ++ t809) ++ (⟨#[32]⟩ : ByteArray)) ++ t810).size + 1 ≤ 9223372036854775807 then (if (((((a0_0 ++ (⟨#[32]⟩ : ByteArray)) ++ t809) ++ (⟨#[32]⟩ : ByteArray)) ++ t810) ++ (⟨#[32]⟩ : ByteArray)).size + a0_3.size ≤ 9223372036854775807 then (some ((((((a0_0 ++ (⟨#[32]⟩ : ByteArray)) ++ t809) ++ (⟨#[32]⟩ : ByteArray)) ++ t810) ++ (⟨#[32]⟩ : ByteArray)) ++ a0_3)) else (none)) else (none)) else (none))) else (none)) else (none))) else (none))
def spec_l3Text.T4 : Bool × List (List Nat × List Nat) := (true, [([], []), ([0], [0]), ([], []), ([2], [2]), ([3], [3]), ([1, 4], [1, 4]), ([5], [5]), ([], []), ([7], [7]), ([8, 4], [8]), ([6, 9], [6, 9]), ([10], [10]), ([], []), ([12], [12]), ([11, 13], [11, 13]), ([14, 9, 0, 1, 2, 3, 4, 5, 6, 7, 8, 9, 10, 11, 12, 13, 14], [14])])
def spec_l3Text.B4 : List Nat := [0, 1, 0, 4, 12, 31, 63, 0, 128, 412, 1023, 2047, 0, 4096, 16383, 32767]
def impl_told.f (a0 : ByteArray) : Option (ByteArray) := if a0.toList = ([] : List UInt8) then (some (⟨#[46]⟩ : ByteArray)) else (some a0)
end Go.Proofs.YtkpkfallgjdkmaaGreatDoor.P
namespace Go.Proofs.YtkpkfallgjdkmaaGreatDoor.P
open Go.Shelf Go.RowKit Go.Proofs.YtkpkfallgjdkmaaGreatDoorW.PrintWords Go.Proofs.YtkpkfallgjdkmaaGreatDoorW.PrintLast Go.Proofs.YtkpkfallgjdkmaaGreatDoorW.PrintMore
set_option linter.unusedVariables false
set_option linter.unusedSimpArgs false
def strconv_Itoa.f (v : Int) : Option ByteArray :=
  if -9223372036854775808 ≤ v ∧ v ≤ 9223372036854775807 then some ⟨(Lib.itoa v).toArray⟩ else none
end Go.Proofs.YtkpkfallgjdkmaaGreatDoor.P
namespace Go.Proofs.YtkpkfallgjdkmaaGreatDoor.P
open Go.RowKit Go.Proofs.YtkpkfallgjdkmaaGreatDoorW.PrintWords Go.Proofs.YtkpkfallgjdkmaaGreatDoorW.PrintLast Go.Proofs.YtkpkfallgjdkmaaGreatDoorW.PrintMore
attribute [local go_sem] max2_int min2_int max_two min_two max_three min_three max_four min_four
set_option linter.unusedVariables false
set_option linter.unusedSimpArgs false
def impl_recordText.f (a0_0 : ByteArray) (a0_1 : Int) (a0_2 : Int) (a0_3 : ByteArray) : Option (ByteArray) := (impl_told.f a0_0).bind fun t820 => (if t820.size + 1 ≤ 9223372036854775807 then ((strconv_Itoa.f a0_2).bind fun t821 => (if (t820 ++ (⟨#[32]⟩ : ByteArray)).size + t821.size ≤ 9223372036854775807 then (if ((t820 ++ (⟨#[32]⟩ : ByteArray)) ++ t821).size + 1 ≤ 9223372036854775807 then ((strconv_Itoa.f a0_1).bind fun t822 => (if (((t820 ++ (⟨#[32]⟩ : ByteArray)) ++ t821) ++ (⟨#[32]⟩ : ByteArray)).size + t822.size ≤ 9223372036854775807 then (if ((((t820 ++ (⟨#[32]⟩ : ByteArray)) ++ t821) ++ (⟨#[32]⟩ : ByteArray)) ++ t822).size + 1 ≤ 9223372036854775807 then (if (((((t820 ++ (⟨#[32]⟩ : ByteArray)) ++ t821) ++ (⟨#[32]⟩ : ByteArray)) ++ t822) ++ (⟨#[32]⟩ : ByteArray)).size + a0_3.size ≤ 9223372036854775807 then (some ((((((t820 ++ (⟨#[32]⟩ : ByteArray)) ++ t821) ++ (⟨#[32]⟩ : ByteArray)) ++ t822) ++ (⟨#[32]⟩ : ByteArray)) ++ a0_3)) else (none)) else (none)) else (none))) else (none)) else (none))) else (none))
def impl_recordText.T1 : Bool × List (List Nat × List Nat) := (true, [([], []), ([0], [0]), ([1], [1]), ([2], [2]), ([], []), ([4], [4]), ([5, 2], [5]), ([3, 6], [3, 6]), ([7], [7]), ([], []), ([9], [9]), ([10, 6], [10]), ([8, 11], [8, 11]), ([12], [12]), ([], []), ([14], [14]), ([13, 15], [13, 15]), ([16, 11, 0, 1, 2, 3, 4, 5, 6, 7, 8, 9, 10, 11, 12, 13, 14, 15, 16], [16])])
def impl_recordText.B1 : List Nat := [0, 1, 3, 7, 0, 16, 55, 127, 255, 0, 512, 1655, 4095, 8191, 0, 16384, 65535, 131071]
end Go.Proofs.YtkpkfallgjdkmaaGreatDoor.P
namespace Go.Proofs.YtkpkfallgjdkmaaGreatDoor.Pure
open Go.RowKit Go.Proofs.YtkpkfallgjdkmaaGreatDoor.P Go.Proofs.YtkpkfallgjdkmaaGreatDoorW.PrintWords Go.Proofs.YtkpkfallgjdkmaaGreatDoorW.PrintLast Go.Proofs.YtkpkfallgjdkmaaGreatDoorW.PrintMore
set_option linter.unusedVariables false
set_option linter.unusedSimpArgs false
def toldB (a : ByteArray) : ByteArray := if a.toList = ([] : List UInt8) then (⟨#[46]⟩ : ByteArray) else a
def itB (n : Int) : ByteArray := mkB (Lib.decDigits n.toNat)
def rtext (a : ByteArray) (b c : Int) (d : ByteArray) : ByteArray := (((((toldB a ++ (⟨#[32]⟩ : ByteArray)) ++ itB c) ++ (⟨#[32]⟩ : ByteArray)) ++ itB b) ++ (⟨#[32]⟩ : ByteArray)) ++ d
end Go.Proofs.YtkpkfallgjdkmaaGreatDoor.Pure
