/- The law FnExactNewestOf answers true for every slice of integers. Conditions: none. -/
import Derived.Test.YtkbhmikjnoncfaaF10
import Derived.Test.YtkbhmikjnoncfaaHNewest
namespace Go.Proofs.Ytkbhmikjnoncfaa.Pure
open Go.RowKit Go.Proofs.Ytkbhmikjnoncfaa.P Go.Proofs.YtkbhmikjnoncfaaW.PrintWords Go.Proofs.YtkbhmikjnoncfaaW.PrintLast

theorem w64_succ {i : Int} {n : Nat} (h0 : 0 ≤ i) (h : i < (n : Int)) (hn : n ≤ 9223372036854775807) : wrap64 (i + 1) = i + 1 := by
  unfold wrap64
  omega

theorem toIntS_loop (l : List Int) (hn : l.length ≤ 9223372036854775807) (d : Nat) : ∀ (i : Nat) (x : List Int), i + d = l.length → x.length = l.length → x.take i = l.take i →
    Ev (fun k => laws_toIntS.l0 k l x (i : Int)) l := by
  induction d with
  | zero =>
    intro i x hi hx ht
    have hi' : i = l.length := by omega
    have e : x = l := by
      rw [hi', List.take_length] at ht
      rw [← ht, ← hx, List.take_length]
    subst e
    refine Ev.step (f := fun _ => some x) (fun k => ?_) (Ev.now _)
    simp only [laws_toIntS.l0]
    rw [if_neg (by omega)]
  | succ d ih =>
    intro i x hi hx ht
    have hlt : (i : Int) < (l.length : Int) := by omega
    refine Ev.step (f := fun k => laws_toIntS.l0 k l (x.set i (rd l i)) ((i + 1 : Nat) : Int)) (fun k => ?_) (ih (i + 1) _ (by omega) (by simpa using hx) ?_)
    · simp only [laws_toIntS.l0]
      rw [if_pos hlt, if_pos (by omega), if_pos (by omega), w64_succ (n := l.length) (by omega) hlt hn, Int.toNat_natCast]
      rfl
    · have hi2 : i < l.length := by omega
      rw [List.take_add_one, List.take_add_one, List.take_set_of_le (by omega), ht, List.getElem?_set_self (by omega), List.getElem?_eq_getElem hi2]
      simp [rd, List.getElem?_eq_getElem hi2]

theorem toIntS_ev (l : List Int) (hn : l.length ≤ 35184372088832) : Ev (fun k => laws_toIntS.f k l) l := by
  refine Ev.congr (f := fun k => laws_toIntS.l0 k l (List.replicate l.length 0) ((0 : Nat) : Int)) (fun k => ?_) (toIntS_loop l (by omega) l.length 0 _ (by omega) (by simp) (by simp))
  unfold laws_toIntS.f
  rw [if_pos (by omega), if_pos (by simpa using hn)]
  simp

theorem eqIntS_loop (l l' : List Int) (hn : l.length ≤ 9223372036854775807) (hl : l.length = l'.length) (d : Nat) : ∀ (i : Nat), i + d = l.length →
    Ev (fun k => laws_eqIntS.l0 k l l' (i : Int)) (decide (l.drop i = l'.drop i)) := by
  induction d with
  | zero =>
    intro i hi
    rw [List.drop_eq_nil_of_le (by omega), List.drop_eq_nil_of_le (by omega)]
    refine Ev.step (f := fun _ => some true) (fun k => ?_) (Ev.now _)
    simp only [laws_eqIntS.l0]
    rw [if_neg (by omega)]
  | succ d ih =>
    intro i hi
    have hi1 : i < l.length := by omega
    have hi2 : i < l'.length := by omega
    have r1 : rd l i = l[i] := by simp [rd, List.getElem?_eq_getElem hi1]
    have r2 : rd l' i = l'[i] := by simp [rd, List.getElem?_eq_getElem hi2]
    rw [List.drop_eq_getElem_cons hi1, List.drop_eq_getElem_cons hi2]
    by_cases e : l[i] = l'[i]
    · refine Ev.step (f := fun k => laws_eqIntS.l0 k l l' ((i + 1 : Nat) : Int)) (fun k => ?_) ?_
      · simp only [laws_eqIntS.l0]
        rw [if_pos (by omega), if_pos (by omega), if_pos (by omega), r1, r2, if_pos e, w64_succ (n := l.length) (by omega) (by omega) hn]
        rfl
      · have h2 : decide (l[i] :: l.drop (i + 1) = l'[i] :: l'.drop (i + 1)) = decide (l.drop (i + 1) = l'.drop (i + 1)) := by
          rw [decide_eq_decide, List.cons.injEq]
          exact ⟨fun h => h.2, fun h => ⟨e, h⟩⟩
        rw [h2]
        exact ih (i + 1) (by omega)
    · have h2 : decide (l[i] :: l.drop (i + 1) = l'[i] :: l'.drop (i + 1)) = false := by
        rw [decide_eq_false_iff_not, List.cons.injEq]
        exact fun h => e h.1
      rw [h2]
      refine Ev.step (f := fun _ => some false) (fun k => ?_) (Ev.now _)
      simp only [laws_eqIntS.l0]
      rw [if_pos (by omega), if_pos (by omega), if_pos (by omega), r1, r2, if_neg e]

theorem eqIntS_ev (l l' : List Int) (hn : l.length ≤ 9223372036854775807) : Ev (fun k => laws_eqIntS.f k l l') (decide (l = l')) := by
  by_cases hl : l.length = l'.length
  · refine Ev.congr (f := fun k => laws_eqIntS.l0 k l l' ((0 : Nat) : Int)) (fun k => ?_) ?_
    · unfold laws_eqIntS.f
      rw [if_pos (by omega)]
      rfl
    · simpa using eqIntS_loop l l' hn hl l.length 0 (by omega)
  · have e : decide (l = l') = false := decide_eq_false (fun h => hl (by rw [h]))
    rw [e]
    refine Ev.congr (f := fun _ => some false) (fun k => ?_) (Ev.now _)
    unfold laws_eqIntS.f
    rw [if_neg (by omega)]

theorem l5Serial_eq (a : Int) : spec_l5Serial.f a = some (isSer a) := by
  rw [← isSerial_eq]; rfl

theorem specLess_ev (a b : Int) : Ev (fun k => spec_SerialLess.f k a b) (slP a b) := by
  have h := serialLess_eq a b
  refine Ev.of (k := 1) (fun k => spec_SerialLess.mono _ _ k) ?_
  rw [← h]
  unfold spec_SerialLess.f impl_SerialLess.f impl_StepsBetween.f
  rw [l5Serial_eq, l5Serial_eq, isSerial_eq, isSerial_eq]
  simp only [spec_SerialLess.j0]
  unfold spec_l5Steps.f spec_l1In.f impl_within.f
  generalize Int.tmod (wrap64 ((wrap64 (b - a)) + 4294967296)) 4294967296 = n
  cases isSer a <;> cases isSer b <;> by_cases h5 : n = 2147483648 <;> by_cases h6 : n ≥ 1 <;> simp [h5, h6]

theorem rd_get (l : List Int) (i : Nat) (h : i < l.length) : rd l i = l[i] := by simp [rd, List.getElem?_eq_getElem h]

theorem newest_l2 (l : List Int) (hn : l.length ≤ 20) (x29 : Int) (a : Int) (d : Nat) : ∀ (i : Nat) (b : Bool) (r : Int × Bool), i + d = l.length →
    ((b && (l.drop i).all (fun x => !nwP a x)) = true → r = (a, true)) →
    ((b && (l.drop i).all (fun x => !nwP a x)) = false → Ev (fun k => spec_NewestOf.l1 k l l (l.length : Int) (wrap64 (x29 + 1))) r) →
    Ev (fun k => spec_NewestOf.l2 k l a b l (l.length : Int) x29 l (l.length : Int) (i : Int)) r := by
  induction d with
  | zero =>
    intro i b r hi h1 h2
    rw [List.drop_eq_nil_of_le (by omega)] at h1 h2
    cases b with
    | true =>
      refine Ev.step (f := fun _ => some r) (fun k => ?_) (Ev.now _)
      simp only [spec_NewestOf.l2]
      rw [if_neg (by omega), h1 (by simp)]
      rfl
    | false =>
      refine Ev.step (fun k => ?_) (h2 (by simp))
      simp only [spec_NewestOf.l2]
      rw [if_neg (by omega), if_neg (by decide)]
  | succ d ih =>
    intro i b r hi h1 h2
    have hi1 : i < l.length := by omega
    rw [List.drop_eq_getElem_cons hi1, List.all_cons] at h1 h2
    have hs := specLess_ev a l[i]
    have key := ih (i + 1) (b && !nwP a l[i]) r (by omega) (by simpa [Bool.and_assoc] using h1) (by simpa [Bool.and_assoc] using h2)
    have e : ∀ k, spec_NewestOf.l2 (k + 1) l a b l (l.length : Int) x29 l (l.length : Int) (i : Int) = (spec_SerialLess.f k a l[i]).bind fun t => spec_NewestOf.l2 k l a (b && !(t.1 || !t.2)) l (l.length : Int) x29 l (l.length : Int) ((i + 1 : Nat) : Int) := by
      intro k
      simp only [spec_NewestOf.l2]
      rw [if_pos (by omega), if_pos (by omega), if_pos (by omega), rd_get l i hi1, w64_succ (n := l.length) (by omega) (by omega) (by omega)]
      congr 1
      funext t
      obtain ⟨t1, t2⟩ := t
      cases b <;> cases t1 <;> cases t2 <;> rfl
    exact Ev.step e (Ev.bind hs (by simpa [nwP] using key))

theorem newest_l1 (l : List Int) (hn : l.length ≤ 20) (d : Nat) : ∀ (i : Nat), i + d = l.length →
    Ev (fun k => spec_NewestOf.l1 k l l (l.length : Int) (i : Int)) (match (l.drop i).find? (fun a => !l.any (nwP a)) with | some a => (a, true) | none => (0, false)) := by
  induction d with
  | zero =>
    intro i hi
    rw [List.drop_eq_nil_of_le (by omega)]
    refine Ev.step (f := fun _ => some (0, false)) (fun k => ?_) (Ev.now _)
    simp only [spec_NewestOf.l1]
    rw [if_neg (by omega)]
  | succ d ih =>
    intro i hi
    have hi1 : i < l.length := by omega
    rw [List.drop_eq_getElem_cons hi1]
    refine Ev.step (f := fun k => spec_NewestOf.l2 k l l[i] true l (l.length : Int) (i : Int) l (l.length : Int) ((0 : Nat) : Int)) (fun k => ?_) ?_
    · simp only [spec_NewestOf.l1]
      rw [if_pos (by omega), if_pos (by omega), if_pos (by omega), rd_get l i hi1]
      rfl
    · have hall : l.all (fun x => !nwP l[i] x) = !l.any (nwP l[i]) := by
        rw [List.not_any_eq_all_not]
      refine newest_l2 l hn i l[i] l.length 0 true _ (by omega) (fun h => ?_) (fun h => ?_)
      · rw [List.drop_zero, hall, Bool.true_and] at h
        rw [List.find?_cons_of_pos (p := fun a => !l.any (nwP a)) h]
      · rw [List.drop_zero, hall, Bool.true_and] at h
        rw [w64_succ (n := l.length) (by omega) (by omega) (by omega)]
        rw [List.find?_cons_of_neg (p := fun a => !l.any (nwP a)) (by rw [h]; decide)]
        exact ih (i + 1) (by omega)

theorem newest_l0 (l : List Int) (hn : l.length ≤ 20) (d : Nat) : ∀ (i : Nat), i + d = l.length →
    Ev (fun k => spec_NewestOf.l0 k l l (l.length : Int) (i : Int)) (if (l.drop i).any (fun x => !isSer x) then (0, false) else match l.find? (fun a => !l.any (nwP a)) with | some a => (a, true) | none => (0, false)) := by
  induction d with
  | zero =>
    intro i hi
    rw [List.drop_eq_nil_of_le (by omega)]
    refine Ev.step (f := fun k => spec_NewestOf.l1 k l l (l.length : Int) ((0 : Nat) : Int)) (fun k => ?_) (by simpa using newest_l1 l hn l.length 0 (by omega))
    simp only [spec_NewestOf.l0]
    rw [if_neg (by omega)]
    rfl
  | succ d ih =>
    intro i hi
    have hi1 : i < l.length := by omega
    rw [List.drop_eq_getElem_cons hi1, List.any_cons]
    have hs := l5Serial_eq l[i]
    cases hq : isSer l[i] with
    | true =>
      refine Ev.step (f := fun k => spec_NewestOf.l0 k l l (l.length : Int) ((i + 1 : Nat) : Int)) (fun k => ?_) (by simpa using ih (i + 1) (by omega))
      simp only [spec_NewestOf.l0]
      rw [if_pos (by omega), if_pos (by omega), if_pos (by omega), rd_get l i hi1, hs, hq, w64_succ (n := l.length) (by omega) (by omega) (by omega)]
      rfl
    | false =>
      refine Ev.step (f := fun k => some (0, false)) (fun k => ?_) (by simpa using Ev.now _)
      simp only [spec_NewestOf.l0]
      rw [if_pos (by omega), if_pos (by omega), if_pos (by omega), rd_get l i hi1, hs, hq]
      rfl

theorem newest_ev (l : List Int) : Ev (fun k => spec_NewestOf.f k l) (impl_NewestOf.g l) := by
  have hw : spec_l1In.f (l.length : Int) 1 20 = some (decide (1 ≤ l.length ∧ l.length ≤ 20)) := by
    unfold spec_l1In.f
    by_cases h1 : (l.length : Int) ≥ 1
    · rw [if_pos h1]; congr 1; rw [decide_eq_decide]; omega
    · rw [if_neg h1]; congr 1; rw [eq_comm, decide_eq_false_iff_not]; omega
  unfold impl_NewestOf.g
  by_cases hl : 1 ≤ l.length ∧ l.length ≤ 20
  · rw [if_pos hl]
    refine Ev.congr (f := fun k => spec_NewestOf.l0 k l l (l.length : Int) ((0 : Nat) : Int)) (fun k => ?_) (newest_l0 l hl.2 l.length 0 (by omega))
    unfold spec_NewestOf.f
    rw [hw, decide_eq_true hl]
    rfl
  · rw [if_neg hl]
    refine Ev.congr (f := fun _ => some (0, false)) (fun k => ?_) (Ev.now _)
    unfold spec_NewestOf.f
    rw [hw, decide_eq_false hl]
    rfl

theorem FnExactNewestOf : laws_FnExactNewestOf.Pure := by
  intro l _ hlen _
  refine Ev.rounds ?_
  by_cases h : (l.length : Int) > 1048576
  · refine Ev.congr (f := fun _ => some true) (fun k => ?_) (Ev.now _)
    unfold laws_FnExactNewestOf.f
    rw [if_pos h]
  · have ht := toIntS_ev l (by omega)
    have hE := eqIntS_ev l l (by omega)
    rw [decide_eq_true rfl] at hE
    refine Ev.congr (fun k => ?_) (Ev.bind ht (f := fun k t => (spec_NewestOf.f k t).bind fun b1 => (laws_toIntS.f k l).bind fun t2 => (impl_NewestOf.f t2).bind fun b2 => if b2.1 = b1.1 then laws_FnExactNewestOf.j0 k l t2 (b2.2 != b1.2) else laws_FnExactNewestOf.j0 k l t2 true) ?_)
    · unfold laws_FnExactNewestOf.f
      rw [if_neg h]
    · refine Ev.bind (newest_ev l) (Ev.bind ht ?_)
      unfold impl_NewestOf.f
      simp only [Option.bind_some, if_true, bne_self_eq_false]
      refine Ev.step (f := fun k => (laws_toIntS.f k l).bind fun t => (laws_eqIntS.f k l t).bind fun t2 => if t2 = true then some true else some false) (fun k => ?_) (Ev.bind ht (Ev.bind hE (Ev.now _)))
      simp only [laws_FnExactNewestOf.j0]
      rfl

end Go.Proofs.Ytkbhmikjnoncfaa.Pure
