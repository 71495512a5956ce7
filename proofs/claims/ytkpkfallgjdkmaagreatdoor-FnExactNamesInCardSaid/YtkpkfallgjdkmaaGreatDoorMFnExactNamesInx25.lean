/- FnExactNamesIn: part 26 of 30 of my texts for this claim, joined; the theorem stands in the last. Conditions: none beyond the statement's. -/
import Derived.Test.YtkpkfallgjdkmaaGreatDoorMFnExactNamesInx21
import Derived.Test.YtkpkfallgjdkmaaGreatDoorMFnExactNamesInx24
import Derived.Test.YtkpkfallgjdkmaaGreatDoorMFnExactNamesInx14
import Derived.Test.YtkpkfallgjdkmaaGreatDoorMFnExactNamesInx9
import Derived.Test.YtkpkfallgjdkmaaGreatDoorMFnExactNamesInx11
import Derived.Test.YtkpkfallgjdkmaaGreatDoorMFnExactNamesInx23
import Derived.Test.YtkpkfallgjdkmaaGreatDoorMFnExactNamesInx7
namespace Go.Proofs.YtkpkfallgjdkmaaGreatDoor.Pure
open Go.RowKit Go.Proofs.YtkpkfallgjdkmaaGreatDoor.P Go.Proofs.YtkpkfallgjdkmaaGreatDoorW.PrintWords Go.Proofs.YtkpkfallgjdkmaaGreatDoorW.PrintLast Go.Proofs.YtkpkfallgjdkmaaGreatDoorW.PrintMore
set_option linter.unusedVariables false
set_option linter.unusedSimpArgs false
abbrev ZRec := S72
def nmL (r : ZRec) : List UInt8 := r.f0.data.toList
theorem nm_eq (a b : ByteArray) : a = b ↔ a.data.toList = b.data.toList := by
 constructor
 · rintro rfl; rfl
 · intro h
   rw [← mkB_id a, ← mkB_id b, h]
where mkB_id (t : ByteArray) : mkB t.data.toList = t := by simp [mkB]
def atL (l : List ZRec) (name : ByteArray) (kind : Int) : List ZRec := l.filter fun r => decide (r.f0 = name) && (decide (kind = 0) || decide (r.f1 = kind))
instance : DecidableEq (S72) := fun a b =>
 if h : a.f0 = b.f0 ∧ a.f1 = b.f1 ∧ a.f2 = b.f2 ∧ a.f3 = b.f3 then isTrue (by cases a; cases b; simp_all) else isFalse (by rintro rfl; exact h ⟨rfl, rfl, rfl, rfl⟩)
def breaksL (apex : ByteArray) (l : List ZRec) (r : ZRec) (rule : Int) : Bool :=
 if rule = 1 then !belowL (nmL r) apex.data.toList
 else if rule = 2 then decide (r.f1 = 6) && decide (r.f0 ≠ apex)
 else if rule = 3 then (atL l r.f0 r.f1).any fun x => decide (x.f2 ≠ r.f2) || (decide (x.f3 = r.f3) && decide (x ≠ r))
 else if rule = 4 then decide (r.f1 = 5) && decide (1 < (atL l r.f0 0).length)
 else if rule = 5 then decide (r.f1 = 5) && decide (r.f0 = apex)
 else l.any fun c => (decide (c.f1 = 2) && (decide (c.f0 ≠ apex) && belowL (nmL r) (nmL c))) && (decide (r.f1 ≠ 1) && !(decide (r.f1 = 2) && decide (r.f0 = c.f0)))
def ruleI (apex : ByteArray) (l : List ZRec) (rule : Int) : Bool := l.any (fun r => breaksL apex l r rule) || (decide (rule = 2) && decide ((atL l apex 6).length ≠ 1))
def firstI (apex : ByteArray) (l : List ZRec) : Nat → Int → Int
 | 0, _ => 0
 | n + 1, rule => if ruleI apex l rule = true then rule else firstI apex l n (rule + 1)
def soaW (apex : ByteArray) : List ZRec → Int
 | [] => 0
 | r :: l => (if r.f1 = 6 then (if r.f0 = apex then 1 else 2) else 0) + soaW apex l
def sameK (a b : ZRec) : Bool := decide (a.f0 = b.f0) && decide (a.f1 = b.f1)
def adjB : List ZRec → Bool
 | a :: b :: l => (sameK a b && (decide (a.f2 ≠ b.f2) || decide (a.f3 = b.f3))) || adjB (b :: l)
 | _ => false
def pairB : List ZRec → List ZRec → Bool
 | _, [] => false
 | pre, r :: l => (pre.any fun o => decide (o.f0 = r.f0) && (decide (o.f1 = 5) || decide (r.f1 = 5))) || pairB (pre ++ [r]) l
def hasL (l : List ZRec) (name : List UInt8) (kind : Int) : Bool := l.any fun r => decide (nmL r = name) && decide (r.f1 = kind)
def cutL (apex : List UInt8) (l : List ZRec) : Nat → Option (List UInt8) → List UInt8 → Option (List UInt8)
 | 0, found, _ => found
 | n + 1, found, name => if name ≠ apex ∧ belowL name apex = true then (if name = [] then (if hasL l name 2 = true then some name else found) else cutL apex l n (if hasL l name 2 = true then some name else found) (parL name)) else found
def cutOf (apex : List UInt8) (l : List ZRec) (name : List UInt8) : Option (List UInt8) := cutL apex l (name.length + 1) none name
def six (apex : List UInt8) (l : List ZRec) (r : ZRec) : Bool := match cutOf apex l (nmL r) with
 | some c => decide (r.f1 ≠ 1) && (decide (r.f1 ≠ 2) || decide (nmL r ≠ c))
 | none => false
def ruleS (apex : ByteArray) (l : List ZRec) : Int :=
 if (l.any fun r => !belowL (nmL r) apex.data.toList) = true then 1
 else if soaW apex l ≠ 1 then 2
 else if adjB l = true then 3
 else if pairB [] l = true then 4
 else if hasL l apex.data.toList 5 = true then 5
 else if l.any (six apex.data.toList l) = true then 6 else 0
theorem soa_parts (apex : ByteArray) : ∀ l : List ZRec, soaW apex l = ((atL l apex 6).length : Int) + 2 * ((l.filter fun r => decide (r.f1 = 6) && decide (r.f0 ≠ apex)).length : Int)
 | [] => rfl
 | r :: l => by
  have ih := soa_parts apex l
  show (if r.f1 = 6 then (if r.f0 = apex then 1 else 2) else 0) + soaW apex l = _
  rw [ih]
  unfold atL
  rw [List.filter_cons, List.filter_cons]
  by_cases h6 : r.f1 = 6
  · by_cases ha : r.f0 = apex
    · simp [h6, ha]; omega
    · simp [h6, ha]; omega
  · simp [h6]
theorem two_eq (apex : ByteArray) (l : List ZRec) : ruleI apex l 2 = decide (soaW apex l ≠ 1) := by
 rw [soa_parts]
 unfold ruleI
 have e : (l.any fun r => breaksL apex l r 2) = decide ((l.filter fun r => decide (r.f1 = 6) && decide (r.f0 ≠ apex)).length ≠ 0) := by
  rw [Bool.eq_iff_iff, List.any_eq_true, decide_eq_true_eq]
  constructor
  · rintro ⟨r, hr, hb⟩ h0
    have : r ∈ l.filter fun r => decide (r.f1 = 6) && decide (r.f0 ≠ apex) := List.mem_filter.2 ⟨hr, by simpa [breaksL] using hb⟩
    rw [List.length_eq_zero_iff.1 h0] at this
    cases this
  · intro h0
    obtain ⟨r, hr⟩ := List.exists_mem_of_length_pos (Nat.pos_of_ne_zero h0)
    obtain ⟨h1, h2⟩ := List.mem_filter.1 hr
    exact ⟨r, h1, by simpa [breaksL] using h2⟩
 rw [e]
 by_cases h1 : (l.filter fun r => decide (r.f1 = 6) && decide (r.f0 ≠ apex)).length = 0
 · rw [h1]
   by_cases h2 : (atL l apex 6).length = 1
   · rw [h2]; decide
   · rw [decide_eq_true (show (atL l apex 6).length ≠ 1 from h2), decide_eq_true (show ((atL l apex 6).length : Int) + 2 * ((0 : Nat) : Int) ≠ 1 by omega)]; decide
 · rw [decide_eq_true (show (l.filter fun r => decide (r.f1 = 6) && decide (r.f0 ≠ apex)).length ≠ 0 from h1), Bool.true_or, eq_comm, decide_eq_true_eq]
   omega
theorem cmpB_P (x y : List UInt8) : Lib.compareBytes x y = cmpP (mkB x) (mkB y) := by
 rw [cmpB_eq]
 unfold cmpP
 rw [Lib.toList_data, Lib.toList_data, mkB_data, mkB_data]
 by_cases h : x = y
 · subst h
   have : Op.bytesLess x x = false := by
    have := (cmpP_zero (mkB x) (mkB x)).2 rfl
    unfold cmpP at this
    rw [Lib.toList_data, mkB_data] at this
    cases hb : Op.bytesLess x x with
    | false => rfl
    | true => rw [hb, if_pos rfl] at this; cases this
   rw [if_pos rfl, this, if_neg (by decide), if_neg (by decide)]
 · rw [if_neg h]
   by_cases h1 : Op.bytesLess x y = true
   · rw [if_pos h1, if_pos h1]
   · rw [if_neg h1, if_neg h1]
     by_cases h2 : Op.bytesLess y x = true
     · rw [if_pos h2]
     · exfalso
       apply h
       have := (cmpP_zero (mkB x) (mkB y)).1 (by unfold cmpP; rw [Lib.toList_data, Lib.toList_data, mkB_data, mkB_data, if_neg h1, if_neg h2])
       rw [← mkB_data x, this, mkB_data]
theorem cmpI_zero (a b : Int) : cmpI a b = 0 ↔ a = b := by
 unfold cmpI
 constructor
 · intro h
   by_cases h1 : a < b
   · rw [if_pos h1] at h; cases h
   · rw [if_neg h1] at h
     by_cases h2 : b < a
     · rw [if_pos h2] at h; cases h
     · omega
 · rintro rfl
   rw [if_neg (by omega), if_neg (by omega)]
theorem cmpI_neg (a b : Int) : cmpI a b < 0 ↔ a < b := by
 unfold cmpI
 by_cases h1 : a < b
 · rw [if_pos h1]; simp [h1]
 · rw [if_neg h1]
   by_cases h2 : b < a
   · rw [if_pos h2]; simp; omega
   · rw [if_neg h2]; simp; omega
def keyO (x y : ZRec) : Int := or2 (ordL (nmL x) (nmL y)) (cmpI x.f1 y.f1)
theorem key_zero (x y : ZRec) : keyO x y = 0 ↔ x.f0 = y.f0 ∧ x.f1 = y.f1 := by
 unfold keyO or2
 rw [nm_eq]
 by_cases h : ordL (nmL x) (nmL y) = 0
 · rw [if_pos h, cmpI_zero]
   exact ⟨fun h2 => ⟨(ord_zero _ _).1 h, h2⟩, fun h2 => h2.2⟩
 · rw [if_neg h]
   exact ⟨fun h2 => absurd h2 h, fun h2 => absurd ((ord_zero _ _).2 h2.1) h⟩
theorem key_neg (x y : ZRec) : keyO x y < 0 ↔ ordL (nmL x) (nmL y) < 0 ∨ (nmL x = nmL y ∧ x.f1 < y.f1) := by
 unfold keyO or2
 by_cases h : ordL (nmL x) (nmL y) = 0
 · rw [if_pos h, cmpI_neg]
   exact ⟨fun h2 => .inr ⟨(ord_zero _ _).1 h, h2⟩, fun h2 => h2.elim (fun h3 => by omega) (fun h3 => h3.2)⟩
 · rw [if_neg h]
   exact ⟨fun h2 => .inl h2, fun h2 => h2.elim id (fun h3 => absurd ((ord_zero _ _).2 h3.1) h)⟩
theorem key_trans {x y z : ZRec} (h : keyO x y < 0) (h' : keyO y z < 0) : keyO x z < 0 := by
 rw [key_neg] at *
 rcases h with h | ⟨h, h2⟩
 · rcases h' with h' | ⟨h', h2'⟩
   · exact .inl (ord_trans h h')
   · rw [← h']; exact .inl h
 · rcases h' with h' | ⟨h', h2'⟩
   · rw [h]; exact .inl h'
   · exact .inr ⟨h.trans h', by omega⟩
theorem key_cong {x y z : ZRec} (h : x.f0 = y.f0 ∧ x.f1 = y.f1) : keyO x z = keyO y z ∧ keyO z x = keyO z y := by
 unfold keyO nmL
 rw [h.1, h.2]
 exact ⟨rfl, rfl⟩
def recO (k : ZRec → List UInt8) (x y : ZRec) : Int := ordR (nmL x) x.f1 x.f2 (k x) (nmL y) y.f1 y.f2 (k y)
theorem recO_eq (k : ZRec → List UInt8) (x y : ZRec) : recO k x y = or2 (keyO x y) (or2 (Lib.compareBytes (k x) (k y)) (cmpI x.f2 y.f2)) := rfl
theorem recO_neg (k : ZRec → List UInt8) (x y : ZRec) : recO k x y < 0 ↔ keyO x y < 0 ∨ ((x.f0 = y.f0 ∧ x.f1 = y.f1) ∧ (cmpP (mkB (k x)) (mkB (k y)) < 0 ∨ (k x = k y ∧ x.f2 < y.f2))) := by
 rw [recO_eq, ← key_zero, cmpB_P]
 unfold or2
 by_cases h : keyO x y = 0
 · rw [if_pos h]
   by_cases h2 : cmpP (mkB (k x)) (mkB (k y)) = 0
   · rw [if_pos h2, cmpI_neg]
     have e : k x = k y := by
      have := (cmpP_zero _ _).1 h2
      rw [← mkB_data (k x), this, mkB_data]
     exact ⟨fun h3 => .inr ⟨h, .inr ⟨e, h3⟩⟩, fun h3 => h3.elim (fun h4 => by omega) (fun h4 => h4.2.elim (fun h5 => by omega) (fun h5 => h5.2))⟩
   · rw [if_neg h2]
     exact ⟨fun h3 => .inr ⟨h, .inl h3⟩, fun h3 => h3.elim (fun h4 => by omega) (fun h4 => h4.2.elim id (fun h5 => absurd (by rw [h5.1]; exact (cmpP_zero _ _).2 rfl) h2))⟩
 · rw [if_neg h]
   exact ⟨fun h3 => .inl h3, fun h3 => h3.elim id (fun h4 => absurd h4.1 h)⟩
theorem recO_trans (k : ZRec → List UInt8) {x y z : ZRec} (h : recO k x y < 0) (h' : recO k y z < 0) : recO k x z < 0 := by
 rw [recO_neg] at *
 rcases h with h | ⟨e, h⟩
 · rcases h' with h' | ⟨e', _⟩
   · exact .inl (key_trans h h')
   · exact .inl (by rw [← (key_cong (z := x) e').2]; exact h)
 · rcases h' with h' | ⟨e', h'⟩
   · exact .inl (by rw [(key_cong (z := z) e).1]; exact h')
   · refine .inr ⟨⟨e.1.trans e'.1, e.2.trans e'.2⟩, ?_⟩
     rcases h with h | ⟨h, h2⟩
     · rcases h' with h' | ⟨h', h2'⟩
       · exact .inl (cmpP_trans h h')
       · rw [← h']; exact .inl h
     · rcases h' with h' | ⟨h', h2'⟩
       · rw [h]; exact .inl h'
       · exact .inr ⟨h.trans h', by omega⟩
def Rise (k : ZRec → List UInt8) (l : List ZRec) : Prop := l.Pairwise fun x y => recO k x y < 0
theorem key_mid {k : ZRec → List UInt8} {x y z : ZRec} (h : recO k x y < 0) (h' : recO k y z < 0) (e : x.f0 = z.f0 ∧ x.f1 = z.f1) : x.f0 = y.f0 ∧ x.f1 = y.f1 := by
 rw [recO_neg] at *
 rcases h with h | ⟨e2, _⟩
 · exfalso
   have hxz : keyO x z < 0 := by
    rcases h' with h' | ⟨e', _⟩
    · exact key_trans h h'
    · rw [← (key_cong (z := x) e').2]; exact h
   rw [(key_zero x z).2 e] at hxz
   omega
 · exact e2
theorem one_ttl {k : ZRec → List UInt8} : ∀ (l : List ZRec) (x : ZRec), Rise k (x :: l) → adjB (x :: l) = false → ∀ y ∈ l, (x.f0 = y.f0 ∧ x.f1 = y.f1) → x.f2 = y.f2
 | [], x, _, _, y, hy, _ => by cases hy
 | z :: l, x, hr, ha, y, hy, e => by
  unfold adjB at ha
  rw [Bool.or_eq_false_iff] at ha
  have hr2 := List.pairwise_cons.1 hr
  have hxz := hr2.1 z List.mem_cons_self
  rcases List.mem_cons.1 hy with rfl | hy
  · have h1 := ha.1
    unfold sameK at h1
    rw [decide_eq_true e.1, decide_eq_true e.2, Bool.true_and, Bool.true_and, Bool.or_eq_false_iff, decide_eq_false_iff_not] at h1
    exact Decidable.not_not.1 h1.1
  · have hzy := (List.pairwise_cons.1 hr2.2).1 y hy
    have ez := key_mid hxz hzy e
    have h1 := ha.1
    unfold sameK at h1
    rw [decide_eq_true ez.1, decide_eq_true ez.2, Bool.true_and, Bool.true_and, Bool.or_eq_false_iff, decide_eq_false_iff_not] at h1
    rw [Decidable.not_not.1 h1.1]
    exact one_ttl l z hr2.2 ha.2 y hy ⟨ez.1.symm.trans e.1, ez.2.symm.trans e.2⟩
theorem adj_tail {x : ZRec} {l : List ZRec} (h : adjB (x :: l) = false) : adjB l = false := by
 cases l with
 | nil => rfl
 | cons y l =>
  unfold adjB at h
  rw [Bool.or_eq_false_iff] at h
  exact h.2
theorem pair_ttl {k : ZRec → List UInt8} : ∀ (l : List ZRec), Rise k l → adjB l = false → ∀ x ∈ l, ∀ y ∈ l, (x.f0 = y.f0 ∧ x.f1 = y.f1) → x.f2 = y.f2
 | [], _, _, x, hx, _, _, _ => by cases hx
 | z :: l, hr, ha, x, hx, y, hy, e => by
  have hr2 := List.pairwise_cons.1 hr
  rcases List.mem_cons.1 hx with e1 | hx2
  · rcases List.mem_cons.1 hy with e2 | hy2
    · rw [e1, e2]
    · rw [e1] at e ⊢
      exact one_ttl l z hr ha y hy2 e
  · rcases List.mem_cons.1 hy with e2 | hy2
    · rw [e2] at e ⊢
      exact (one_ttl l z hr ha x hx2 ⟨e.1.symm, e.2.symm⟩).symm
    · exact pair_ttl l hr2.2 (adj_tail ha) x hx2 y hy2 e
theorem rise_neq {k : ZRec → List UInt8} {x y : ZRec} (h : recO k x y < 0) : x ≠ y := by
 rintro rfl
 rw [recO_neg] at h
 rcases h with h | ⟨_, h | ⟨_, h⟩⟩
 · rw [(key_zero x x).2 ⟨rfl, rfl⟩] at h; omega
 · rw [(cmpP_zero _ _).2 rfl] at h; omega
 · omega
theorem adj_hit {k : ZRec → List UInt8} : ∀ (l : List ZRec), Rise k l → adjB l = true → ∃ x ∈ l, ∃ y ∈ l, (x.f0 = y.f0 ∧ x.f1 = y.f1) ∧ (x.f2 ≠ y.f2 ∨ (x.f3 = y.f3 ∧ x ≠ y))
 | [], _, h => by cases h
 | [x], _, h => by cases h
 | x :: y :: l, hr, h => by
  unfold adjB at h
  rw [Bool.or_eq_true] at h
  have hr2 := List.pairwise_cons.1 hr
  rcases h with h | h
  · unfold sameK at h
    simp only [Bool.and_eq_true, Bool.or_eq_true, decide_eq_true_eq] at h
    refine ⟨x, List.mem_cons_self, y, by simp, h.1, ?_⟩
    rcases h.2 with h2 | h2
    · exact .inl h2
    · exact .inr ⟨h2, rise_neq (hr2.1 y List.mem_cons_self)⟩
  · obtain ⟨a, ha, b, hb, r⟩ := adj_hit (y :: l) hr2.2 h
    exact ⟨a, List.mem_cons_of_mem _ ha, b, List.mem_cons_of_mem _ hb, r⟩
theorem three_eq (k : ZRec → List UInt8) (apex : ByteArray) (l : List ZRec) (hr : Rise k l) (hk : ∀ r ∈ l, 1 ≤ r.f1) : ruleI apex l 3 = adjB l := by
 have e : ruleI apex l 3 = (l.any fun r => breaksL apex l r 3) := by unfold ruleI; simp
 rw [e, Bool.eq_iff_iff, List.any_eq_true]
 constructor
 · rintro ⟨r, hm, hb⟩
   have hb : ((atL l r.f0 r.f1).any fun x => decide (x.f2 ≠ r.f2) || (decide (x.f3 = r.f3) && decide (x ≠ r))) = true := hb
   obtain ⟨x, hx, hx2⟩ := List.any_eq_true.1 hb
   unfold atL at hx
   obtain ⟨h1, h2⟩ := List.mem_filter.1 hx
   cases ha : adjB l with
   | true => rfl
   | false =>
    exfalso
    have e2 : x.f0 = r.f0 := by
     have h3 := h2
     rw [Bool.and_eq_true, decide_eq_true_eq] at h3
     exact h3.1
    by_cases h0 : r.f1 = 0 ∧ x.f1 ≠ r.f1
    · exact absurd h0.1 (by have := hk r hm; omega)
    · have e3 : x.f1 = r.f1 := by
       simp only [Bool.and_eq_true, Bool.or_eq_true, decide_eq_true_eq] at h2
       rcases h2.2 with h3 | h3
       · exact Decidable.byContradiction fun hne => h0 ⟨h3, hne⟩
       · exact h3
      have ht := pair_ttl l hr ha x h1 r hm ⟨e2, e3⟩
      simp only [Bool.or_eq_true, Bool.and_eq_true, decide_eq_true_eq] at hx2
      rcases hx2 with h4 | ⟨h4, h5⟩
      · exact h4 ht
      · apply h5
        cases x; cases r
        simp_all
 · intro ha
   obtain ⟨x, hx, y, hy, e, h⟩ := adj_hit l hr ha
   refine ⟨y, hy, ?_⟩
   show ((atL l y.f0 y.f1).any fun x => decide (x.f2 ≠ y.f2) || (decide (x.f3 = y.f3) && decide (x ≠ y))) = true
   refine List.any_eq_true.2 ⟨x, List.mem_filter.2 ⟨hx, by simp [e.1, e.2]⟩, ?_⟩
   simp only [Bool.or_eq_true, Bool.and_eq_true, decide_eq_true_eq]
   exact h
theorem pair_iff : ∀ (l pre : List ZRec), pairB pre l = true ↔ ∃ a r b, l = a ++ r :: b ∧ ∃ o ∈ pre ++ a, o.f0 = r.f0 ∧ (o.f1 = 5 ∨ r.f1 = 5)
 | [], pre => ⟨fun h => (by cases h), fun ⟨a, r, b, h, _⟩ => (by cases a <;> cases h)⟩
 | x :: l, pre => by
  unfold pairB
  rw [Bool.or_eq_true, pair_iff l (pre ++ [x]), List.any_eq_true]
  constructor
  · rintro (⟨o, ho, h⟩ | ⟨a, r, b, h, o, ho, h2⟩)
    · refine ⟨[], x, l, rfl, o, by simpa using ho, ?_⟩
      simpa using h
    · exact ⟨x :: a, r, b, by rw [h]; rfl, o, by simpa using ho, h2⟩
  · rintro ⟨a, r, b, h, o, ho, h2⟩
    cases a with
    | nil =>
     obtain ⟨rfl, rfl⟩ := List.cons.inj h
     exact .inl ⟨o, by simpa using ho, by simpa using h2⟩
    | cons y a =>
     obtain ⟨rfl, rfl⟩ := List.cons.inj h
     exact .inr ⟨a, r, b, rfl, o, by simpa using ho, h2⟩
theorem four_eq (apex : ByteArray) (l : List ZRec) : ruleI apex l 4 = pairB [] l := by
 have e : ruleI apex l 4 = (l.any fun r => breaksL apex l r 4) := by unfold ruleI; simp
 rw [e, Bool.eq_iff_iff, List.any_eq_true, pair_iff]
 constructor
 · rintro ⟨r, hm, hb⟩
   have hb : (decide (r.f1 = 5) && decide (1 < (atL l r.f0 0).length)) = true := hb
   simp only [Bool.and_eq_true, decide_eq_true_eq] at hb
   obtain ⟨p, q, rfl⟩ := List.append_of_mem hm
   have hlen := hb.2
   unfold atL at hlen
   rw [List.filter_append, List.filter_cons, if_pos (by simp), List.length_append, List.length_cons] at hlen
   by_cases h0 : (p.filter fun x => decide (x.f0 = r.f0) && (decide ((0 : Int) = 0) || decide (x.f1 = 0))).length = 0
   · have hq : 0 < (q.filter fun x => decide (x.f0 = r.f0) && (decide ((0 : Int) = 0) || decide (x.f1 = 0))).length := by omega
     obtain ⟨o, ho⟩ := List.exists_mem_of_length_pos hq
     obtain ⟨h1, h2⟩ := List.mem_filter.1 ho
     obtain ⟨q1, q2, rfl⟩ := List.append_of_mem h1
     exact ⟨p ++ r :: q1, o, q2, by simp, r, by simp, by simp at h2; exact h2.symm, .inl hb.1⟩
   · obtain ⟨o, ho⟩ := List.exists_mem_of_length_pos (Nat.pos_of_ne_zero h0)
     obtain ⟨h1, h2⟩ := List.mem_filter.1 ho
     exact ⟨p, r, q, rfl, o, by simpa using h1, by simpa using h2, .inr hb.1⟩
 · rintro ⟨a, r, b, rfl, o, ho, h1, h2⟩
   rw [List.nil_append] at ho
   obtain ⟨a1, a2, rfl⟩ := List.append_of_mem ho
   have hl : ∀ z : ByteArray, z = r.f0 → 1 < (atL ((a1 ++ o :: a2) ++ r :: b) z 0).length := by
    rintro z rfl
    unfold atL
    rw [List.filter_append, List.filter_append, List.filter_cons, List.filter_cons, if_pos (by simp [h1]), if_pos (by simp)]
    simp only [List.length_append, List.length_cons]
    omega
   rcases h2 with h2 | h2
   · refine ⟨o, by simp, ?_⟩
     show (decide (o.f1 = 5) && decide (1 < (atL _ o.f0 0).length)) = true
     rw [decide_eq_true h2, decide_eq_true (hl _ h1)]; rfl
   · refine ⟨r, by simp, ?_⟩
     show (decide (r.f1 = 5) && decide (1 < (atL _ r.f0 0).length)) = true
     rw [decide_eq_true h2, decide_eq_true (hl _ rfl)]; rfl
theorem five_eq (apex : ByteArray) (l : List ZRec) : ruleI apex l 5 = hasL l apex.data.toList 5 := by
 have e : ruleI apex l 5 = (l.any fun r => breaksL apex l r 5) := by unfold ruleI; simp
 rw [e]
 unfold hasL
 congr 1
 funext r
 show (decide (r.f1 = 5) && decide (r.f0 = apex)) = _
 rw [Bool.and_comm]
 congr 1
 rw [decide_eq_decide]
 exact nm_eq _ _
theorem cut_some (apex : List UInt8) (l : List ZRec) : ∀ (n : Nat) (found : Option (List UInt8)) (name m : List UInt8), cutL apex l n found name = some m → found = some m ∨ (hasL l m 2 = true ∧ m ≠ apex ∧ Bel name m)
 | 0, found, name, m, h => .inl h
 | n + 1, found, name, m, h => by
  unfold cutL at h
  by_cases c : name ≠ apex ∧ belowL name apex = true
  · rw [if_pos c] at h
    have key : ∀ m, (if hasL l name 2 = true then some name else found) = some m → found = some m ∨ (hasL l m 2 = true ∧ m ≠ apex ∧ Bel name m) := by
     intro m hm
     by_cases hh : hasL l name 2 = true
     · rw [if_pos hh] at hm
       obtain rfl := Option.some.inj hm
       exact .inr ⟨hh, c.1, bel_refl _⟩
     · rw [if_neg hh] at hm
       exact .inl hm
    by_cases hn : name = []
    · rw [if_pos hn] at h
      exact key m h
    · rw [if_neg hn] at h
      rcases cut_some apex l n _ _ m h with h2 | ⟨h2, h3, h4⟩
      · exact key m h2
      · exact .inr ⟨h2, h3, bel_trans (bel_par name) h4⟩
  · rw [if_neg c] at h
    exact .inl h
theorem cut_keep (apex : List UInt8) (l : List ZRec) : ∀ (n : Nat) (f name : List UInt8), ∃ m, cutL apex l n (some f) name = some m
 | 0, f, name => ⟨f, rfl⟩
 | n + 1, f, name => by
  unfold cutL
  by_cases c : name ≠ apex ∧ belowL name apex = true
  · rw [if_pos c]
    by_cases hh : hasL l name 2 = true
    · rw [if_pos hh]
      by_cases hn : name = []
      · rw [if_pos hn]; exact ⟨_, rfl⟩
      · rw [if_neg hn]; exact cut_keep apex l n _ _
    · rw [if_neg hh]
      by_cases hn : name = []
      · rw [if_pos hn]; exact ⟨_, rfl⟩
      · rw [if_neg hn]; exact cut_keep apex l n _ _
  · rw [if_neg c]; exact ⟨_, rfl⟩
theorem cut_top (apex : List UInt8) (l : List ZRec) (c : List UInt8) (hc : hasL l c 2 = true) (hca : c ≠ apex) (hb : Bel c apex) : ∀ (n : Nat) (found : Option (List UInt8)) (name : List UInt8), name.length < n → Bel name c → ∃ m, cutL apex l n found name = some m ∧ Bel c m
 | 0, found, name, hn, h => absurd hn (by omega)
 | n + 1, found, name, hn, h => by
  have hne : name ≠ apex := by
   rintro rfl
   exact hca (bel_anti hb h)
  unfold cutL
  rw [if_pos ⟨hne, (bel_iff _ _).2 (bel_trans h hb)⟩]
  by_cases he : name = []
  · subst he
    have hc0 : c = [] := by
     have := bel_len h
     exact List.length_eq_zero_iff.1 (by simpa using this)
    subst hc0
    rw [if_pos rfl, if_pos hc]
    exact ⟨[], rfl, bel_refl _⟩
  · rw [if_neg he]
    have hlen : (parL name).length < n := by
     have := parL_len name
     have := List.length_pos_iff.2 he
     omega
    rcases bel_step h with rfl | h2
    · rw [if_pos hc]
      obtain ⟨m, hm⟩ := cut_keep apex l n name (parL name)
      refine ⟨m, hm, ?_⟩
      rcases cut_some apex l n _ _ m hm with h3 | ⟨_, _, h3⟩
      · rw [Option.some.inj h3]; exact bel_refl _
      · exact bel_trans (bel_par name) h3
    · exact cut_top apex l c hc hca hb n _ (parL name) hlen h2
theorem six_eq (apex : ByteArray) (l : List ZRec) (hb : (l.any fun r => !belowL (nmL r) apex.data.toList) = false) : ruleI apex l 6 = l.any (six apex.data.toList l) := by
 have e : ruleI apex l 6 = (l.any fun r => breaksL apex l r 6) := by unfold ruleI; simp
 rw [e, Bool.eq_iff_iff, List.any_eq_true, List.any_eq_true]
 have hbel : ∀ r ∈ l, Bel (nmL r) apex.data.toList := by
  intro r hr
  have := List.any_eq_false.1 hb r hr
  rw [← bel_iff]
  simpa using this
 have hbr : ∀ r, breaksL apex l r 6 = l.any fun c => (decide (c.f1 = 2) && (decide (c.f0 ≠ apex) && belowL (nmL r) (nmL c))) && (decide (r.f1 ≠ 1) && !(decide (r.f1 = 2) && decide (r.f0 = c.f0))) := fun r => rfl
 constructor
 · rintro ⟨r, hm, h⟩
   rw [hbr, List.any_eq_true] at h
   obtain ⟨c, hc, h⟩ := h
   simp only [Bool.and_eq_true, decide_eq_true_eq, Bool.not_eq_true', Bool.and_eq_false_iff, decide_eq_false_iff_not] at h
   obtain ⟨⟨h1, h2, h3⟩, h4, h5⟩ := h
   have hrc := (bel_iff _ _).1 h3
   have hh : hasL l (nmL c) 2 = true := by
    unfold hasL
    exact List.any_eq_true.2 ⟨c, hc, by simp [h1]⟩
   obtain ⟨m, hm2, hcm⟩ := cut_top apex.data.toList l (nmL c) hh (fun e => h2 ((nm_eq _ _).2 e)) (hbel c hc) ((nmL r).length + 1) none (nmL r) (by omega) hrc
   refine ⟨r, hm, ?_⟩
   unfold six cutOf
   rw [hm2]
   simp only [Bool.and_eq_true, Bool.or_eq_true, decide_eq_true_eq]
   refine ⟨h4, ?_⟩
   by_cases h6 : r.f1 = 2
   · right
     intro e
     rcases h5 with h5 | h5
     · exact h5 h6
     · apply h5
       rw [nm_eq]
       exact bel_anti hrc (by rw [show r.f0.data.toList = nmL r from rfl, e]; exact hcm)
   · exact .inl h6
 · rintro ⟨r, hm, h⟩
   unfold six at h
   cases hcut : cutOf apex.data.toList l (nmL r) with
   | none => rw [hcut] at h; cases h
   | some m =>
    rw [hcut] at h
    simp only [Bool.and_eq_true, Bool.or_eq_true, decide_eq_true_eq] at h
    rcases cut_some apex.data.toList l _ _ _ m hcut with h2 | ⟨h2, h3, h4⟩
    · cases h2
    · unfold hasL at h2
      obtain ⟨c, hc, h5⟩ := List.any_eq_true.1 h2
      simp only [Bool.and_eq_true, decide_eq_true_eq] at h5
      refine ⟨r, hm, ?_⟩
      rw [hbr, List.any_eq_true]
      refine ⟨c, hc, ?_⟩
      simp only [Bool.and_eq_true, decide_eq_true_eq, Bool.not_eq_true', Bool.and_eq_false_iff, decide_eq_false_iff_not]
      refine ⟨⟨h5.2, fun e => h3 ?_, (bel_iff _ _).2 (by rw [h5.1]; exact h4)⟩, h.1, ?_⟩
      · rw [← h5.1]
        exact (nm_eq _ _).1 e
      · rcases h.2 with h6 | h6
        · exact .inl h6
        · refine .inr fun e => h6 ?_
          rw [← h5.1]
          exact (nm_eq _ _).1 e
theorem one_eq (apex : ByteArray) (l : List ZRec) : ruleI apex l 1 = (l.any fun r => !belowL (nmL r) apex.data.toList) := by
 unfold ruleI
 rw [show (decide ((1 : Int) = 2) && decide ((atL l apex 6).length ≠ 1)) = false from rfl, Bool.or_false]
 rfl
theorem rule_same (k : ZRec → List UInt8) (apex : ByteArray) (l : List ZRec) (hr : Rise k l) (hk : ∀ r ∈ l, 1 ≤ r.f1) : firstI apex l 6 1 = ruleS apex l := by
 unfold ruleS
 simp only [firstI, show (1 : Int) + 1 = 2 from rfl, show (2 : Int) + 1 = 3 from rfl, show (3 : Int) + 1 = 4 from rfl, show (4 : Int) + 1 = 5 from rfl, show (5 : Int) + 1 = 6 from rfl]
 rw [one_eq, two_eq, three_eq k apex l hr hk, four_eq, five_eq]
 by_cases h1 : (l.any fun r => !belowL (nmL r) apex.data.toList) = true
 · rw [if_pos h1, if_pos h1]
 · rw [if_neg h1, if_neg h1, six_eq apex l (Bool.eq_false_iff.mpr h1)]
   simp only [decide_eq_true_eq]
noncomputable def mark4 (a : Nat) : IRec := ⟨markT (a : Int), ((a + 1 : Nat) : Int), ((a + 2 : Nat) : Int), markT ((a + 3 : Nat) : Int)⟩
noncomputable def marksR (a n : Nat) : List IRec := (List.range n).map fun j => mark4 (a + 4 * j)
theorem mR_w {n : Nat} (h : n < 4611686018427387904) : wrap64 ((n : Int) + 1) = ((n + 1 : Nat) : Int) := by unfold wrap64; omega
theorem rd_set (l : List IRec) (i : Nat) (x : IRec) (h : i < l.length) : rd_T72 (l.set i x) (i : Int) = x := by
 rw [rdI _ i (by rw [List.length_set]; exact h), List.getElem_set_self]
theorem markR_loop (a : Nat) (ha : a < 1000000000) : ∀ (m i : Nat) (l : List IRec), i + m = l.length → l.length ≤ 1048576 → l.take i = marksR a i →
 Ev (fun k => laws_markRecordS.l0 k l ((a + 4 * i : Nat) : Int) (i : Int)) (((a + 4 * l.length : Nat) : Int), marksR a l.length)
 | 0, i, l, h, hl, ht => by
  have hi : i = l.length := by omega
  subst hi
  refine Ev.step (f := fun _ => some (((a + 4 * l.length : Nat) : Int), marksR a l.length)) (fun k => ?_) (Ev.now _)
  show laws_markRecordS.l0 (k + 1) l ((a + 4 * l.length : Nat) : Int) (l.length : Int) = _
  rw [laws_markRecordS.l0, if_neg (by omega)]
  rw [List.take_length] at ht
  rw [← ht]
 | m + 1, i, l, h, hl, ht => by
  have hlt : i < l.length := by omega
  have ih := markR_loop a ha m (i + 1) (l.set i (mark4 (a + 4 * i))) (by rw [List.length_set]; omega) (by rw [List.length_set]; omega) (by
   rw [List.take_set, List.take_add_one, ht, List.getElem?_eq_getElem hlt]
   unfold marksR
   rw [List.range_succ, List.map_append]
   simp [List.set_append])
  rw [List.length_set] at ih
  have w1 : wrap64 (((a + 4 * i : Nat) : Int) + 1) = ((a + 4 * i + 1 : Nat) : Int) := mR_w (by omega)
  have w2 : wrap64 (((a + 4 * i + 1 : Nat) : Int) + 1) = ((a + 4 * i + 2 : Nat) : Int) := mR_w (by omega)
  have w3 : wrap64 (((a + 4 * i + 2 : Nat) : Int) + 1) = ((a + 4 * i + 3 : Nat) : Int) := mR_w (by omega)
  have w4 : wrap64 (((a + 4 * i + 3 : Nat) : Int) + 1) = ((a + 4 * (i + 1) : Nat) : Int) := mR_w (by omega)
  have w5 : wrap64 ((i : Int) + 1) = ((i + 1 : Nat) : Int) := mR_w (by omega)
  refine Ev.step (f := fun k => (laws_markText.f k ((a + 4 * i : Nat) : Int)).bind fun t => (laws_markText.f k ((a + 4 * i + 3 : Nat) : Int)).bind fun t' => laws_markRecordS.l0 k (l.set i ⟨t, ((a + 4 * i + 1 : Nat) : Int), ((a + 4 * i + 2 : Nat) : Int), t'⟩) ((a + 4 * (i + 1) : Nat) : Int) ((i + 1 : Nat) : Int)) (fun k => ?_) (Ev.bind (markT_ev _ (by omega)) (Ev.bind (markT_ev _ (by omega)) ih))
  show laws_markRecordS.l0 (k + 1) l ((a + 4 * i : Nat) : Int) (i : Int) = _
  rw [laws_markRecordS.l0, if_pos (by omega)]
  simp only [w1, w2, w3, w4, w5, Option.bind_some, Int.toNat_natCast, if_pos (show (0 : Int) ≤ (i : Int) by omega)]
  congr 1
  funext t
  have hr : ∀ x, rd_T72 (l.set i x) (i : Int) = x := fun x => rd_set l i x hlt
  simp only [List.set_set, hr]
theorem markR_ev (a : Nat) (ha : a < 1000000000) (l : List IRec) (hl : l.length ≤ 1048576) : Ev (fun k => laws_markRecordS.f k l (a : Int)) (((a + 4 * l.length : Nat) : Int), marksR a l.length) := by
 have := markR_loop a ha l.length 0 l (by omega) hl (by simp [marksR])
 exact Ev.congr (fun k => rfl) this
end Go.Proofs.YtkpkfallgjdkmaaGreatDoor.Pure
namespace Go.Proofs.YtkpkfallgjdkmaaGreatDoor.P
open Go.RowKit Go.Proofs.YtkpkfallgjdkmaaGreatDoorW.PrintWords Go.Proofs.YtkpkfallgjdkmaaGreatDoorW.PrintLast Go.Proofs.YtkpkfallgjdkmaaGreatDoorW.PrintMore Go.Proofs.YtkpkfallgjdkmaaGreatDoor.Pure
set_option linter.unusedVariables false
set_option linter.unusedSimpArgs false
theorem eqA72 (d : Nat) (w : World) (x0 y0 : ByteArray) (x1 y1 : Int) (x2 y2 : Int) (x3 y3 : ByteArray) :
 (Op.equalIn (d + 2) 72 (.agg #[.string x0, .int .i64 x1, .int .i64 x2, .string x3]) (.agg #[.string y0, .int .i64 y1, .int .i64 y2, .string y3])).run Tryz.prog w = .ok (x0.toList == y0.toList && (x1 == y1 && (x2 == y2 && (x3.toList == y3.toList)))) w := by
 refine eqA_of Tryz.underlying72 (by kernel_rfl) ?_
 refine eqf_cons (by rfl) (by go_simp; rfl) (by go_simp; rfl) (by go_simp) ?_
 refine eqf_cons (by rfl) (by go_simp; rfl) (by go_simp; rfl) (by go_simp) ?_
 refine eqf_cons (by rfl) (by go_simp; rfl) (by go_simp; rfl) (by go_simp) ?_
 exact eqf_last (by rfl) (by go_simp; rfl) (by go_simp; rfl) (by go_simp)
attribute [local go_sem high] eqA72
def RecAt (W : World) (B : Nat) (r : S72) : Prop := W.cell? ⟨B, 0, none⟩ = some (.string r.f0) ∧ W.cell? ⟨B, 1, none⟩ = some (.int .i64 r.f1) ∧ W.cell? ⟨B, 2, none⟩ = some (.int .i64 r.f2) ∧ W.cell? ⟨B, 3, none⟩ = some (.string r.f3)
theorem RecAt.below {W W' : World} {B : Nat} {r : S72} (h : RecAt W B r) (hb : Below W.heap.size W W') : RecAt W' B r :=
 ⟨(hb.cell (World.block_lt_of_cell? _ _ h.1)).trans h.1, (hb.cell (World.block_lt_of_cell? _ _ h.2.1)).trans h.2.1, (hb.cell (World.block_lt_of_cell? _ _ h.2.2.1)).trans h.2.2.1, (hb.cell (World.block_lt_of_cell? _ _ h.2.2.2)).trans h.2.2.2⟩
theorem RecAt.of_box {W : World} {B : Nat} {r : S72} (h : W.heap[B]? = some (.cells #[.string r.f0, .int .i64 r.f1, .int .i64 r.f2, .string r.f3] 72 (0, 0))) : RecAt W B r :=
 ⟨(blk_cell h 0).trans rfl, (blk_cell h 1).trans rfl, (blk_cell h 2).trans rfl, (blk_cell h 3).trans rfl⟩
theorem bytes_eq (a b : ByteArray) : (a.toList == b.toList) = decide (a = b) := by
 rw [Bool.eq_iff_iff, beq_iff_eq, decide_eq_true_eq, Lib.toList_data, Lib.toList_data]
 exact (nm_eq _ _).symm
def clashB (r x : S72) : Bool := decide (x.f2 ≠ r.f2) || (decide (x.f3 = r.f3) && decide (x ≠ r))
set_option maxHeartbeats 4000000 in
set_option maxRecDepth 100000 in
theorem breaks1 (r x : S72) (B : Nat) (W : World) (hc : RecAt W B r) :
 Calls Tryz.prog 91 #[encR x, .pointer (some ⟨B, 0, none⟩)] W fun e W' => e = .returned (.bool (clashB r x)) ∧ Below W.heap.size W W' := by
 unfold encR
 have hu := Tryz.underlying72
 have key : clashB r x = (!(x.f2 == r.f2) || ((x.f3.toList == r.f3.toList) && !(x.f0.toList == r.f0.toList && (x.f1 == r.f1 && (x.f2 == r.f2 && (x.f3.toList == r.f3.toList)))))) := by
  unfold clashB
  rw [bytes_eq, bytes_eq, Bool.eq_iff_iff]
  cases x; cases r
  simp
 have HK := Aside0.mk key
 clear key
 obtain ⟨r0, r1, r2, r3⟩ := r
 obtain ⟨x0, x1, x2, x3⟩ := x
 simp only at HK
 have l0 := fun o => (below_alloc (Below.refl W.heap.size W) o).cell (World.block_lt_of_cell? _ _ hc.1) |>.trans hc.1
 have l1 := fun o => (below_alloc (Below.refl W.heap.size W) o).cell (World.block_lt_of_cell? _ _ hc.2.1) |>.trans hc.2.1
 have l2 := fun o => (below_alloc (Below.refl W.heap.size W) o).cell (World.block_lt_of_cell? _ _ hc.2.2.1) |>.trans hc.2.2.1
 have l3 := fun o => (below_alloc (Below.refl W.heap.size W) o).cell (World.block_lt_of_cell? _ _ hc.2.2.2) |>.trans hc.2.2.2
 simp only at l0 l1 l2 l3
 have HB := Aside0.mk (below_alloc (Below.refl W.heap.size W))
 by_cases c1 : x2 = r2
 · have b1 : (x2 == r2) = true := beq_iff_eq.mpr c1
   have b2 : (x2 != r2) = false := bne_eq_false_iff_eq.mpr c1
   by_cases c3 : x3.toList = r3.toList
   · have b3 : (x3.toList == r3.toList) = true := beq_iff_eq.mpr c3
     go_enter Tryz.func91, Tryz.ntmps91
     go_wp2
     go_ret
     exact ⟨by rw [HK.out, b1, b3]; simp, HB.out _⟩
   · have b3 : (x3.toList == r3.toList) = false := beq_eq_false_iff_ne.mpr c3
     go_enter Tryz.func91, Tryz.ntmps91
     go_wp2
     go_ret
     exact ⟨by rw [HK.out, b1, b3]; simp, HB.out _⟩
 · have b1 : (x2 == r2) = false := beq_eq_false_iff_ne.mpr c1
   have b2 : (x2 != r2) = true := bne_iff_ne.mpr c1
   go_enter Tryz.func91, Tryz.ntmps91
   go_wp2
   go_ret
   exact ⟨by rw [HK.out, b1]; rfl, HB.out _⟩
def cutB (apex : ByteArray) (r c : S72) : Bool := (decide (c.f1 = 2) && (decide (c.f0 ≠ apex) && belowL (nmL r) (nmL c))) && (decide (r.f1 ≠ 1) && !(decide (r.f1 = 2) && decide (r.f0 = c.f0)))
set_option maxHeartbeats 4000000 in
set_option maxRecDepth 100000 in
theorem breaks2 (apex : ByteArray) (r c : S72) (BA B : Nat) (W : World) (hs : r.f0.size ≤ 1048576 ∧ c.f0.size ≤ 1048576) (ha : W.cell? ⟨BA, 0, none⟩ = some (.string apex)) (hc : RecAt W B r) :
 Calls Tryz.prog 92 #[encR c, .pointer (some ⟨BA, 0, none⟩), .pointer (some ⟨B, 0, none⟩)] W fun e W' => e = .returned (.bool (cutB apex r c)) ∧ Below W.heap.size W W' := by
 unfold encR
 have hu := Tryz.underlying72
 have hbel := implBelow_eq r.f0 c.f0 (by omega) (by omega)
 have key : cutB apex r c = ((c.f1 == 2 && (!(c.f0.toList == apex.toList) && belowL r.f0.data.toList c.f0.data.toList)) && (!(r.f1 == 1) && !(r.f1 == 2 && r.f0.toList == c.f0.toList))) := by
  have e : ∀ a b : Int, (a == b) = decide (a = b) := fun a b => by rw [Bool.eq_iff_iff, beq_iff_eq, decide_eq_true_eq]
  unfold cutB nmL
  rw [bytes_eq, bytes_eq, e, e, e]
  simp
 have HK := Aside0.mk key
 have HBel := Aside0.mk hbel
 clear key hbel
 obtain ⟨r0, r1, r2, r3⟩ := r
 obtain ⟨c0, c1, c2, c3⟩ := c
 simp only at HK HBel
 have l0 := fun o => (below_alloc (Below.refl W.heap.size W) o).cell (World.block_lt_of_cell? _ _ hc.1) |>.trans hc.1
 have l1 := fun o => (below_alloc (Below.refl W.heap.size W) o).cell (World.block_lt_of_cell? _ _ hc.2.1) |>.trans hc.2.1
 have la := fun o => (below_alloc (Below.refl W.heap.size W) o).cell (World.block_lt_of_cell? _ _ ha) |>.trans ha
 simp only at l0 l1
 have HB := Aside0.mk (below_alloc (Below.refl W.heap.size W))
 generalize hq : belowL r0.data.toList c0.data.toList = q at HK HBel
 by_cases d1 : c1 = 2
 · have b1 : (c1 == 2) = true := beq_iff_eq.mpr d1
   clear d1
   by_cases d2 : c0.toList = apex.toList
   · have b2 : (c0.toList == apex.toList) = true := beq_iff_eq.mpr d2
     have b2' : (c0.toList != apex.toList) = false := bne_eq_false_iff_eq.mpr d2
     go_enter Tryz.func92, Tryz.ntmps92
     go_wp2
     go_ret
     exact ⟨by rw [HK.out, b1, b2]; rfl, HB.out _⟩
   · have b2 : (c0.toList == apex.toList) = false := beq_eq_false_iff_ne.mpr d2
     have b2' : (c0.toList != apex.toList) = true := bne_iff_ne.mpr d2
     cases q with
     | false =>
      go_enter Tryz.func92, Tryz.ntmps92
      go_wp2_with (go_at_call 90; refine (impl_isBelow.calls _ _ _ _ HBel.out).mono ?_; rintro e w' ⟨rfl, ⟨nd, rfl⟩⟩)
      go_ret
      exact ⟨by rw [HK.out, b1, b2]; rfl, pw_below_drewN (HB.out _) _⟩
     | true =>
      by_cases d3 : r1 = 1
      · have b3 : (r1 == 1) = true := beq_iff_eq.mpr d3
        go_enter Tryz.func92, Tryz.ntmps92
        go_wp2_with (go_at_call 90; refine (impl_isBelow.calls _ _ _ _ HBel.out).mono ?_; rintro e w' ⟨rfl, ⟨nd, rfl⟩⟩)
        go_ret
        exact ⟨by rw [HK.out, b1, b2, b3]; rfl, pw_below_drewN (HB.out _) _⟩
      · have b3 : (r1 == 1) = false := beq_eq_false_iff_ne.mpr d3
        have b3' : (r1 != 1) = true := bne_iff_ne.mpr d3
        by_cases d4 : r1 = 2
        · have b4 : (r1 == 2) = true := beq_iff_eq.mpr d4
          by_cases d5 : r0.toList = c0.toList
          · have b5 : (r0.toList == c0.toList) = true := beq_iff_eq.mpr d5
            go_enter Tryz.func92, Tryz.ntmps92
            go_wp2_with (go_at_call 90; refine (impl_isBelow.calls _ _ _ _ HBel.out).mono ?_; rintro e w' ⟨rfl, ⟨nd, rfl⟩⟩)
            go_ret
            exact ⟨by rw [HK.out, b1, b2, b3, b4, b5]; rfl, pw_below_drewN (HB.out _) _⟩
          · have b5 : (r0.toList == c0.toList) = false := beq_eq_false_iff_ne.mpr d5
            go_enter Tryz.func92, Tryz.ntmps92
            go_wp2_with (go_at_call 90; refine (impl_isBelow.calls _ _ _ _ HBel.out).mono ?_; rintro e w' ⟨rfl, ⟨nd, rfl⟩⟩)
            go_ret
            exact ⟨by rw [HK.out, b1, b2, b3, b4, b5]; rfl, pw_below_drewN (HB.out _) _⟩
        · have b4 : (r1 == 2) = false := beq_eq_false_iff_ne.mpr d4
          go_enter Tryz.func92, Tryz.ntmps92
          go_wp2_with (go_at_call 90; refine (impl_isBelow.calls _ _ _ _ HBel.out).mono ?_; rintro e w' ⟨rfl, ⟨nd, rfl⟩⟩)
          go_ret
          exact ⟨by rw [HK.out, b1, b2, b3, b4]; rfl, pw_below_drewN (HB.out _) _⟩
 · have b1 : (c1 == 2) = false := beq_eq_false_iff_ne.mpr d1
   go_enter Tryz.func92, Tryz.ntmps92
   go_wp2
   go_ret
   exact ⟨by rw [HK.out, b1]; rfl, HB.out _⟩
end Go.Proofs.YtkpkfallgjdkmaaGreatDoor.P
