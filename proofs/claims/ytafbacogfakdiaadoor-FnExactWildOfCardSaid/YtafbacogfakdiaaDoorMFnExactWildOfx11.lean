/- FnExactWildOf: part 12 of 13 of my texts for this claim, joined; the theorem stands in the last. Conditions: none beyond the statement's. -/
import Derived.Test.YtafbacogfakdiaaDoorMFnExactWildOfx9
import Derived.Test.YtafbacogfakdiaaDoorMFnExactWildOfx10
import Derived.Test.YtafbacogfakdiaaDoorMFnExactWildOfx3
import Derived.Test.YtafbacogfakdiaaDoorMFnExactWildOfx5
import Derived.Test.YtafbacogfakdiaaDoorMFnExactWildOfx2
import Derived.Test.YtafbacogfakdiaaDoorMFnExactWildOfx8
-- PureBelow
/- One name below another, and the name behind the first label: the reference and the program return the same. Conditions: the texts' sizes. -/
namespace Go.Proofs.YtafbacogfakdiaaDoor.Pure
open Go.RowKit Go.Proofs.YtafbacogfakdiaaDoor.P Go.Proofs.YtafbacogfakdiaaDoorW.PrintWords Go.Proofs.YtafbacogfakdiaaDoorW.PrintLast
set_option linter.unusedVariables false
set_option linter.unusedSimpArgs false

theorem specGood_ev (s : ByteArray) (hs : s.size < 549755813888) : Ev (fun k => spec_GoodName.f k s) (goodL s.data.toList) := by
  obtain ⟨r, h1, h2⟩ := good_ev s hs
  refine Ev.congr (f := fun k => (spec_l1Labels.f k s).bind fun bt => some bt.2) (fun k => rfl) (Ev.bind h1 ?_)
  rw [h2]
  exact Ev.now _
theorem good_size {l : List UInt8} (h : goodL l = true) : l.length ≤ 60 := by
  unfold goodL at h
  simp at h
  exact h.1

/-- Is a text another one, or below it? -/
def belowL (a b : List UInt8) : Bool := b == [] || (a == b || (decide (b.length < a.length) && a.drop (a.length - b.length - 1) == 46 :: b))

theorem specBelow_eq (a b : ByteArray) (ha : a.size < 4611686018427387904) (hb : b.size < 4611686018427387904) : spec_l1Below.f a b = some (belowL a.data.toList b.data.toList) := by
  unfold spec_l1Below.f belowL
  rw [Lib.toList_data, Lib.toList_data]
  by_cases h1 : b.data.toList = []
  · rw [if_pos h1, h1]; rfl
  · rw [if_neg h1, show (b.data.toList == []) = false from beq_eq_false_iff_ne.mpr h1, Bool.false_or]
    by_cases h2 : a.data.toList = b.data.toList
    · rw [if_pos h2, h2]; simp
    · rw [if_neg h2, show (a.data.toList == b.data.toList) = false from beq_eq_false_iff_ne.mpr h2, Bool.false_or, ← size_len, ← size_len]
      have hw : wrap64 ((a.size : Int) - (b.size : Int)) = (a.size : Int) - (b.size : Int) := by unfold wrap64; omega
      rw [hw]
      by_cases h3 : (a.size : Int) - (b.size : Int) > 0
      · have h3' : b.size < a.size := by omega
        have hw2 : wrap64 ((a.size : Int) - (b.size : Int) - 1) = ((a.size - b.size - 1 : Nat) : Int) := by unfold wrap64; omega
        have hi : a.size - b.size - 1 < a.data.toList.length := by rw [← size_len]; omega
        rw [if_pos h3, if_pos (by omega), if_pos (by omega), hw2, decide_eq_true h3', Bool.true_and]
        rw [show ((a.size : Int) - (b.size : Int)).toNat = a.size - b.size by omega, Lib.toList_data, ext_end, mkB_data]
        rw [List.drop_eq_getElem_cons hi, show a.size - b.size - 1 + 1 = a.size - b.size by omega]
        by_cases h4 : List.drop (a.size - b.size) a.data.toList = b.data.toList
        · rw [if_pos h4, if_pos (by omega), if_pos (by omega), bt_list a _ hi, h4]
          generalize a.data.toList[a.size - b.size - 1] = x
          have hx : ((x.toNat : Int) == 46) = (x == 46) := by
            rw [Bool.eq_iff_iff, beq_iff_eq, beq_iff_eq, ← UInt8.toNat_inj]
            exact ⟨fun e => Int.ofNat.inj e, fun e => by rw [e]; rfl⟩
          rw [hx]
          simp
        · rw [if_neg h4, eq_comm]
          congr 1
          rw [beq_eq_false_iff_ne]
          intro e
          exact h4 (List.cons.inj e).2
      · rw [if_neg h3, decide_eq_false (by omega)]
        rfl

theorem implBelow_eq (a b : ByteArray) (ha : a.size < 4611686018427387904) (hb : b.size < 4611686018427387904) : impl_isBelow.f a b = some (belowL a.data.toList b.data.toList) := by
  unfold impl_isBelow.f belowL
  rw [Lib.toList_data, Lib.toList_data]
  by_cases h1 : b.data.toList = []
  · rw [h1]
    by_cases h2 : a.data.toList = []
    · rw [if_pos h2]; rfl
    · rw [if_neg h2, if_pos rfl]; rfl
  · rw [show (b.data.toList == []) = false from beq_eq_false_iff_ne.mpr h1, Bool.false_or]
    by_cases h2 : a.data.toList = b.data.toList
    · rw [if_pos h2, h2]; simp
    · rw [if_neg h2, if_neg h1, if_pos (by omega), show (a.data.toList == b.data.toList) = false from beq_eq_false_iff_ne.mpr h2, Bool.false_or, ← size_len, ← size_len]
      unfold strings_HasSuffix.f stringslite_HasSuffix.f
      have hsz : ((⟨#[46]⟩ : ByteArray) ++ b).size = b.size + 1 := by rw [ByteArray.size_append]; show 1 + b.size = _; omega
      have hdt : ((⟨#[46]⟩ : ByteArray) ++ b).data.toList = 46 :: b.data.toList := by rw [ByteArray.data_append, Array.toList_append]; rfl
      rw [hsz]
      by_cases h3 : b.size < a.size
      · have hw : wrap64 ((a.size : Int) - ((b.size + 1 : Nat) : Int)) = ((a.size - b.size - 1 : Nat) : Int) := by unfold wrap64; omega
        rw [if_pos (by omega), hw, if_pos (by omega), if_pos (by omega), decide_eq_true h3, Bool.true_and, Int.toNat_natCast, ext_end, Lib.toList_data, Lib.toList_data, mkB_data, hdt]
        rfl
      · rw [if_neg (by omega), decide_eq_false h3]
        rfl

/-- What is behind the first dot. -/
def parL : List UInt8 → List UInt8
  | [] => []
  | x :: xs => if x = 46 then xs else parL xs
theorem parL_len (l : List UInt8) : (parL l).length ≤ l.length - 1 := by
  induction l with
  | nil => simp [parL]
  | cons x xs ih =>
    unfold parL
    split
    · simp
    · simp at ih ⊢; omega
theorem parL_hit (p r : List UInt8) (h : ∀ x ∈ p, x ≠ 46) : parL (p ++ 46 :: r) = r := by
  induction p with
  | nil => simp [parL]
  | cons x xs ih => rw [List.cons_append, parL, if_neg (h x List.mem_cons_self), ih fun y hy => h y (List.mem_cons_of_mem _ hy)]
theorem parL_none (l : List UInt8) (h : ∀ x ∈ l, x ≠ 46) : parL l = [] := by
  induction l with
  | nil => rfl
  | cons x xs ih => rw [parL, if_neg (h x List.mem_cons_self), ih fun y hy => h y (List.mem_cons_of_mem _ hy)]

theorem parent_loop (s : ByteArray) (hs : s.size < 1099511627776) : ∀ (m i : Nat), i + m = s.size →
    spec_l1Parent.l0 (m + 1) s (i : Int) = some (mkB (parL (s.data.toList.drop i)))
  | 0, i, him => by
    unfold spec_l1Parent.l0
    rw [if_neg (by omega), List.drop_of_length_le (by rw [← size_len]; omega)]
    rfl
  | m + 1, i, him => by
    have hi : i < s.data.toList.length := by rw [← size_len]; omega
    unfold spec_l1Parent.l0
    rw [if_pos (by omega), if_pos (by omega), w64n (by omega), bt_list s i hi, List.drop_eq_getElem_cons hi]
    unfold parL
    by_cases h : s.data.toList[i] = 46
    · rw [if_pos (by rw [h]; rfl), if_pos h, if_pos (by omega), if_pos (by omega), Int.toNat_natCast, ext_end]
    · rw [if_neg (by intro e; apply h; apply UInt8.toNat_inj.1; simpa using Int.ofNat.inj e), if_neg h, parent_loop s hs m (i + 1) (by omega)]
theorem specParent_ev (s : ByteArray) (hs : s.size < 1099511627776) : Ev (fun k => spec_l1Parent.f k s) (mkB (parL s.data.toList)) := by
  refine Ev.of (fun k => spec_l1Parent.mono _ _) (k := s.size + 1) ?_
  unfold spec_l1Parent.f
  have := parent_loop s hs s.size 0 (by omega)
  simpa using this
theorem implParent_eq (s : ByteArray) (hs : s.size < 4611686018427387904) : impl_parentOf.f s = some (mkB (parL s.data.toList)) := by
  unfold impl_parentOf.f strings_Cut.f stringslite_Cut.f internal_stringslite_Index.f
  rw [if_pos (show (⟨#[46]⟩ : ByteArray).size = 1 from rfl)]
  simp only [Option.bind_some]
  rw [show List.headD (⟨#[46]⟩ : ByteArray).data.toList 0 = 46 from rfl, show (⟨#[46]⟩ : ByteArray).size = 1 from rfl]
  rcases place_or 46 s.data.toList with ⟨h1, h2⟩ | ⟨p, r, h1, h2, h3⟩
  · rw [h1, if_neg (by omega), parL_none _ h2]
    rfl
  · have hl : p.length + (r.length + 1) = s.size := by rw [size_len, h1]; simp
    rw [h3, show (((1 : Nat) : Int)) = 1 from rfl, w64n (by omega), if_pos (by omega), if_pos (by omega), if_pos (by omega), if_pos (by omega), if_pos (by omega), Int.toNat_natCast, Int.toNat_natCast, ext_end]
    simp only [Option.bind_some]
    have hd : s.data.toList.drop (p.length + 1) = r := by rw [h1, ← List.drop_drop, List.drop_left]; rfl
    rw [hd, h1, parL_hit p r h2]
end Go.Proofs.YtafbacogfakdiaaDoor.Pure

-- PureFnExactWildOf
/- 'laws.FnExactWildOf' returns true: the reference and the program return the same. Conditions: the texts' sizes. -/
namespace Go.Proofs.YtafbacogfakdiaaDoor.Pure
open Go.RowKit Go.Proofs.YtafbacogfakdiaaDoor.P Go.Proofs.YtafbacogfakdiaaDoorW.PrintWords Go.Proofs.YtafbacogfakdiaaDoorW.PrintLast
set_option linter.unusedVariables false
set_option linter.unusedSimpArgs false
theorem wildof_both (s : ByteArray) (hs : s.size ≤ 1048576) : ∃ r, Ev (fun k => spec_WildOf.f k s) r ∧ Ev (fun k => impl_WildOf.f k s) r := by
  have hp : (mkB (parL s.data.toList)).size ≤ 1048576 := by rw [mkB_size]; have := parL_len s.data.toList; rw [← size_len] at this; omega
  obtain ⟨w, hw⟩ : ∃ w, impl_starOf.f (mkB (parL s.data.toList)) = some w := by
    unfold impl_starOf.f
    by_cases h : (mkB (parL s.data.toList)).toList = ([] : List UInt8)
    · exact ⟨_, if_pos h⟩
    · exact ⟨_, by rw [if_neg h, if_pos (by omega)]⟩
  have hsp : Ev (fun k => spec_l1Wild.f k s) w := by
    refine Ev.congr (fun k => rfl) (Ev.bind (specParent_ev s (by omega)) ?_)
    exact Ev.congr (fun k => hw) (Ev.now w)
  refine ⟨if goodL s.data.toList = true then (if s.toList = ([] : List UInt8) then ((⟨#[]⟩ : ByteArray), false) else (w, true)) else ((⟨#[]⟩ : ByteArray), false), ?_, ?_⟩
  · refine Ev.congr (fun k => rfl) (Ev.bind (specGood_ev s (by omega)) ?_)
    by_cases h : goodL s.data.toList = true
    · simp only [if_pos h]
      by_cases h' : s.toList = ([] : List UInt8)
      · simp only [if_pos h']; exact Ev.now _
      · simp only [if_neg h']; exact Ev.bind hsp (Ev.now _)
    · simp only [if_neg h]; exact Ev.now _
  · refine Ev.of (fun k => impl_WildOf.mono _ _) (k := 1) ?_
    have hj : ∀ b, impl_WildOf.j0 1 s b = if b = true then some ((⟨#[]⟩ : ByteArray), false) else some (w, true) := by
      intro b
      show (if b = true then some ((⟨#[]⟩ : ByteArray), false) else ((impl_parentOf.f s).bind fun t186 => ((impl_starOf.f t186).bind fun t187 => some (t187, true)))) = _
      rw [implParent_eq s (by omega), Option.bind_some, hw]
      rfl
    unfold impl_WildOf.f impl_GoodName.f
    simp only [hj]
    by_cases h : goodL s.data.toList = true <;> by_cases h' : s.toList = ([] : List UInt8) <;> simp [h, h', hw]
theorem FnExactWildOf : laws_FnExactWildOf.Pure := by
  intro a0 _
  suffices h : Ev (fun k => laws_FnExactWildOf.f k a0) true from h.rounds
  by_cases h : (a0.size : Int) > 1048576
  · exact Ev.congr (fun k => by unfold laws_FnExactWildOf.f; rw [if_pos h]) (Ev.now true)
  · have hs : a0.size ≤ 1048576 := by omega
    obtain ⟨r, h1, h2⟩ := wildof_both a0 hs
    refine Ev.congr (fun k => by unfold laws_FnExactWildOf.f; rw [if_neg h]) (Ev.bind h1 (Ev.bind h2 ?_))
    simp
    exact Ev.now _
end Go.Proofs.YtafbacogfakdiaaDoor.Pure
