/- FnExactNameBytes: part 13 of 14 of my texts for this claim, joined; the theorem stands in the last. Conditions: none beyond the statement's. -/
import Derived.Test.YtafbacogfakdiaaDoorMFnExactNameBytesx9
import Derived.Test.YtafbacogfakdiaaDoorMFnExactNameBytesx10
import Derived.Test.YtafbacogfakdiaaDoorMFnExactNameBytesx11
import Derived.Test.YtafbacogfakdiaaDoorMFnExactNameBytesx2
import Derived.Test.YtafbacogfakdiaaDoorMFnExactNameBytesx8
-- PureBelow
/- One name below another, and the name behind the first label: the reference and the program return the same. Conditions: the texts' sizes. -/
namespace Go.Proofs.YtafbacogfakdiaaDoor.Pure
open Go.RowKit Go.Proofs.YtafbacogfakdiaaDoor.P Go.Proofs.YtafbacogfakdiaaDoorW.PrintWords Go.Proofs.YtafbacogfakdiaaDoorW.PrintLast
set_option linter.unusedVariables false
set_option linter.unusedSimpArgs false

theorem specGood_ev (s : ByteArray) (hs : s.size < 549755813888) : Ev (fun k => spec_GoodName.f k s) (goodL s.data.toList) := by
  obtain ⟨r, h1, h2⟩ := good_ev s hs
  refine Ev.congr (f := fun k => (spec_l1Labels.f k s).bind fun bt => some bt.2) (fun k => rfl) (Ev.bind h1 ?_)
  rw [h2]
  exact Ev.now _
theorem good_size {l : List UInt8} (h : goodL l = true) : l.length ≤ 60 := by
  unfold goodL at h
  simp at h
  exact h.1

/-- Is a text another one, or below it? -/
def belowL (a b : List UInt8) : Bool := b == [] || (a == b || (decide (b.length < a.length) && a.drop (a.length - b.length - 1) == 46 :: b))

theorem specBelow_eq (a b : ByteArray) (ha : a.size < 4611686018427387904) (hb : b.size < 4611686018427387904) : spec_l1Below.f a b = some (belowL a.data.toList b.data.toList) := by
  unfold spec_l1Below.f belowL
  rw [Lib.toList_data, Lib.toList_data]
  by_cases h1 : b.data.toList = []
  · rw [if_pos h1, h1]; rfl
  · rw [if_neg h1, show (b.data.toList == []) = false from beq_eq_false_iff_ne.mpr h1, Bool.false_or]
    by_cases h2 : a.data.toList = b.data.toList
    · rw [if_pos h2, h2]; simp
    · rw [if_neg h2, show (a.data.toList == b.data.toList) = false from beq_eq_false_iff_ne.mpr h2, Bool.false_or, ← size_len, ← size_len]
      have hw : wrap64 ((a.size : Int) - (b.size : Int)) = (a.size : Int) - (b.size : Int) := by unfold wrap64; omega
      rw [hw]
      by_cases h3 : (a.size : Int) - (b.size : Int) > 0
      · have h3' : b.size < a.size := by omega
        have hw2 : wrap64 ((a.size : Int) - (b.size : Int) - 1) = ((a.size - b.size - 1 : Nat) : Int) := by unfold wrap64; omega
        have hi : a.size - b.size - 1 < a.data.toList.length := by rw [← size_len]; omega
        rw [if_pos h3, if_pos (by omega), if_pos (by omega), hw2, decide_eq_true h3', Bool.true_and]
        rw [show ((a.size : Int) - (b.size : Int)).toNat = a.size - b.size by omega, Lib.toList_data, ext_end, mkB_data]
        rw [List.drop_eq_getElem_cons hi, show a.size - b.size - 1 + 1 = a.size - b.size by omega]
        by_cases h4 : List.drop (a.size - b.size) a.data.toList = b.data.toList
        · rw [if_pos h4, if_pos (by omega), if_pos (by omega), bt_list a _ hi, h4]
          generalize a.data.toList[a.size - b.size - 1] = x
          have hx : ((x.toNat : Int) == 46) = (x == 46) := by
            rw [Bool.eq_iff_iff, beq_iff_eq, beq_iff_eq, ← UInt8.toNat_inj]
            exact ⟨fun e => Int.ofNat.inj e, fun e => by rw [e]; rfl⟩
          rw [hx]
          simp
        · rw [if_neg h4, eq_comm]
          congr 1
          rw [beq_eq_false_iff_ne]
          intro e
          exact h4 (List.cons.inj e).2
      · rw [if_neg h3, decide_eq_false (by omega)]
        rfl

theorem implBelow_eq (a b : ByteArray) (ha : a.size < 4611686018427387904) (hb : b.size < 4611686018427387904) : impl_isBelow.f a b = some (belowL a.data.toList b.data.toList) := by
  unfold impl_isBelow.f belowL
  rw [Lib.toList_data, Lib.toList_data]
  by_cases h1 : b.data.toList = []
  · rw [h1]
    by_cases h2 : a.data.toList = []
    · rw [if_pos h2]; rfl
    · rw [if_neg h2, if_pos rfl]; rfl
  · rw [show (b.data.toList == []) = false from beq_eq_false_iff_ne.mpr h1, Bool.false_or]
    by_cases h2 : a.data.toList = b.data.toList
    · rw [if_pos h2, h2]; simp
    · rw [if_neg h2, if_neg h1, if_pos (by omega), show (a.data.toList == b.data.toList) = false from beq_eq_false_iff_ne.mpr h2, Bool.false_or, ← size_len, ← size_len]
      unfold strings_HasSuffix.f stringslite_HasSuffix.f
      have hsz : ((⟨#[46]⟩ : ByteArray) ++ b).size = b.size + 1 := by rw [ByteArray.size_append]; show 1 + b.size = _; omega
      have hdt : ((⟨#[46]⟩ : ByteArray) ++ b).data.toList = 46 :: b.data.toList := by rw [ByteArray.data_append, Array.toList_append]; rfl
      rw [hsz]
      by_cases h3 : b.size < a.size
      · have hw : wrap64 ((a.size : Int) - ((b.size + 1 : Nat) : Int)) = ((a.size - b.size - 1 : Nat) : Int) := by unfold wrap64; omega
        rw [if_pos (by omega), hw, if_pos (by omega), if_pos (by omega), decide_eq_true h3, Bool.true_and, Int.toNat_natCast, ext_end, Lib.toList_data, Lib.toList_data, mkB_data, hdt]
        rfl
      · rw [if_neg (by omega), decide_eq_false h3]
        rfl

/-- What is behind the first dot. -/
def parL : List UInt8 → List UInt8
  | [] => []
  | x :: xs => if x = 46 then xs else parL xs
theorem parL_len (l : List UInt8) : (parL l).length ≤ l.length - 1 := by
  induction l with
  | nil => simp [parL]
  | cons x xs ih =>
    unfold parL
    split
    · simp
    · simp at ih ⊢; omega
theorem parL_hit (p r : List UInt8) (h : ∀ x ∈ p, x ≠ 46) : parL (p ++ 46 :: r) = r := by
  induction p with
  | nil => simp [parL]
  | cons x xs ih => rw [List.cons_append, parL, if_neg (h x List.mem_cons_self), ih fun y hy => h y (List.mem_cons_of_mem _ hy)]
theorem parL_none (l : List UInt8) (h : ∀ x ∈ l, x ≠ 46) : parL l = [] := by
  induction l with
  | nil => rfl
  | cons x xs ih => rw [parL, if_neg (h x List.mem_cons_self), ih fun y hy => h y (List.mem_cons_of_mem _ hy)]

theorem parent_loop (s : ByteArray) (hs : s.size < 1099511627776) : ∀ (m i : Nat), i + m = s.size →
    spec_l1Parent.l0 (m + 1) s (i : Int) = some (mkB (parL (s.data.toList.drop i)))
  | 0, i, him => by
    unfold spec_l1Parent.l0
    rw [if_neg (by omega), List.drop_of_length_le (by rw [← size_len]; omega)]
    rfl
  | m + 1, i, him => by
    have hi : i < s.data.toList.length := by rw [← size_len]; omega
    unfold spec_l1Parent.l0
    rw [if_pos (by omega), if_pos (by omega), w64n (by omega), bt_list s i hi, List.drop_eq_getElem_cons hi]
    unfold parL
    by_cases h : s.data.toList[i] = 46
    · rw [if_pos (by rw [h]; rfl), if_pos h, if_pos (by omega), if_pos (by omega), Int.toNat_natCast, ext_end]
    · rw [if_neg (by intro e; apply h; apply UInt8.toNat_inj.1; simpa using Int.ofNat.inj e), if_neg h, parent_loop s hs m (i + 1) (by omega)]
theorem specParent_ev (s : ByteArray) (hs : s.size < 1099511627776) : Ev (fun k => spec_l1Parent.f k s) (mkB (parL s.data.toList)) := by
  refine Ev.of (fun k => spec_l1Parent.mono _ _) (k := s.size + 1) ?_
  unfold spec_l1Parent.f
  have := parent_loop s hs s.size 0 (by omega)
  simpa using this
theorem implParent_eq (s : ByteArray) (hs : s.size < 4611686018427387904) : impl_parentOf.f s = some (mkB (parL s.data.toList)) := by
  unfold impl_parentOf.f strings_Cut.f stringslite_Cut.f internal_stringslite_Index.f
  rw [if_pos (show (⟨#[46]⟩ : ByteArray).size = 1 from rfl)]
  simp only [Option.bind_some]
  rw [show List.headD (⟨#[46]⟩ : ByteArray).data.toList 0 = 46 from rfl, show (⟨#[46]⟩ : ByteArray).size = 1 from rfl]
  rcases place_or 46 s.data.toList with ⟨h1, h2⟩ | ⟨p, r, h1, h2, h3⟩
  · rw [h1, if_neg (by omega), parL_none _ h2]
    rfl
  · have hl : p.length + (r.length + 1) = s.size := by rw [size_len, h1]; simp
    rw [h3, show (((1 : Nat) : Int)) = 1 from rfl, w64n (by omega), if_pos (by omega), if_pos (by omega), if_pos (by omega), if_pos (by omega), if_pos (by omega), Int.toNat_natCast, Int.toNat_natCast, ext_end]
    simp only [Option.bind_some]
    have hd : s.data.toList.drop (p.length + 1) = r := by rw [h1, ← List.drop_drop, List.drop_left]; rfl
    rw [hd, h1, parL_hit p r h2]
end Go.Proofs.YtafbacogfakdiaaDoor.Pure

-- PureFnExactNameBytes
/- 'laws.FnExactNameBytes' returns true: the reference and the program return the same. Conditions: the text's size. -/
namespace Go.Proofs.YtafbacogfakdiaaDoor.Pure
open Go.RowKit Go.Proofs.YtafbacogfakdiaaDoor.P Go.Proofs.YtafbacogfakdiaaDoorW.PrintWords Go.Proofs.YtafbacogfakdiaaDoorW.PrintLast
set_option linter.unusedVariables false
set_option linter.unusedSimpArgs false
theorem bytes_rd (l : List ByteArray) (i : Nat) (h : i < l.length) : rdOf ByteArray.empty l (i : Int) = l[i] := by
  unfold rdOf
  rw [Int.toNat_natCast, List.getD_eq_getElem?_getD, List.getElem?_eq_getElem h]
  rfl
theorem bytes_loops (parts : List ByteArray) (hp : ∀ p ∈ parts, p.size ≤ 1000) (hl : parts.length ≤ 1000) : ∀ (m i : Nat) (acc : ByteArray), i + m = parts.length → acc.size + m * 1024 < 1099511627776 →
    ∃ r, Ev (fun k => impl_labelBytes.l0 k acc parts (parts.length : Int) (i : Int)) r ∧ Ev (fun k => spec_l2Bytes.l0 k acc parts (parts.length : Int) (i : Int)) (r ++ (⟨#[0]⟩ : ByteArray)) ∧ r.size < 1099511627776
  | 0, i, acc, him, ha => by
    refine ⟨acc, Ev.step (f := fun _ => some acc) (fun k => ?_) (Ev.now _), Ev.step (f := fun _ => some (acc ++ (⟨#[0]⟩ : ByteArray))) (fun k => ?_) (Ev.now _), by omega⟩
    · show impl_labelBytes.l0 (k + 1) acc parts (parts.length : Int) (i : Int) = _
      unfold impl_labelBytes.l0
      rw [if_neg (by omega)]
    · show spec_l2Bytes.l0 (k + 1) acc parts (parts.length : Int) (i : Int) = _
      unfold spec_l2Bytes.l0
      rw [if_neg (by omega), if_pos (by omega)]
  | m + 1, i, acc, him, ha => by
    have hi : i < parts.length := by omega
    have hs : ∀ v : Int, (strOfNums [v]).size = 1 := fun v => by rw [strOfNums_size]; rfl
    have hpi := hp _ (List.getElem_mem hi)
    obtain ⟨r, h1, h2, h3⟩ := bytes_loops parts hp hl m (i + 1) (acc ++ (strOfNums [((parts[i].size : Int)) % 256] ++ parts[i])) (by omega) (by
      rw [ByteArray.size_append, ByteArray.size_append, hs]; omega)
    refine ⟨r, Ev.step (fun k => ?_) h1, Ev.step (fun k => ?_) h2, h3⟩
    · show impl_labelBytes.l0 (k + 1) acc parts (parts.length : Int) (i : Int) = _
      conv => lhs; unfold impl_labelBytes.l0
      rw [if_pos (by omega), if_pos (by omega), if_pos (by omega), bytes_rd _ _ hi, Option.bind_some, if_pos (by rw [hs]; omega), if_pos (by rw [ByteArray.size_append, hs]; omega), w64n (by omega)]
    · show spec_l2Bytes.l0 (k + 1) acc parts (parts.length : Int) (i : Int) = _
      conv => lhs; unfold spec_l2Bytes.l0
      rw [if_pos (by omega), if_pos (by omega), if_pos (by omega), bytes_rd _ _ hi, Option.bind_some, if_pos (by rw [hs]; omega), if_pos (by rw [ByteArray.size_append, hs]; omega), w64n (by omega)]
theorem namebytes_both (s : ByteArray) (hs : s.size ≤ 1048576) : ∃ r, Ev (fun k => spec_NameBytes.f k s) r ∧ Ev (fun k => impl_NameBytes.f k s) r := by
  by_cases h : goodL s.data.toList = true
  · have hg := good_size h
    obtain ⟨q, e1, e2, e3⟩ := labels_ev s (by omega)
    have e3 := e3 (e2.trans h)
    have hlen : (labelsL s.data.toList).length ≤ 61 := by
      unfold labelsL
      split
      · simp
      · have := splitL_len 46 s.data.toList; omega
    obtain ⟨r, h1, h2, h3⟩ := bytes_loops ((labelsL s.data.toList).map mkB) (by
      intro p hp
      obtain ⟨x, hx, rfl⟩ := List.mem_map.1 hp
      rw [mkB_size]
      unfold labelsL at hx
      split at hx
      · cases hx
      · have := splitL_part 46 _ x hx; omega) (by rw [List.length_map]; omega) _ 0 (⟨#[]⟩ : ByteArray) (Nat.zero_add _) (by rw [List.length_map]; show 0 + _ < _; omega)
    refine ⟨(r ++ (⟨#[0]⟩ : ByteArray), true), ?_, ?_⟩
    · refine Ev.congr (fun k => rfl) (Ev.bind (specGood_ev s (by omega)) ?_)
      simp only [if_pos h]
      refine Ev.bind (f := fun _ t => some (t, true)) (Ev.congr (f := fun k => (spec_l1Labels.f k s).bind fun bt137 => (spec_l2Bytes.l0 k (⟨#[]⟩ : ByteArray) bt137.1 (bt137.1.length : Int) 0)) (fun k => rfl) (Ev.bind e1 ?_)) (Ev.now _)
      rw [e3]
      exact h2
    · refine Ev.congr (f := fun k => (impl_labelBytes.l0 k (⟨#[]⟩ : ByteArray) ((labelsL s.data.toList).map mkB) (((labelsL s.data.toList).map mkB).length : Int) 0).bind fun t155 => (if t155.size + 1 ≤ 9223372036854775807 then (some (t155 ++ (⟨#[0]⟩ : ByteArray), true)) else (none))) (fun k => ?_) (Ev.bind h1 ?_)
      · unfold impl_NameBytes.f impl_GoodName.f impl_labelBytes.f
        rw [labelsOf_eq s (by omega), h]
        rfl
      · exact Ev.congr (fun k => if_pos (by omega)) (Ev.now _)
  · refine ⟨((⟨#[]⟩ : ByteArray), false), ?_, ?_⟩
    · refine Ev.congr (fun k => rfl) (Ev.bind (specGood_ev s (by omega)) ?_)
      simp only [if_neg h]
      exact Ev.now _
    · refine Ev.congr (fun k => ?_) (Ev.now _)
      unfold impl_NameBytes.f impl_GoodName.f
      simp [h]
theorem FnExactNameBytes : laws_FnExactNameBytes.Pure := by
  intro a0 _
  suffices h : Ev (fun k => laws_FnExactNameBytes.f k a0) true from h.rounds
  by_cases h : (a0.size : Int) > 1048576
  · exact Ev.congr (fun k => by unfold laws_FnExactNameBytes.f; rw [if_pos h]) (Ev.now true)
  · have hs : a0.size ≤ 1048576 := by omega
    obtain ⟨r, h1, h2⟩ := namebytes_both a0 hs
    refine Ev.congr (fun k => by unfold laws_FnExactNameBytes.f; rw [if_neg h]) (Ev.bind h1 (Ev.bind h2 ?_))
    simp
    exact Ev.now _
end Go.Proofs.YtafbacogfakdiaaDoor.Pure
