/- FnExactCompareRecords: part 26 of 27 of my texts for this claim, joined; the theorem stands in the last. Conditions: none beyond the statement's. -/
import Derived.Test.YtecmicedacppbaaGreatDoorMFnExactCompareRecordsx24
import Derived.Test.YtecmicedacppbaaGreatDoorMFnExactCompareRecordsx23
import Derived.Test.YtecmicedacppbaaGreatDoorMFnExactCompareRecordsx8
import Derived.Test.YtecmicedacppbaaGreatDoorMFnExactCompareRecordsx16
import Derived.Test.YtecmicedacppbaaGreatDoorMFnExactCompareRecordsx3
import Derived.Test.YtecmicedacppbaaGreatDoorMFnExactCompareRecordsx9
import Derived.Test.YtecmicedacppbaaGreatDoorMFnExactCompareRecordsx18
import Derived.Test.YtecmicedacppbaaGreatDoorMFnExactCompareRecordsx10
import Derived.Test.YtecmicedacppbaaGreatDoorMFnExactCompareRecordsx20
import Derived.Test.YtecmicedacppbaaGreatDoorMFnExactCompareRecordsx22
-- PureRec
/- GoodRecord: the reference and the program return the same; good data is short. Conditions: the texts' sizes. -/
namespace Go.Proofs.YtecmicedacppbaaGreatDoor.Pure
open Go.RowKit Go.Proofs.YtecmicedacppbaaGreatDoor.P Go.Proofs.YtecmicedacppbaaGreatDoorW.PrintWords Go.Proofs.YtecmicedacppbaaGreatDoorW.PrintLast Go.Proofs.YtecmicedacppbaaGreatDoorW.PrintMore
set_option linter.unusedVariables false
set_option linter.unusedSimpArgs false
theorem a_small : ∀ (k i : Nat) (parts : List ByteArray) (out x : ByteArray), impl_DataBytes.l0 k parts out (i : Int) = some (x, true) → (∀ y ∈ parts, y.size ≤ 1048576) → parts.length < 1099511627776 → (i < parts.length → parts.length = 4) ∧ ∀ j (h : j < parts.length), i ≤ j → parts[j].size ≤ 10
  | 0, i, parts, out, x, h, hs, hl => by simp [impl_DataBytes.l0] at h
  | k + 1, i, parts, out, x, h, hs, hl => by
    unfold impl_DataBytes.l0 at h
    by_cases c1 : (i : Int) < (parts.length : Int)
    · have hi : i < parts.length := by omega
      have hsz := hs _ (List.getElem_mem hi)
      obtain ⟨v, hn1, hn2⟩ := number_eq parts[i] 255 (by omega) (by omega) (by omega)
      rw [if_pos c1, if_pos (by omega), td_rd parts i hi, hn1, Option.bind_some] at h
      by_cases hb : (canL parts[i].data.toList && decide ((valL parts[i].data.toList : Int) ≤ 255)) = true
      · rw [if_pos hb] at h
        by_cases h4 : (parts.length : Int) = 4
        · rw [if_pos h4] at h
          obtain ⟨t, ht, h⟩ := Option.bind_eq_some_iff.mp h
          by_cases ho : out.size + t.size ≤ 9223372036854775807
          · rw [if_pos ho, w64n (by omega)] at h
            have ih := a_small k (i + 1) parts _ x h hs hl
            refine ⟨fun _ => by omega, fun j hj hij => ?_⟩
            by_cases e : j = i
            · subst e
              rw [Bool.and_eq_true] at hb
              have hc := hb.1
              unfold canL at hc
              simp only [Bool.and_eq_true, decide_eq_true_eq] at hc
              rw [size_len]
              exact hc.1.1.2
            · exact ih.2 j hj (by omega)
          · rw [if_neg ho] at h; cases h
        · rw [if_neg h4] at h
          cases (Prod.mk.inj (Option.some.inj h)).2
      · rw [if_neg hb] at h
        cases (Prod.mk.inj (Option.some.inj h)).2
    · exact ⟨fun h2 => absurd h2 (by omega), fun j hj hij => absurd hj (by omega)⟩
theorem sum_le : ∀ l : List (List UInt8), (∀ p ∈ l, p.length ≤ 10) → (l.map fun p => 1 + p.length).sum ≤ 11 * l.length
  | [], _ => Nat.le_refl _
  | x :: r, h => by
    have ih := sum_le r fun p hp => h p (List.mem_cons_of_mem _ hp)
    have hx := h x List.mem_cons_self
    rw [List.map_cons, List.sum_cons, List.length_cons]
    omega
theorem can_len {l : List UInt8} {m : Int} (h : (canL l && decide ((valL l : Int) ≤ m)) = true) : l.length ≤ 10 := by
  rw [Bool.and_eq_true] at h
  have hc := h.1
  unfold canL at hc
  simp only [Bool.and_eq_true, decide_eq_true_eq] at hc
  exact hc.1.1.2
theorem cut_sizes {s q1 q2 : ByteArray} {q3 : Bool} (hs : s.size ≤ 1048576) (h : strings_Cut.f s (⟨#[32]⟩ : ByteArray) = some (q1, q2, q3)) : q1.size + q2.size ≤ s.size ∧ s.size ≤ q1.size + q2.size + 1 := by
  unfold strings_Cut.f stringslite_Cut.f internal_stringslite_Index.f at h
  rw [if_pos (show (⟨#[32]⟩ : ByteArray).size = 1 from rfl)] at h
  simp only [Option.bind_some] at h
  rw [show List.headD (⟨#[32]⟩ : ByteArray).data.toList 0 = 32 from rfl, show (⟨#[32]⟩ : ByteArray).size = 1 from rfl] at h
  rcases place_or 32 s.data.toList with ⟨h1, _⟩ | ⟨p, r, h1, _, h3⟩
  · rw [h1, if_neg (by omega)] at h
    simp only [Option.bind_some, Option.some.injEq, Prod.mk.injEq] at h
    obtain ⟨rfl, rfl, _⟩ := h
    exact ⟨Nat.le_refl _, by show s.size ≤ s.size + 0 + 1; omega⟩
  · have hl : p.length + (r.length + 1) = s.size := by rw [size_len, h1]; simp
    rw [h3, show (((1 : Nat) : Int)) = 1 from rfl, w64n (by omega), if_pos (by omega), if_pos (by omega), if_pos (by omega), if_pos (by omega), if_pos (by omega), Int.toNat_natCast, Int.toNat_natCast] at h
    simp only [Option.bind_some, Option.some.injEq, Prod.mk.injEq] at h
    obtain ⟨rfl, rfl, _⟩ := h
    rw [ByteArray.size_extract, ByteArray.size_extract]
    omega
theorem data_small {k : Nat} {kind : Int} {s x : ByteArray} (hs : s.size ≤ 1048576) (h : impl_DataBytes.f k kind s = some (x, true)) : s.size ≤ 100 := by
  unfold impl_DataBytes.f at h
  by_cases c1 : kind = 1
  · rw [if_pos c1] at h
    have hsp : strings_Split.f s (⟨#[46]⟩ : ByteArray) = some ((splitL 46 s.data.toList).map mkB) := by
      unfold strings_Split.f
      rw [if_pos (show (⟨#[46]⟩ : ByteArray).size = 1 from rfl), if_pos (by omega)]
      rfl
    rw [hsp, Option.bind_some] at h
    have hne := splitL_ne 46 s.data.toList
    have hpl : 0 < (splitL 46 s.data.toList).length := List.length_pos_iff.2 hne
    have hlen : (splitL 46 s.data.toList).length ≤ s.size + 1 := by rw [size_len]; exact splitL_len _ _
    have hg := a_small k 0 _ _ _ h (by
      intro y hy
      obtain ⟨q, hq, rfl⟩ := List.mem_map.1 hy
      have := splitL_part 46 _ q hq
      rw [← size_len] at this
      rw [mkB_size]
      omega) (by rw [List.length_map]; omega)
    have h4 := hg.1 (by rw [List.length_map]; exact hpl)
    rw [List.length_map] at h4
    have hsum := sum_le (splitL 46 s.data.toList) (by
      intro p hp
      obtain ⟨j, hj, rfl⟩ := List.mem_iff_getElem.1 hp
      have := hg.2 j (by rw [List.length_map]; exact hj) (Nat.zero_le _)
      rw [List.getElem_map, mkB_size] at this
      exact this)
    rw [split_sum, h4, ← size_len] at hsum
    omega
  · rw [if_neg c1] at h
    by_cases c2 : kind = 2 ∨ kind = 5
    · rw [if_pos c2] at h
      unfold dataNs at h
      rw [target_impl, Option.bind_some] at h
      by_cases ht : targL s.data.toList = true
      · have := good_size (targ_good ht)
        rw [← size_len] at this
        omega
      · rw [if_neg ht] at h
        cases (Prod.mk.inj (Option.some.inj h)).2
    · rw [if_neg c2] at h
      by_cases c6 : kind = 6
      · rw [if_pos c6] at h
        unfold dataSoa at h
        obtain ⟨v, hn1, _⟩ := number_eq s 4294967295 (by omega) (by omega) (by omega)
        rw [hn1, Option.bind_some] at h
        by_cases hb : (canL s.data.toList && decide ((valL s.data.toList : Int) ≤ 4294967295)) = true
        · have := can_len hb
          rw [← size_len] at this
          omega
        · rw [if_neg hb] at h
          cases (Prod.mk.inj (Option.some.inj h)).2
      · rw [if_neg c6] at h
        by_cases c15 : kind = 15
        · rw [if_pos c15] at h
          unfold dataMx at h
          obtain ⟨⟨q1, q2, q3⟩, hc, h⟩ := Option.bind_eq_some_iff.mp h
          have hcut : q1.size + q2.size ≤ s.size ∧ s.size ≤ q1.size + q2.size + 1 := cut_sizes hs hc
          obtain ⟨v, hn1, _⟩ := number_eq q1 65535 (by omega) (by omega) (by omega)
          rw [hn1, Option.bind_some] at h
          by_cases hb : (canL q1.data.toList && decide ((valL q1.data.toList : Int) ≤ 65535)) = true
          · rw [if_pos hb, target_impl, Option.bind_some] at h
            by_cases ht : targL q2.data.toList = true
            · have h1 := good_size (targ_good ht)
              have h2 := can_len hb
              rw [← size_len] at h1 h2
              omega
            · rw [if_neg ht] at h
              cases (Prod.mk.inj (Option.some.inj h)).2
          · rw [if_neg hb] at h
            cases (Prod.mk.inj (Option.some.inj h)).2
        · rw [if_neg c15] at h
          by_cases c16 : kind = 16
          · rw [if_pos c16] at h
            unfold dataTxt at h
            by_cases h30 : (s.size : Int) > 30
            · rw [if_pos h30] at h
              cases (Prod.mk.inj (Option.some.inj h)).2
            · omega
          · rw [if_neg c16] at h
            cases (Prod.mk.inj (Option.some.inj h)).2
/-- DataBytes, from its parts. -/
theorem data_full (kind : Int) (s : ByteArray) (hs : s.size ≤ 1048576) : ∃ q, Ev (fun k => spec_l3Bytes.f k kind s) q ∧ Ev (fun k => impl_DataBytes.f k kind s) (if q.2 = true then (q.1, true) else badD) ∧ (q.2 = true → s.size ≤ 100) := by
  obtain ⟨r, ⟨K, h1⟩, h2⟩ := data_both kind s hs
  have h1 : specData K kind s = some r := h1 K (Nat.le_refl _)
  unfold specData at h1
  obtain ⟨q, hq, h1⟩ := Option.bind_eq_some_iff.mp h1
  have hQ : Ev (fun k => spec_l3Bytes.f k kind s) q := Ev.of (fun k => spec_l3Bytes.mono _ _ _) (k := K) hq
  have er : (if q.2 = true then (q.1, true) else badD) = r := by
    by_cases hq2 : q.2 = true
    · rw [if_pos hq2] at h1 ⊢
      exact Option.some.inj h1
    · rw [if_neg hq2] at h1 ⊢
      exact Option.some.inj h1
  refine ⟨q, hQ, by rw [er]; exact h2, fun hq2 => ?_⟩
  rw [if_pos hq2] at er
  obtain ⟨K2, h2⟩ := h2
  have h3 : impl_DataBytes.f K2 kind s = some r := h2 K2 (Nat.le_refl _)
  rw [← er] at h3
  exact data_small hs h3
theorem goodrec_both (a : ByteArray) (b c : Int) (d : ByteArray) (ha : a.size ≤ 1048576) (hd : d.size ≤ 1048576) : ∃ r q, Ev (fun k => spec_GoodRecord.f k a b c d) r ∧ Ev (fun k => impl_GoodRecord.f k a b c d) r ∧ Ev (fun k => spec_l3Bytes.f k b d) q ∧ Ev (fun k => impl_DataBytes.f k b d) (if q.2 = true then (q.1, true) else badD) ∧ r = (q.2 && (goodL a.data.toList && decide (0 ≤ c ∧ c ≤ 100000))) ∧ (q.2 = true → d.size ≤ 100) := by
  obtain ⟨q, q1, q2, q3⟩ := data_full b d hd
  refine ⟨q.2 && (goodL a.data.toList && decide (0 ≤ c ∧ c ≤ 100000)), q, ?_, ?_, q1, q2, rfl, q3⟩
  · refine Ev.congr (fun k => rfl) (Ev.bind q1 ?_)
    cases hq : q.2 with
    | false => exact Ev.now _
    | true =>
      refine Ev.bind (specGood_ev a (by omega)) ?_
      cases hg : goodL a.data.toList with
      | false => exact Ev.now _
      | true =>
        simp only [if_true, within_spec, Option.bind_some, Bool.true_and]
        exact Ev.now _
  · cases hg : goodL a.data.toList with
    | false =>
      rw [Bool.false_and, Bool.and_false]
      refine Ev.congr (fun k => ?_) (Ev.now _)
      unfold impl_GoodRecord.f impl_GoodName.f
      rw [hg]
      rfl
    | true =>
      by_cases hc : 0 ≤ c ∧ c ≤ 100000
      · rw [decide_eq_true hc, Bool.true_and, Bool.and_true]
        by_cases h100 : (d.size : Int) > 100
        · have hf : q.2 = false := by
            rw [Bool.eq_false_iff]
            intro h
            have := q3 h
            omega
          rw [hf]
          refine Ev.congr (fun k => ?_) (Ev.now _)
          unfold impl_GoodRecord.f impl_GoodName.f
          rw [hg, Option.bind_some, if_pos rfl, within_eq, Option.bind_some, decide_eq_true hc, if_pos rfl, if_pos h100]
        · refine Ev.congr (f := fun k => (impl_DataBytes.f k b d).bind fun bt237 => (some bt237.2)) (fun k => ?_) (Ev.bind q2 ?_)
          · unfold impl_GoodRecord.f impl_GoodName.f
            rw [hg, Option.bind_some, if_pos rfl, within_eq, Option.bind_some, decide_eq_true hc, if_pos rfl, if_neg h100]
          · cases q.2 with
            | false => exact Ev.now _
            | true => exact Ev.now _
      · rw [decide_eq_false hc, Bool.and_false, Bool.and_false]
        refine Ev.congr (fun k => ?_) (Ev.now _)
        unfold impl_GoodRecord.f impl_GoodName.f
        rw [hg, Option.bind_some, if_pos rfl, within_eq, Option.bind_some, decide_eq_false hc, if_neg (by simp)]
theorem data_kind {k : Nat} {kind : Int} {s x : ByteArray} (h : impl_DataBytes.f k kind s = some (x, true)) : 1 ≤ kind ∧ kind ≤ 16 := by
  unfold impl_DataBytes.f at h
  by_cases c : 1 ≤ kind ∧ kind ≤ 16
  · exact c
  · rw [if_neg (by omega), if_neg (by omega), if_neg (by omega), if_neg (by omega), if_neg (by omega)] at h
    cases (Prod.mk.inj (Option.some.inj h)).2
/-- A good record: its parts. -/
theorem good_parts (a : ByteArray) (b c : Int) (d : ByteArray) (ha : a.size ≤ 1048576) (hd : d.size ≤ 1048576) (h : Ev (fun k => impl_GoodRecord.f k a b c d) true) : a.size ≤ 60 ∧ goodL a.data.toList = true ∧ (1 ≤ b ∧ b ≤ 16) ∧ (0 ≤ c ∧ c ≤ 100000) ∧ d.size ≤ 100 := by
  obtain ⟨r, q, r1, r2, q1, ⟨K, q2⟩, hr, hs⟩ := goodrec_both a b c d ha hd
  have e := Ev.unique h r2
  subst e
  have hr := hr.symm
  rw [Bool.and_eq_true, Bool.and_eq_true, decide_eq_true_eq] at hr
  have hK : impl_DataBytes.f K b d = some (if q.2 = true then (q.1, true) else badD) := q2 K (Nat.le_refl _)
  rw [if_pos hr.1] at hK
  have := good_size hr.2.1
  rw [← size_len] at this
  exact ⟨this, hr.2.1, data_kind hK, hr.2.2, hs hr.1⟩
/-- A record's size, out of what is left. -/
theorem szRecAt (left : Int) (h0 : 0 ≤ left) (h1 : left ≤ 1048576) (a : ByteArray) (b c : Int) (d : ByteArray) (ha : a.size ≤ maxLen) (hd : d.size ≤ maxLen) : ∃ t, laws_szRecord.f a b c d left = some t ∧ (0 ≤ t → t ≤ left ∧ a.size ≤ 1048576 ∧ d.size ≤ 1048576) := by
  simp only [maxLen] at ha hd
  have h2 : wrap64 (left - (a.size : Int)) = left - (a.size : Int) := by unfold wrap64; omega
  unfold laws_szRecord.f
  rw [h2]
  by_cases c1 : left - (a.size : Int) < 0
  · exact ⟨-1, by rw [if_pos c1], fun h => by omega⟩
  · have h3 : wrap64 (left - (a.size : Int) - (d.size : Int)) = left - (a.size : Int) - (d.size : Int) := by unfold wrap64; omega
    rw [h3]
    by_cases c2 : left - (a.size : Int) - (d.size : Int) < 0
    · exact ⟨-1, by rw [if_neg c1, if_pos c2], fun h => by omega⟩
    · exact ⟨_, by rw [if_neg c1, if_neg c2], fun h => by omega⟩
end Go.Proofs.YtecmicedacppbaaGreatDoor.Pure

-- PureComp
/- Comparing two names by their labels from the right: the reference and the program return the same number. Conditions: the texts' sizes. -/
namespace Go.Proofs.YtecmicedacppbaaGreatDoor.Pure
open Go.RowKit Go.Proofs.YtecmicedacppbaaGreatDoor.P Go.Proofs.YtecmicedacppbaaGreatDoorW.PrintWords Go.Proofs.YtecmicedacppbaaGreatDoorW.PrintLast
set_option linter.unusedVariables false
set_option linter.unusedSimpArgs false

theorem swap_ends (p m q : List ByteArray) (a b : ByteArray) : ((p ++ (a :: (m ++ [b])) ++ q).set p.length b).set (p.length + m.length + 1) a = (p ++ [b]) ++ m ++ (a :: q) := by
  have h1 : (p ++ (a :: (m ++ [b])) ++ q).set p.length b = p ++ b :: (m ++ b :: q) := by simp [List.set_append]
  have h2 : (p ++ b :: (m ++ b :: q)) = (p ++ b :: m) ++ b :: q := by simp
  have h3 : p.length + m.length + 1 = (p ++ b :: m).length := by simp; omega
  rw [h1, h2, h3, List.set_append_right _ _ (Nat.le_refl _), Nat.sub_self]
  simp
theorem get_first (p m q : List ByteArray) (a b : ByteArray) : rdOf ByteArray.empty (p ++ (a :: (m ++ [b])) ++ q) (p.length : Int) = a := by
  unfold rdOf
  simp [List.getD_eq_getElem?_getD]
theorem get_last (p m q : List ByteArray) (a b : ByteArray) : rdOf ByteArray.empty (p ++ (a :: (m ++ [b])) ++ q) ((p.length + m.length + 1 : Nat) : Int) = b := by
  have h2 : p ++ (a :: (m ++ [b])) ++ q = (p ++ a :: m) ++ b :: q := by simp
  have h3 : p.length + m.length + 1 = (p ++ a :: m).length := by simp; omega
  unfold rdOf
  rw [Int.toNat_natCast, h2, h3]
  simp [List.getD_eq_getElem?_getD]

theorem reverse_loop : ∀ (n : Nat) (p m q : List ByteArray), m.length ≤ n → p.length + m.length + q.length < 1099511627776 →
    Ev (fun k => slices_Reverse_string_string.l0 k (p ++ m ++ q) (p.length : Int) ((p.length : Int) + (m.length : Int) - 1)) (p ++ m.reverse ++ q)
  | n, p, [], q, hn, hb => by
    refine Ev.step (f := fun _ => some _) (fun k => ?_) (Ev.now _)
    show slices_Reverse_string_string.l0 (k + 1) (p ++ [] ++ q) (p.length : Int) ((p.length : Int) + (0 : Int) - 1) = _
    unfold slices_Reverse_string_string.l0
    rw [if_neg (by omega)]
    rfl
  | n, p, a :: t, q, hn, hb => by
    rcases List.eq_nil_or_concat t with rfl | ⟨m, b, rfl⟩
    · refine Ev.step (f := fun _ => some _) (fun k => ?_) (Ev.now _)
      show slices_Reverse_string_string.l0 (k + 1) (p ++ [a] ++ q) (p.length : Int) ((p.length : Int) + (1 : Int) - 1) = _
      unfold slices_Reverse_string_string.l0
      rw [if_neg (by omega)]
      rfl
    · rw [List.concat_eq_append] at hn hb ⊢
      have hl : (a :: (m ++ [b])).length = m.length + 2 := by simp
      rw [hl] at hn hb ⊢
      match n, hn with
      | n + 1, hn =>
        have ih := reverse_loop n (p ++ [b]) m (a :: q) (by omega) (by simp; omega)
        have e : p ++ (a :: (m ++ [b])).reverse ++ q = (p ++ [b]) ++ m.reverse ++ (a :: q) := by simp
        rw [e]
        refine Ev.step (fun k => ?_) ih
        show slices_Reverse_string_string.l0 (k + 1) (p ++ (a :: (m ++ [b])) ++ q) (p.length : Int) ((p.length : Int) + ((m.length + 2 : Nat) : Int) - 1) = _
        have hj : (p.length : Int) + ((m.length + 2 : Nat) : Int) - 1 = ((p.length + m.length + 1 : Nat) : Int) := by omega
        have hlen : (p ++ (a :: (m ++ [b])) ++ q).length = p.length + m.length + 2 + q.length := by simp; omega
        rw [hj]
        conv => lhs; unfold slices_Reverse_string_string.l0
        rw [hlen, if_pos (by omega), if_pos (by omega), if_pos (by omega), if_pos (by omega), if_pos (by omega), get_first, get_last, Int.toNat_natCast, Int.toNat_natCast, swap_ends]
        rw [w64n (by omega), show wrap64 (((p.length + m.length + 1 : Nat) : Int) - 1) = ((p.length + m.length : Nat) : Int) by unfold wrap64; omega]
        have e1 : (p ++ [b]).length = p.length + 1 := by simp
        rw [e1]
        congr 1
        omega
theorem reverse_ev (l : List ByteArray) (h : l.length < 1099511627776) : Ev (fun k => slices_Reverse_string_string.f k l) l.reverse := by
  have := reverse_loop l.length [] l [] (Nat.le_refl _) (by simpa using h)
  simp only [List.nil_append, List.append_nil, List.length_nil] at this
  refine Ev.congr (fun k => ?_) this
  unfold slices_Reverse_string_string.f
  congr 1
  unfold wrap64
  show _ = (0 : Int) + (l.length : Int) - 1
  omega

def cmpP (a b : ByteArray) : Int := if Op.bytesLess a.toList b.toList = true then -1 else (if Op.bytesLess b.toList a.toList = true then 1 else 0)
def cmpL : List ByteArray → List ByteArray → Int
  | [], [] => 0
  | [], _ :: _ => -1
  | _ :: _, [] => 1
  | a :: x, b :: y => if cmpP a b = 0 then cmpL x y else cmpP a b
theorem cmp_eq (a b : ByteArray) : cmp_Compare_string.f a b = some (cmpP a b) := by
  unfold cmp_Compare_string.f cmp_isNaN_string.f cmpP
  simp only [bne_self_eq_false, Option.bind_some]
  rw [if_neg (by simp), if_neg (by simp)]
  split
  · rfl
  · split <;> rfl
theorem rd_at (l : List ByteArray) (i : Nat) (h : i < l.length) : rdOf ByteArray.empty l (i : Int) = l[i] := by
  unfold rdOf
  rw [Int.toNat_natCast, List.getD_eq_getElem?_getD, List.getElem?_eq_getElem h]
  rfl
theorem compare_loop (x y : List ByteArray) (hx : x.length < 1099511627776) (hy : y.length < 1099511627776) : ∀ (m i : Nat), i + m = x.length → i ≤ y.length →
    Ev (fun k => slices_Compare_string_string.l0 k x y x (x.length : Int) (i : Int)) (cmpL (x.drop i) (y.drop i))
  | 0, i, h, hiy => by
    refine Ev.step (f := fun _ => some _) (fun k => ?_) (Ev.now _)
    show slices_Compare_string_string.l0 (k + 1) x y x (x.length : Int) (i : Int) = _
    unfold slices_Compare_string_string.l0
    rw [if_neg (by omega), List.drop_of_length_le (by omega)]
    by_cases hl : (x.length : Int) < (y.length : Int)
    · rw [if_pos hl, List.drop_eq_getElem_cons (show i < y.length by omega)]
      rfl
    · rw [if_neg hl, List.drop_of_length_le (by omega)]
      rfl
  | m + 1, i, h, hiy => by
    by_cases hl : (i : Int) ≥ (y.length : Int)
    · refine Ev.step (f := fun _ => some _) (fun k => ?_) (Ev.now _)
      show slices_Compare_string_string.l0 (k + 1) x y x (x.length : Int) (i : Int) = _
      unfold slices_Compare_string_string.l0
      rw [if_pos (by omega), if_pos (by omega), if_pos (by omega), if_pos hl, List.drop_of_length_le (show y.length ≤ i by omega), List.drop_eq_getElem_cons (show i < x.length by omega)]
      rfl
    · have ih := compare_loop x y hx hy m (i + 1) (by omega) (by omega)
      have hc : cmpL (x.drop i) (y.drop i) = if cmpP x[i] y[i] = 0 then cmpL (x.drop (i + 1)) (y.drop (i + 1)) else cmpP x[i] y[i] := by
        rw [List.drop_eq_getElem_cons (show i < x.length by omega), List.drop_eq_getElem_cons (show i < y.length by omega)]
        rfl
      refine Ev.step (f := fun k => if cmpP x[i] y[i] = 0 then slices_Compare_string_string.l0 k x y x (x.length : Int) ((i + 1 : Nat) : Int) else some (cmpP x[i] y[i])) (fun k => ?_) ?_
      · show slices_Compare_string_string.l0 (k + 1) x y x (x.length : Int) (i : Int) = _
        conv => lhs; unfold slices_Compare_string_string.l0
        rw [if_pos (by omega), if_pos (by omega), if_pos (by omega), if_neg hl, if_pos (by omega), rd_at x i (by omega), rd_at y i (by omega), cmp_eq, w64n (by omega)]
        rfl
      · rw [hc]
        by_cases h0 : cmpP x[i] y[i] = 0
        · simp only [if_pos h0]; exact ih
        · simp only [if_neg h0]; exact Ev.now _
theorem compare_ev (x y : List ByteArray) (hx : x.length < 1099511627776) (hy : y.length < 1099511627776) : Ev (fun k => slices_Compare_string_string.f k x y) (cmpL x y) := by
  have := compare_loop x y hx hy x.length 0 (by omega) (by omega)
  exact this

theorem speccomp_loop (x y : List ByteArray) (hx : x.length < 1099511627776) (hy : y.length < 1099511627776) : ∀ (m i : Nat), i + m = x.length → i ≤ y.length →
    Ev (fun k => spec_l1Compare.l0 k x y ((i + 1 : Nat) : Int)) (cmpL (x.reverse.drop i) (y.reverse.drop i))
  | m, i, h, hiy => by
    have hj : ∀ k, spec_l1Compare.l0 (k + 1) x y ((i + 1 : Nat) : Int) = spec_l1Compare.j1 k x y ((i + 1 : Nat) : Int) (decide (i + 1 ≤ x.length ∧ i + 1 ≤ y.length)) := by
      intro k
      conv => lhs; unfold spec_l1Compare.l0
      by_cases hl : ((i + 1 : Nat) : Int) ≤ (x.length : Int)
      · rw [if_pos hl]
        congr 1
        rw [decide_eq_decide]; omega
      · rw [if_neg hl]
        congr 1
        rw [eq_comm, decide_eq_false_iff_not]; omega
    refine Ev.step hj ?_
    by_cases hd : i + 1 ≤ x.length ∧ i + 1 ≤ y.length
    · obtain ⟨m, rfl⟩ : ∃ m', m = m' + 1 := ⟨m - 1, by omega⟩
      have hrx : i < x.reverse.length := by rw [List.length_reverse]; omega
      have hry : i < y.reverse.length := by rw [List.length_reverse]; omega
      have ih := speccomp_loop x y hx hy m (i + 1) (by omega) (by omega)
      have hwx : wrap64 ((x.length : Int) - ((i + 1 : Nat) : Int)) = ((x.length - 1 - i : Nat) : Int) := by unfold wrap64; omega
      have hwy : wrap64 ((y.length : Int) - ((i + 1 : Nat) : Int)) = ((y.length - 1 - i : Nat) : Int) := by unfold wrap64; omega
      have gx : rdOf ByteArray.empty x ((x.length - 1 - i : Nat) : Int) = x.reverse[i] := by rw [rd_at _ _ (by omega), List.getElem_reverse]
      have gy : rdOf ByteArray.empty y ((y.length - 1 - i : Nat) : Int) = y.reverse[i] := by rw [rd_at _ _ (by omega), List.getElem_reverse]
      have hc : cmpL (x.reverse.drop i) (y.reverse.drop i) = if cmpP x.reverse[i] y.reverse[i] = 0 then cmpL (x.reverse.drop (i + 1)) (y.reverse.drop (i + 1)) else cmpP x.reverse[i] y.reverse[i] := by
        rw [List.drop_eq_getElem_cons hrx, List.drop_eq_getElem_cons hry]
        rfl
      refine Ev.step (f := fun k => if cmpP x.reverse[i] y.reverse[i] = 0 then spec_l1Compare.l0 k x y ((i + 1 + 1 : Nat) : Int) else some (cmpP x.reverse[i] y.reverse[i])) (fun k => ?_) ?_
      · rw [decide_eq_true hd]
        conv => lhs; unfold spec_l1Compare.j1
        rw [if_pos rfl, hwx, hwy, if_pos (by omega), if_pos (by omega), if_pos (by omega), if_pos (by omega), gx, gy, w64n (by omega)]
        unfold cmpP
        by_cases h1 : Op.bytesLess x.reverse[i].toList y.reverse[i].toList = true
        · rw [if_pos h1, if_pos h1]; rfl
        · rw [if_neg h1, if_neg h1]
          by_cases h2 : Op.bytesLess y.reverse[i].toList x.reverse[i].toList = true
          · rw [if_pos h2, if_pos h2]; rfl
          · rw [if_neg h2, if_neg h2]; rfl
      · rw [hc]
        by_cases h0 : cmpP x.reverse[i] y.reverse[i] = 0
        · simp only [if_pos h0]; exact ih
        · simp only [if_neg h0]; exact Ev.now _
    · refine Ev.step (f := fun _ => some _) (fun k => ?_) (Ev.now _)
      rw [decide_eq_false hd]
      conv => lhs; unfold spec_l1Compare.j1
      rw [if_neg (by simp)]
      have hcase : ∀ (p q : List ByteArray), (p = [] ∨ q = []) → cmpL p q = if p.length < q.length then -1 else if p.length > q.length then 1 else 0 := by
        intro p q hpq
        cases p <;> cases q <;> first | rfl | (simp at hpq)| (simp [cmpL])
      rw [hcase _ _ (by
        by_cases h1 : i + 1 ≤ x.length
        · right; apply List.drop_of_length_le; rw [List.length_reverse]; omega
        · left; apply List.drop_of_length_le; rw [List.length_reverse]; omega)]
      simp only [List.length_drop, List.length_reverse]
      by_cases h1 : (x.length : Int) < (y.length : Int)
      · rw [if_pos h1, if_pos (by omega)]
      · by_cases h2 : (x.length : Int) > (y.length : Int)
        · rw [if_neg h1, if_pos h2, if_neg (by omega), if_pos (by omega)]
        · rw [if_neg h1, if_neg h2, if_neg (by omega), if_neg (by omega)]
  termination_by m => m

/-- The order of two names. -/
def ordL (a b : List UInt8) : Int := cmpL ((labelsL a).map mkB).reverse ((labelsL b).map mkB).reverse
theorem labs_len (s : ByteArray) (hs : s.size ≤ 1048576) : ((labelsL s.data.toList).map mkB).length ≤ 1048577 := by
  rw [List.length_map]
  unfold labelsL
  split
  · simp
  · have := splitL_len 46 s.data.toList; rw [← size_len] at this; omega
theorem implComp_ev (a b : ByteArray) (ha : a.size ≤ 1048576) (hb : b.size ≤ 1048576) : Ev (fun k => impl_compareNames.f k a b) (ordL a.data.toList b.data.toList) := by
  have h1 := labs_len a ha
  have h2 := labs_len b hb
  refine Ev.congr (f := fun k => (slices_Reverse_string_string.f k ((labelsL a.data.toList).map mkB)).bind fun t151 => (slices_Reverse_string_string.f k ((labelsL b.data.toList).map mkB)).bind fun t152 => (slices_Compare_string_string.f k t151 t152).bind fun t153 => some t153) (fun k => ?_) ?_
  · unfold impl_compareNames.f
    rw [labelsOf_eq a (by omega), labelsOf_eq b (by omega)]
    rfl
  · refine Ev.bind (reverse_ev _ (by omega)) (Ev.bind (reverse_ev _ (by omega)) (Ev.bind (compare_ev _ _ ?_ ?_) (Ev.now _)))
    · rw [List.length_reverse]; omega
    · rw [List.length_reverse]; omega
theorem specComp_ev (a b : ByteArray) (ha : a.size ≤ 1048576) (hb : b.size ≤ 1048576) (ga : goodL a.data.toList = true) (gb : goodL b.data.toList = true) : Ev (fun k => spec_l1Compare.f k a b) (ordL a.data.toList b.data.toList) := by
  obtain ⟨r1, e1, e2, e3⟩ := labels_ev a (by omega)
  obtain ⟨r2, f1, f2, f3⟩ := labels_ev b (by omega)
  have h1 := labs_len a ha
  have h2 := labs_len b hb
  refine Ev.congr (fun k => rfl) (Ev.bind e1 (Ev.bind f1 ?_))
  rw [e3 (e2.trans ga), f3 (f2.trans gb)]
  exact speccomp_loop _ _ (by omega) (by omega) _ 0 (Nat.zero_add _) (by omega)
end Go.Proofs.YtecmicedacppbaaGreatDoor.Pure

-- PureCmpR
/- The order of records: the reference and the program return the same of good records. Conditions: the texts' sizes. -/
namespace Go.Proofs.YtecmicedacppbaaGreatDoor.Pure
open Go.RowKit Go.Proofs.YtecmicedacppbaaGreatDoor.P Go.Proofs.YtecmicedacppbaaGreatDoorW.PrintWords Go.Proofs.YtecmicedacppbaaGreatDoorW.PrintLast Go.Proofs.YtecmicedacppbaaGreatDoorW.PrintMore
set_option linter.unusedVariables false
set_option linter.unusedSimpArgs false
def cmpI (a b : Int) : Int := if a < b then -1 else (if b < a then 1 else 0)
theorem cmpI_eq (a b : Int) : cmp_Compare_int.f a b = some (cmpI a b) := by
  unfold cmp_Compare_int.f cmp_isNaN_int.f cmpI
  simp only [bne_self_eq_false, Option.bind_some, Bool.false_eq_true, if_false]
  by_cases h : a < b
  · rw [if_pos h, if_pos h]
  · rw [if_neg h, if_neg h]
    by_cases h2 : b < a
    · rw [if_pos h2, if_pos h2]
    · rw [if_neg h2, if_neg h2]
def or2 (a b : Int) : Int := if a = 0 then b else a
theorem or_two (a b : Int) : Ev (fun k => cmp_Or_int.f k [a, b]) (or2 a b) := by
  refine Ev.of (fun k => cmp_Or_int.mono _ _) (k := 3) ?_
  show cmp_Or_int.f 3 [a, b] = _
  unfold or2
  by_cases h : a = 0
  · by_cases h2 : b = 0
    · simp [cmp_Or_int.f, cmp_Or_int.l0, rd, wrap64, h, h2]
    · simp [cmp_Or_int.f, cmp_Or_int.l0, rd, wrap64, h, h2]
  · simp [cmp_Or_int.f, cmp_Or_int.l0, rd, wrap64, h]
theorem or_three (a b c : Int) : Ev (fun k => cmp_Or_int.f k [a, b, c]) (or2 a (or2 b c)) := by
  refine Ev.of (fun k => cmp_Or_int.mono _ _) (k := 4) ?_
  show cmp_Or_int.f 4 [a, b, c] = _
  unfold or2
  by_cases h : a = 0
  · by_cases h2 : b = 0
    · by_cases h3 : c = 0
      · simp [cmp_Or_int.f, cmp_Or_int.l0, rd, wrap64, h, h2, h3]
      · simp [cmp_Or_int.f, cmp_Or_int.l0, rd, wrap64, h, h2, h3]
    · simp [cmp_Or_int.f, cmp_Or_int.l0, rd, wrap64, h, h2]
  · simp [cmp_Or_int.f, cmp_Or_int.l0, rd, wrap64, h]
theorem cmpB_eq : ∀ x y : List UInt8, Lib.compareBytes x y = if x = y then 0 else (if Op.bytesLess x y = true then -1 else 1)
  | [], [] => by simp [Lib.compareBytes]
  | [], _ :: _ => by simp [Lib.compareBytes, Op.bytesLess]
  | _ :: _, [] => by simp [Lib.compareBytes, Op.bytesLess]
  | a :: x, b :: y => by
    have ih := cmpB_eq x y
    unfold Lib.compareBytes Op.bytesLess
    by_cases h1 : a < b
    · have h3 : ¬ a = b := by rintro rfl; rw [UInt8.lt_iff_toNat_lt] at h1; omega
      simp [h1, h3]
    · by_cases h2 : b < a
      · have h3 : ¬ a = b := by rintro rfl; rw [UInt8.lt_iff_toNat_lt] at h2; omega
        simp [h1, h2, h3]
      · have h3 : a = b := by rw [UInt8.lt_iff_toNat_lt] at h1 h2; apply UInt8.toNat_inj.1; omega
        subst h3
        simp [h1, ih]
/-- The order of good records; x: the bytes of the data. -/
def ordR (a : List UInt8) (b c : Int) (x : List UInt8) (a' : List UInt8) (b' c' : Int) (x' : List UInt8) : Int := or2 (or2 (ordL a a') (cmpI b b')) (or2 (Lib.compareBytes x x') (cmpI c c'))
/-- The bytes of good data. -/
theorem good_bytes (b : Int) (d : ByteArray) (a : ByteArray) (c : Int) (ha : a.size ≤ 1048576) (hd : d.size ≤ 1048576) (h : Ev (fun k => impl_GoodRecord.f k a b c d) true) : ∃ x : ByteArray, Ev (fun k => spec_l3Bytes.f k b d) (x, true) ∧ Ev (fun k => impl_DataBytes.f k b d) (x, true) := by
  obtain ⟨r, q, r1, r2, q1, q2, hr, hs⟩ := goodrec_both a b c d ha hd
  have e := Ev.unique h r2
  subst e
  have hr := hr.symm
  rw [Bool.and_eq_true] at hr
  obtain ⟨x, y⟩ := q
  obtain rfl : y = true := hr.1
  exact ⟨x, q1, q2⟩
theorem implOrd_ev (a : ByteArray) (b c : Int) (d : ByteArray) (a' : ByteArray) (b' c' : Int) (d' x x' : ByteArray) (ha : a.size ≤ 1048576) (ha' : a'.size ≤ 1048576) (hx : Ev (fun k => impl_DataBytes.f k b d) (x, true)) (hx' : Ev (fun k => impl_DataBytes.f k b' d') (x', true)) :
    Ev (fun k => impl_compareRecords.f k a b c d a' b' c' d') (ordR a.data.toList b c x.data.toList a'.data.toList b' c' x'.data.toList) := by
  have hk : Ev (fun k => impl_compareKeys.f k a b c d a' b' c' d') (or2 (ordL a.data.toList a'.data.toList) (cmpI b b')) := by
    refine Ev.congr (fun k => rfl) (Ev.bind (implComp_ev a a' ha ha') ?_)
    simp only [cmpI_eq, Option.bind_some]
    exact Ev.bind (or_two _ _) (Ev.now _)
  have hd : ∀ {b : Int} {d x : ByteArray}, Ev (fun k => impl_DataBytes.f k b d) (x, true) → Ev (fun k => impl_dataBytes.f k b d) x := fun h => Ev.congr (fun k => rfl) (Ev.bind h (Ev.now _))
  refine Ev.congr (fun k => rfl) (Ev.bind hk (Ev.bind (hd hx) (Ev.bind (hd hx') ?_)))
  unfold strings_Compare.f
  simp only [cmpI_eq, Option.bind_some]
  exact Ev.bind (or_three _ _ _) (Ev.now _)
theorem less_eq (p : Bool) : spec_l3Less.f p = some (if p = true then -1 else 1) := by
  unfold spec_l3Less.f
  cases p <;> rfl
theorem cmpI_ne {a b : Int} (h : ¬ a = b) : cmpI a b = if decide (a < b) = true then -1 else 1 := by
  unfold cmpI
  by_cases h1 : a < b
  · rw [if_pos h1, if_pos (decide_eq_true h1)]
  · rw [if_neg h1, if_pos (by omega), if_neg (by simpa using h1)]
theorem cmpI_self (a : Int) : cmpI a a = 0 := by
  unfold cmpI
  rw [if_neg (by omega), if_neg (by omega)]
theorem specOrd_ev (a : ByteArray) (b c : Int) (d : ByteArray) (a' : ByteArray) (b' c' : Int) (d' x x' : ByteArray) (ha : a.size ≤ 1048576) (ha' : a'.size ≤ 1048576) (ga : goodL a.data.toList = true) (ga' : goodL a'.data.toList = true) (hx : Ev (fun k => spec_l3Bytes.f k b d) (x, true)) (hx' : Ev (fun k => spec_l3Bytes.f k b' d') (x', true)) :
    Ev (fun k => spec_l3Compare.f k a b c d a' b' c' d') (ordR a.data.toList b c x.data.toList a'.data.toList b' c' x'.data.toList) := by
  refine Ev.congr (fun k => rfl) (Ev.bind (specComp_ev a a' ha ha' ga ga') ?_)
  unfold ordR
  by_cases h0 : ordL a.data.toList a'.data.toList = 0
  · simp only [if_pos h0]
    refine Ev.bind hx (Ev.bind hx' ?_)
    simp only [less_eq, Option.bind_some]
    rw [h0]
    by_cases h1 : b = b'
    · subst h1
      simp only [if_true]
      rw [cmpI_self, cmpB_eq, Lib.toList_data, Lib.toList_data]
      by_cases h2 : x.data.toList = x'.data.toList
      · simp only [if_pos h2]
        by_cases h3 : c = c'
        · subst h3
          simp only [if_true]
          rw [cmpI_self]
          exact Ev.now _
        · simp only [if_neg h3]
          rw [cmpI_ne h3]
          exact Ev.now _
      · simp only [if_neg h2]
        by_cases h4 : Op.bytesLess x.data.toList x'.data.toList = true
        · simp only [if_pos h4]; exact Ev.now _
        · simp only [if_neg h4]; exact Ev.now _
    · simp only [if_neg h1]
      rw [cmpI_ne h1]
      by_cases h4 : decide (b < b') = true
      · simp only [if_pos h4]; exact Ev.now _
      · simp only [if_neg h4]; exact Ev.now _
  · simp only [if_neg h0]
    have e : ∀ y z : Int, or2 (or2 (ordL a.data.toList a'.data.toList) y) z = ordL a.data.toList a'.data.toList := fun y z => by
      unfold or2; rw [if_neg h0, if_neg h0]
    rw [e]
    exact Ev.now _
end Go.Proofs.YtecmicedacppbaaGreatDoor.Pure

-- PureFnExactCompareRecords
/- 'laws.FnExactCompareRecords' returns true: the reference and the program return the same. Conditions: the texts' sizes. -/
namespace Go.Proofs.YtecmicedacppbaaGreatDoor.Pure
open Go.RowKit Go.Proofs.YtecmicedacppbaaGreatDoor.P Go.Proofs.YtecmicedacppbaaGreatDoorW.PrintWords Go.Proofs.YtecmicedacppbaaGreatDoorW.PrintLast Go.Proofs.YtecmicedacppbaaGreatDoorW.PrintMore
set_option linter.unusedVariables false
set_option linter.unusedSimpArgs false
theorem comprec_both (a : ByteArray) (b c : Int) (d : ByteArray) (a' : ByteArray) (b' c' : Int) (d' : ByteArray) (ha : a.size ≤ 1048576) (hd : d.size ≤ 1048576) (ha' : a'.size ≤ 1048576) (hd' : d'.size ≤ 1048576) : ∃ r, Ev (fun k => spec_CompareRecords.f k a b c d a' b' c' d') r ∧ Ev (fun k => impl_CompareRecords.f k a b c d a' b' c' d') r := by
  obtain ⟨g, _, g1, g2, _⟩ := goodrec_both a b c d ha hd
  obtain ⟨g', _, g1', g2', _⟩ := goodrec_both a' b' c' d' ha' hd'
  cases g with
  | false => exact ⟨(0, false), Ev.congr (fun k => rfl) (Ev.bind g1 (Ev.now _)), Ev.congr (fun k => rfl) (Ev.bind g2 (Ev.now _))⟩
  | true =>
    cases g' with
    | false => exact ⟨(0, false), Ev.congr (fun k => rfl) (Ev.bind g1 (Ev.bind g1' (Ev.now _))), Ev.congr (fun k => rfl) (Ev.bind g2 (Ev.bind g2' (Ev.now _)))⟩
    | true =>
      obtain ⟨x, x1, x2⟩ := good_bytes b d a c ha hd g2
      obtain ⟨x', x1', x2'⟩ := good_bytes b' d' a' c' ha' hd' g2'
      obtain ⟨_, p, _⟩ := good_parts a b c d ha hd g2
      obtain ⟨_, p', _⟩ := good_parts a' b' c' d' ha' hd' g2'
      exact ⟨_, Ev.congr (fun k => rfl) (Ev.bind g1 (Ev.bind g1' (Ev.bind (specOrd_ev a b c d a' b' c' d' x x' ha ha' p p' x1 x1') (Ev.now _)))), Ev.congr (fun k => rfl) (Ev.bind g2 (Ev.bind g2' (Ev.bind (implOrd_ev a b c d a' b' c' d' x x' ha ha' x2 x2') (Ev.now _))))⟩
theorem FnExactCompareRecords : ∀ (a0 : ByteArray) (b0 c0 : Int) (d0 : ByteArray) (a1 : ByteArray) (b1 c1 : Int) (d1 : ByteArray), a0.size ≤ maxLen → d0.size ≤ maxLen → a1.size ≤ maxLen → d1.size ≤ maxLen → ∃ k, laws_FnExactCompareRecords.f k a0 b0 c0 d0 a1 b1 c1 d1 = some true := by
  intro a b c d a' b' c' d' ha hd ha' hd'
  suffices h : Ev (fun k => laws_FnExactCompareRecords.f k a b c d a' b' c' d') true from h.rounds
  obtain ⟨t, e0, h0⟩ := szRecAt 1048576 (by omega) (by omega) a b c d ha hd
  by_cases ht : t < 0
  · refine Ev.congr (f := fun _ => some true) (fun k => ?_) (Ev.now _)
    unfold laws_FnExactCompareRecords.f
    rw [e0, Option.bind_some, if_pos ht]
  · obtain ⟨h1, h2, h3⟩ := h0 (by omega)
    obtain ⟨t', e1, h0'⟩ := szRecAt t (by omega) h1 a' b' c' d' ha' hd'
    by_cases ht' : t' < 0
    · refine Ev.congr (f := fun _ => some true) (fun k => ?_) (Ev.now _)
      unfold laws_FnExactCompareRecords.f
      rw [e0, Option.bind_some, if_neg ht, e1, Option.bind_some, if_pos ht']
    · obtain ⟨h4, h5, h6⟩ := h0' (by omega)
      obtain ⟨r, r1, r2⟩ := comprec_both a b c d a' b' c' d' h2 h3 h5 h6
      refine Ev.congr (f := fun k => ((spec_CompareRecords.f k a b c d a' b' c' d').bind fun w => ((impl_CompareRecords.f k a b c d a' b' c' d').bind fun g => (if g.1 = w.1 then (if (g.2 != w.2) = true then (some false) else (some true)) else (some false))))) (fun k => ?_) ?_
      · unfold laws_FnExactCompareRecords.f laws_toRecord.f
        rw [e0, Option.bind_some, if_neg ht, e1, Option.bind_some, if_neg ht']
        rfl
      · refine Ev.bind r1 (Ev.bind r2 ?_)
        simp
        exact Ev.now _
end Go.Proofs.YtecmicedacppbaaGreatDoor.Pure
