/- FnExactTargetOf: part 27 of 28 of my texts for this claim, joined; the theorem stands in the last. Conditions: none beyond the statement's. -/
import Derived.Test.YtecmicedacppbaaDoorMFnExactTargetOfx25
import Derived.Test.YtecmicedacppbaaDoorMFnExactTargetOfx23
import Derived.Test.YtecmicedacppbaaDoorMFnExactTargetOfx11
import Derived.Test.YtecmicedacppbaaDoorMFnExactTargetOfx20
import Derived.Test.YtecmicedacppbaaDoorMFnExactTargetOfx4
import Derived.Test.YtecmicedacppbaaDoorMFnExactTargetOfx13
import Derived.Test.YtecmicedacppbaaDoorMFnExactTargetOfx21
import Derived.Test.YtecmicedacppbaaDoorMFnExactTargetOfx22
-- PureRec
/- GoodRecord: the reference and the program return the same; good data is short. Conditions: the texts' sizes. -/
namespace Go.Proofs.YtecmicedacppbaaDoor.Pure
open Go.RowKit Go.Proofs.YtecmicedacppbaaDoor.P Go.Proofs.YtecmicedacppbaaDoorW.PrintWords Go.Proofs.YtecmicedacppbaaDoorW.PrintLast Go.Proofs.YtecmicedacppbaaDoorW.PrintMore
set_option linter.unusedVariables false
set_option linter.unusedSimpArgs false
theorem szRec (a : ByteArray) (b c : Int) (d : ByteArray) (ha : a.size ≤ maxLen) (hd : d.size ≤ maxLen) : ∃ t, laws_szRecord.f a b c d 1048576 = some t ∧ (0 ≤ t → a.size ≤ 1048576 ∧ d.size ≤ 1048576) := by
  simp only [maxLen] at ha hd
  have h1 : wrap64 (1048576 - (a.size : Int)) = 1048576 - (a.size : Int) := by unfold wrap64; omega
  unfold laws_szRecord.f
  rw [h1]
  by_cases c1 : 1048576 - (a.size : Int) < 0
  · exact ⟨-1, by rw [if_pos c1], fun h => by omega⟩
  · have h2 : wrap64 (1048576 - (a.size : Int) - (d.size : Int)) = 1048576 - (a.size : Int) - (d.size : Int) := by unfold wrap64; omega
    rw [h2]
    by_cases c2 : 1048576 - (a.size : Int) - (d.size : Int) < 0
    · exact ⟨-1, by rw [if_neg c1, if_pos c2], fun h => by omega⟩
    · exact ⟨_, by rw [if_neg c1, if_neg c2], fun h => by omega⟩
theorem a_small : ∀ (k i : Nat) (parts : List ByteArray) (out x : ByteArray), impl_DataBytes.l0 k parts out (i : Int) = some (x, true) → (∀ y ∈ parts, y.size ≤ 1048576) → parts.length < 1099511627776 → (i < parts.length → parts.length = 4) ∧ ∀ j (h : j < parts.length), i ≤ j → parts[j].size ≤ 10
  | 0, i, parts, out, x, h, hs, hl => by simp [impl_DataBytes.l0] at h
  | k + 1, i, parts, out, x, h, hs, hl => by
    unfold impl_DataBytes.l0 at h
    by_cases c1 : (i : Int) < (parts.length : Int)
    · have hi : i < parts.length := by omega
      have hsz := hs _ (List.getElem_mem hi)
      obtain ⟨v, hn1, hn2⟩ := number_eq parts[i] 255 (by omega) (by omega) (by omega)
      rw [if_pos c1, if_pos (by omega), td_rd parts i hi, hn1, Option.bind_some] at h
      by_cases hb : (canL parts[i].data.toList && decide ((valL parts[i].data.toList : Int) ≤ 255)) = true
      · rw [if_pos hb] at h
        by_cases h4 : (parts.length : Int) = 4
        · rw [if_pos h4] at h
          obtain ⟨t, ht, h⟩ := Option.bind_eq_some_iff.mp h
          by_cases ho : out.size + t.size ≤ 9223372036854775807
          · rw [if_pos ho, w64n (by omega)] at h
            have ih := a_small k (i + 1) parts _ x h hs hl
            refine ⟨fun _ => by omega, fun j hj hij => ?_⟩
            by_cases e : j = i
            · subst e
              rw [Bool.and_eq_true] at hb
              have hc := hb.1
              unfold canL at hc
              simp only [Bool.and_eq_true, decide_eq_true_eq] at hc
              rw [size_len]
              exact hc.1.1.2
            · exact ih.2 j hj (by omega)
          · rw [if_neg ho] at h; cases h
        · rw [if_neg h4] at h
          cases (Prod.mk.inj (Option.some.inj h)).2
      · rw [if_neg hb] at h
        cases (Prod.mk.inj (Option.some.inj h)).2
    · exact ⟨fun h2 => absurd h2 (by omega), fun j hj hij => absurd hj (by omega)⟩
theorem sum_le : ∀ l : List (List UInt8), (∀ p ∈ l, p.length ≤ 10) → (l.map fun p => 1 + p.length).sum ≤ 11 * l.length
  | [], _ => Nat.le_refl _
  | x :: r, h => by
    have ih := sum_le r fun p hp => h p (List.mem_cons_of_mem _ hp)
    have hx := h x List.mem_cons_self
    rw [List.map_cons, List.sum_cons, List.length_cons]
    omega
theorem can_len {l : List UInt8} {m : Int} (h : (canL l && decide ((valL l : Int) ≤ m)) = true) : l.length ≤ 10 := by
  rw [Bool.and_eq_true] at h
  have hc := h.1
  unfold canL at hc
  simp only [Bool.and_eq_true, decide_eq_true_eq] at hc
  exact hc.1.1.2
theorem cut_sizes {s q1 q2 : ByteArray} {q3 : Bool} (hs : s.size ≤ 1048576) (h : strings_Cut.f s (⟨#[32]⟩ : ByteArray) = some (q1, q2, q3)) : q1.size + q2.size ≤ s.size ∧ s.size ≤ q1.size + q2.size + 1 := by
  unfold strings_Cut.f stringslite_Cut.f internal_stringslite_Index.f at h
  rw [if_pos (show (⟨#[32]⟩ : ByteArray).size = 1 from rfl)] at h
  simp only [Option.bind_some] at h
  rw [show List.headD (⟨#[32]⟩ : ByteArray).data.toList 0 = 32 from rfl, show (⟨#[32]⟩ : ByteArray).size = 1 from rfl] at h
  rcases place_or 32 s.data.toList with ⟨h1, _⟩ | ⟨p, r, h1, _, h3⟩
  · rw [h1, if_neg (by omega)] at h
    simp only [Option.bind_some, Option.some.injEq, Prod.mk.injEq] at h
    obtain ⟨rfl, rfl, _⟩ := h
    exact ⟨Nat.le_refl _, by show s.size ≤ s.size + 0 + 1; omega⟩
  · have hl : p.length + (r.length + 1) = s.size := by rw [size_len, h1]; simp
    rw [h3, show (((1 : Nat) : Int)) = 1 from rfl, w64n (by omega), if_pos (by omega), if_pos (by omega), if_pos (by omega), if_pos (by omega), if_pos (by omega), Int.toNat_natCast, Int.toNat_natCast] at h
    simp only [Option.bind_some, Option.some.injEq, Prod.mk.injEq] at h
    obtain ⟨rfl, rfl, _⟩ := h
    rw [ByteArray.size_extract, ByteArray.size_extract]
    omega
theorem data_small {k : Nat} {kind : Int} {s x : ByteArray} (hs : s.size ≤ 1048576) (h : impl_DataBytes.f k kind s = some (x, true)) : s.size ≤ 100 := by
  unfold impl_DataBytes.f at h
  by_cases c1 : kind = 1
  · rw [if_pos c1] at h
    have hsp : strings_Split.f s (⟨#[46]⟩ : ByteArray) = some ((splitL 46 s.data.toList).map mkB) := by
      unfold strings_Split.f
      rw [if_pos (show (⟨#[46]⟩ : ByteArray).size = 1 from rfl), if_pos (by omega)]
      rfl
    rw [hsp, Option.bind_some] at h
    have hne := splitL_ne 46 s.data.toList
    have hpl : 0 < (splitL 46 s.data.toList).length := List.length_pos_iff.2 hne
    have hlen : (splitL 46 s.data.toList).length ≤ s.size + 1 := by rw [size_len]; exact splitL_len _ _
    have hg := a_small k 0 _ _ _ h (by
      intro y hy
      obtain ⟨q, hq, rfl⟩ := List.mem_map.1 hy
      have := splitL_part 46 _ q hq
      rw [← size_len] at this
      rw [mkB_size]
      omega) (by rw [List.length_map]; omega)
    have h4 := hg.1 (by rw [List.length_map]; exact hpl)
    rw [List.length_map] at h4
    have hsum := sum_le (splitL 46 s.data.toList) (by
      intro p hp
      obtain ⟨j, hj, rfl⟩ := List.mem_iff_getElem.1 hp
      have := hg.2 j (by rw [List.length_map]; exact hj) (Nat.zero_le _)
      rw [List.getElem_map, mkB_size] at this
      exact this)
    rw [split_sum, h4, ← size_len] at hsum
    omega
  · rw [if_neg c1] at h
    by_cases c2 : kind = 2 ∨ kind = 5
    · rw [if_pos c2] at h
      unfold dataNs at h
      rw [target_impl, Option.bind_some] at h
      by_cases ht : targL s.data.toList = true
      · have := good_size (targ_good ht)
        rw [← size_len] at this
        omega
      · rw [if_neg ht] at h
        cases (Prod.mk.inj (Option.some.inj h)).2
    · rw [if_neg c2] at h
      by_cases c6 : kind = 6
      · rw [if_pos c6] at h
        unfold dataSoa at h
        obtain ⟨v, hn1, _⟩ := number_eq s 4294967295 (by omega) (by omega) (by omega)
        rw [hn1, Option.bind_some] at h
        by_cases hb : (canL s.data.toList && decide ((valL s.data.toList : Int) ≤ 4294967295)) = true
        · have := can_len hb
          rw [← size_len] at this
          omega
        · rw [if_neg hb] at h
          cases (Prod.mk.inj (Option.some.inj h)).2
      · rw [if_neg c6] at h
        by_cases c15 : kind = 15
        · rw [if_pos c15] at h
          unfold dataMx at h
          obtain ⟨⟨q1, q2, q3⟩, hc, h⟩ := Option.bind_eq_some_iff.mp h
          have hcut : q1.size + q2.size ≤ s.size ∧ s.size ≤ q1.size + q2.size + 1 := cut_sizes hs hc
          obtain ⟨v, hn1, _⟩ := number_eq q1 65535 (by omega) (by omega) (by omega)
          rw [hn1, Option.bind_some] at h
          by_cases hb : (canL q1.data.toList && decide ((valL q1.data.toList : Int) ≤ 65535)) = true
          · rw [if_pos hb, target_impl, Option.bind_some] at h
            by_cases ht : targL q2.data.toList = true
            · have h1 := good_size (targ_good ht)
              have h2 := can_len hb
              rw [← size_len] at h1 h2
              omega
            · rw [if_neg ht] at h
              cases (Prod.mk.inj (Option.some.inj h)).2
          · rw [if_neg hb] at h
            cases (Prod.mk.inj (Option.some.inj h)).2
        · rw [if_neg c15] at h
          by_cases c16 : kind = 16
          · rw [if_pos c16] at h
            unfold dataTxt at h
            by_cases h30 : (s.size : Int) > 30
            · rw [if_pos h30] at h
              cases (Prod.mk.inj (Option.some.inj h)).2
            · omega
          · rw [if_neg c16] at h
            cases (Prod.mk.inj (Option.some.inj h)).2
/-- DataBytes, from its parts. -/
theorem data_full (kind : Int) (s : ByteArray) (hs : s.size ≤ 1048576) : ∃ q, Ev (fun k => spec_l3Bytes.f k kind s) q ∧ Ev (fun k => impl_DataBytes.f k kind s) (if q.2 = true then (q.1, true) else badD) ∧ (q.2 = true → s.size ≤ 100) := by
  obtain ⟨r, ⟨K, h1⟩, h2⟩ := data_both kind s hs
  have h1 : spec_DataBytes.f K kind s = some r := h1 K (Nat.le_refl _)
  unfold spec_DataBytes.f at h1
  obtain ⟨q, hq, h1⟩ := Option.bind_eq_some_iff.mp h1
  have hQ : Ev (fun k => spec_l3Bytes.f k kind s) q := Ev.of (fun k => spec_l3Bytes.mono _ _ _) (k := K) hq
  have er : (if q.2 = true then (q.1, true) else badD) = r := by
    by_cases hq2 : q.2 = true
    · rw [if_pos hq2] at h1 ⊢
      exact Option.some.inj h1
    · rw [if_neg hq2] at h1 ⊢
      exact Option.some.inj h1
  refine ⟨q, hQ, by rw [er]; exact h2, fun hq2 => ?_⟩
  rw [if_pos hq2] at er
  obtain ⟨K2, h2⟩ := h2
  have h3 : impl_DataBytes.f K2 kind s = some r := h2 K2 (Nat.le_refl _)
  rw [← er] at h3
  exact data_small hs h3
theorem goodrec_both (a : ByteArray) (b c : Int) (d : ByteArray) (ha : a.size ≤ 1048576) (hd : d.size ≤ 1048576) : ∃ r q, Ev (fun k => spec_GoodRecord.f k a b c d) r ∧ Ev (fun k => impl_GoodRecord.f k a b c d) r ∧ Ev (fun k => spec_l3Bytes.f k b d) q ∧ Ev (fun k => impl_DataBytes.f k b d) (if q.2 = true then (q.1, true) else badD) ∧ r = (q.2 && (goodL a.data.toList && decide (0 ≤ c ∧ c ≤ 100000))) ∧ (q.2 = true → d.size ≤ 100) := by
  obtain ⟨q, q1, q2, q3⟩ := data_full b d hd
  refine ⟨q.2 && (goodL a.data.toList && decide (0 ≤ c ∧ c ≤ 100000)), q, ?_, ?_, q1, q2, rfl, q3⟩
  · refine Ev.congr (fun k => rfl) (Ev.bind q1 ?_)
    cases hq : q.2 with
    | false => exact Ev.now _
    | true =>
      refine Ev.bind (specGood_ev a (by omega)) ?_
      cases hg : goodL a.data.toList with
      | false => exact Ev.now _
      | true =>
        simp only [if_true, within_spec, Option.bind_some, Bool.true_and]
        exact Ev.now _
  · cases hg : goodL a.data.toList with
    | false =>
      rw [Bool.false_and, Bool.and_false]
      refine Ev.congr (fun k => ?_) (Ev.now _)
      unfold impl_GoodRecord.f impl_GoodName.f
      rw [hg]
      rfl
    | true =>
      by_cases hc : 0 ≤ c ∧ c ≤ 100000
      · rw [decide_eq_true hc, Bool.true_and, Bool.and_true]
        by_cases h100 : (d.size : Int) > 100
        · have hf : q.2 = false := by
            rw [Bool.eq_false_iff]
            intro h
            have := q3 h
            omega
          rw [hf]
          refine Ev.congr (fun k => ?_) (Ev.now _)
          unfold impl_GoodRecord.f impl_GoodName.f
          rw [hg, Option.bind_some, if_pos rfl, within_eq, Option.bind_some, decide_eq_true hc, if_pos rfl, if_pos h100]
        · refine Ev.congr (f := fun k => (impl_DataBytes.f k b d).bind fun bt237 => (some bt237.2)) (fun k => ?_) (Ev.bind q2 ?_)
          · unfold impl_GoodRecord.f impl_GoodName.f
            rw [hg, Option.bind_some, if_pos rfl, within_eq, Option.bind_some, decide_eq_true hc, if_pos rfl, if_neg h100]
          · cases q.2 with
            | false => exact Ev.now _
            | true => exact Ev.now _
      · rw [decide_eq_false hc, Bool.and_false, Bool.and_false]
        refine Ev.congr (fun k => ?_) (Ev.now _)
        unfold impl_GoodRecord.f impl_GoodName.f
        rw [hg, Option.bind_some, if_pos rfl, within_eq, Option.bind_some, decide_eq_false hc, if_neg (by simp)]
end Go.Proofs.YtecmicedacppbaaDoor.Pure

-- PureTo
/- TargetOf: the reference and the program return the same. Conditions: the texts' sizes. -/
namespace Go.Proofs.YtecmicedacppbaaDoor.Pure
open Go.RowKit Go.Proofs.YtecmicedacppbaaDoor.P Go.Proofs.YtecmicedacppbaaDoorW.PrintWords Go.Proofs.YtecmicedacppbaaDoorW.PrintLast Go.Proofs.YtecmicedacppbaaDoorW.PrintMore
set_option linter.unusedVariables false
set_option linter.unusedSimpArgs false
theorem cut_hit (s : ByteArray) (p r : List UInt8) (hs : s.size ≤ 1048576) (h1 : s.data.toList = p ++ 32 :: r) (h2 : ∀ x ∈ p, x ≠ 32) : strings_Cut.f s (⟨#[32]⟩ : ByteArray) = some (mkB p, mkB r, true) := by
  have hix : Lib.indexByte s.data.toList 32 = (p.length : Int) := by
    rcases place_or 32 s.data.toList with ⟨_, g2⟩ | ⟨p', r', g1, g2, g3⟩
    · exact absurd rfl (g2 32 (by rw [h1]; simp))
    · have e : p' :: splitL 32 r' = p :: splitL 32 r := by rw [← splitL_hit 32 p' r' g2, ← g1, h1, splitL_hit 32 p r h2]
      rw [g3, (List.cons.inj e).1]
  have hl : p.length + (r.length + 1) = s.size := by rw [size_len, h1]; simp
  unfold strings_Cut.f stringslite_Cut.f internal_stringslite_Index.f
  rw [if_pos (show (⟨#[32]⟩ : ByteArray).size = 1 from rfl)]
  simp only [Option.bind_some]
  rw [show List.headD (⟨#[32]⟩ : ByteArray).data.toList 0 = 32 from rfl, show (⟨#[32]⟩ : ByteArray).size = 1 from rfl, hix, show (((1 : Nat) : Int)) = 1 from rfl, w64n (by omega), if_pos (by omega), if_pos (by omega), if_pos (by omega), if_pos (by omega), if_pos (by omega), Int.toNat_natCast, Int.toNat_natCast, ext_mkB, ext_end]
  have e1 : (s.data.toList.drop 0).take (p.length - 0) = p := by rw [h1]; simp
  have e2 : s.data.toList.drop (p.length + 1) = r := by
    rw [h1, show p ++ 32 :: r = (p ++ [32]) ++ r by simp, List.drop_append_of_le_length (by simp), List.drop_of_length_le (by simp), List.nil_append]
  rw [e1, e2]
  rfl
theorem cut_none (s : ByteArray) (h2 : ∀ x ∈ s.data.toList, x ≠ 32) : strings_Cut.f s (⟨#[32]⟩ : ByteArray) = some (s, (⟨#[]⟩ : ByteArray), false) := by
  have h1 : Lib.indexByte s.data.toList 32 = -1 := by
    rcases place_or 32 s.data.toList with ⟨h1, _⟩ | ⟨p, r, h1, _, _⟩
    · exact h1
    · exact absurd rfl (h2 32 (by rw [h1]; simp))
  unfold strings_Cut.f stringslite_Cut.f internal_stringslite_Index.f
  rw [if_pos (show (⟨#[32]⟩ : ByteArray).size = 1 from rfl)]
  simp only [Option.bind_some]
  rw [show List.headD (⟨#[32]⟩ : ByteArray).data.toList 0 = 32 from rfl, h1, if_neg (by omega)]
  rfl
/-- What good data is: a name, or a number and a name. -/
theorem data_names {k : Nat} {kind : Int} {s x : ByteArray} (hs : s.size ≤ 1048576) (h : impl_DataBytes.f k kind s = some (x, true)) : ((kind = 2 ∨ kind = 5) → targL s.data.toList = true) ∧ (kind = 15 → ∃ p r, s.data.toList = p ++ 32 :: r ∧ (∀ x ∈ p, x ≠ 32) ∧ (canL p && decide ((valL p : Int) ≤ 65535)) = true ∧ targL r = true) := by
  unfold impl_DataBytes.f at h
  refine ⟨fun c2 => ?_, fun c15 => ?_⟩
  · rw [if_neg (by omega), if_pos c2] at h
    unfold dataNs at h
    rw [target_impl, Option.bind_some] at h
    by_cases ht : targL s.data.toList = true
    · exact ht
    · rw [if_neg ht] at h
      cases (Prod.mk.inj (Option.some.inj h)).2
  · rw [if_neg (by omega), if_neg (by omega), if_neg (by omega), if_pos c15] at h
    unfold dataMx at h
    rcases place_or 32 s.data.toList with ⟨h1, h2⟩ | ⟨p, r, h1, h2, h3⟩
    · rw [cut_none s h2, Option.bind_some] at h
      simp only [target_impl, Option.bind_some, show targL (⟨#[]⟩ : ByteArray).data.toList = false from rfl, Bool.false_eq_true, if_false] at h
      obtain ⟨⟨v, b⟩, _, h⟩ := Option.bind_eq_some_iff.mp h
      cases b with
      | true => simp [badD] at h
      | false => simp [badD] at h
    · refine ⟨p, r, h1, h2, ?_⟩
      rw [cut_hit s p r hs h1 h2, Option.bind_some] at h
      have hl : p.length + (r.length + 1) = s.size := by rw [size_len, h1]; simp
      obtain ⟨v, hn1, _⟩ := number_eq (mkB p) 65535 (by rw [mkB_size]; omega) (by omega) (by omega)
      simp only [hn1, Option.bind_some, target_impl, mkB_data] at h
      by_cases hb : (canL p && decide ((valL p : Int) ≤ 65535)) = true
      · by_cases ht : targL r = true
        · exact ⟨hb, ht⟩
        · rw [if_pos hb, if_neg ht] at h
          cases (Prod.mk.inj (Option.some.inj h)).2
      · rw [if_neg hb] at h
        cases (Prod.mk.inj (Option.some.inj h)).2
theorem targ_no32 {r : List UInt8} (h : targL r = true) : ∀ x ∈ r, x ≠ 32 := by
  intro x hx e
  subst e
  rw [space_bad hx] at h
  cases h
theorem targ_ne {r : List UInt8} (h : targL r = true) : r ≠ [] := by
  intro e
  subst e
  cases h
theorem l3To_j (k : Nat) (b : Int) (x : Bool) (a : ByteArray) (c : Int) (d : ByteArray) : spec_l3To.j0 (k + 1) b x a b c d = if x = true then some d else (if b = 15 then ((spec_l1Split.f k d 32).bind fun t252 => (if 1 < (t252.length : Int) then (some (rdOf ByteArray.empty t252 1)) else (none))) else some (⟨#[]⟩ : ByteArray)) := rfl
theorem targetOf_j (k : Nat) (b : Int) (x : Bool) (a : ByteArray) (c : Int) (d : ByteArray) : impl_targetOf.j0 (k + 1) b x a b c d = if x = true then some (d, true) else (if b = 15 then ((strings_Cut.f d (⟨#[32]⟩ : ByteArray)).bind fun bt261 => (some (bt261.2.1, true))) else some ((⟨#[]⟩ : ByteArray), false)) := rfl
theorem to_both {k : Nat} (a : ByteArray) (b c : Int) {d x : ByteArray} (hd : d.size ≤ 1048576) (h : impl_DataBytes.f k b d = some (x, true)) : ∃ t : ByteArray, Ev (fun k => spec_l3To.f k a b c d) t ∧ Ev (fun k => impl_targetOf.f k a b c d) (t, decide (t.data.toList ≠ [])) := by
  obtain ⟨h1, h2⟩ := data_names hd h
  by_cases c2 : b = 2 ∨ b = 5
  · have ht := h1 c2
    have hne := targ_ne ht
    refine ⟨d, ?_, ?_⟩
    · refine Ev.congr (f := fun k => spec_l3To.j0 k b true a b c d) (fun k => ?_) (Ev.step (f := fun _ => some d) (fun k => rfl) (Ev.now _))
      unfold spec_l3To.f
      rcases c2 with rfl | rfl
      · rw [if_pos rfl]; rfl
      · rw [if_neg (by omega)]; rfl
    · rw [decide_eq_true hne]
      refine Ev.congr (f := fun k => impl_targetOf.j0 k b true a b c d) (fun k => ?_) (Ev.step (f := fun _ => some (d, true)) (fun k => rfl) (Ev.now _))
      unfold impl_targetOf.f
      rcases c2 with rfl | rfl
      · rw [if_pos rfl]; rfl
      · rw [if_neg (by omega)]; rfl
  · have e2 : ¬ b = 2 := fun e => c2 (.inl e)
    have e5 : (b == 5) = false := beq_eq_false_iff_ne.mpr fun e => c2 (.inr e)
    by_cases c15 : b = 15
    · obtain ⟨p, r, g1, g2, _, g3⟩ := h2 c15
      have hsp := split32_ev d (by omega)
      rw [g1, splitL_hit 32 p r g2, splitL_none 32 r (targ_no32 g3)] at hsp
      refine ⟨mkB r, ?_, ?_⟩
      · refine Ev.congr (f := fun k => spec_l3To.j0 k b false a b c d) (fun k => ?_) (Ev.step (f := fun k => (spec_l1Split.f k d 32).bind fun t252 => (if 1 < (t252.length : Int) then (some (rdOf ByteArray.empty t252 1)) else (none))) (fun k => ?_) (Ev.bind hsp ?_))
        · unfold spec_l3To.f
          rw [if_neg e2, e5]
        · rw [show _ from l3To_j k b false a c d, if_neg (by decide), if_pos c15]
        · exact Ev.now _
      · rw [mkB_data, decide_eq_true (targ_ne g3)]
        refine Ev.congr (f := fun k => impl_targetOf.j0 k b false a b c d) (fun k => ?_) (Ev.step (f := fun k => some (mkB r, true)) (fun k => ?_) (Ev.now _))
        · unfold impl_targetOf.f
          rw [if_neg e2, e5]
        · rw [show _ from targetOf_j k b false a c d, if_neg (by decide), if_pos c15, cut_hit d p r hd g1 g2]
          rfl
    · refine ⟨(⟨#[]⟩ : ByteArray), ?_, ?_⟩
      · refine Ev.congr (f := fun k => spec_l3To.j0 k b false a b c d) (fun k => ?_) (Ev.step (f := fun k => some (⟨#[]⟩ : ByteArray)) (fun k => ?_) (Ev.now _))
        · unfold spec_l3To.f
          rw [if_neg e2, e5]
        · rw [show _ from l3To_j k b false a c d, if_neg (by decide), if_neg c15]
      · refine Ev.congr (f := fun k => impl_targetOf.j0 k b false a b c d) (fun k => ?_) (Ev.step (f := fun k => some ((⟨#[]⟩ : ByteArray), false)) (fun k => ?_) (Ev.now _))
        · unfold impl_targetOf.f
          rw [if_neg e2, e5]
        · rw [show _ from targetOf_j k b false a c d, if_neg (by decide), if_neg c15]
theorem mkB_self (t : ByteArray) : mkB t.data.toList = t := by simp [mkB]
theorem target_both (a : ByteArray) (b c : Int) (d : ByteArray) (ha : a.size ≤ 1048576) (hd : d.size ≤ 1048576) : ∃ r, Ev (fun k => spec_TargetOf.f k a b c d) r ∧ Ev (fun k => impl_TargetOf.f k a b c d) r := by
  obtain ⟨r, q, r1, r2, q1, ⟨K, q2⟩, hr, _⟩ := goodrec_both a b c d ha hd
  cases hrt : r with
  | false =>
    subst hrt
    refine ⟨((⟨#[]⟩ : ByteArray), false), Ev.congr (fun k => rfl) (Ev.bind r1 ?_), Ev.congr (fun k => rfl) (Ev.bind r2 ?_)⟩
    · exact Ev.now _
    · exact Ev.now _
  | true =>
    have hq : q.2 = true := by
      rw [hrt] at hr
      have := hr.symm
      rw [Bool.and_eq_true] at this
      exact this.1
    have hK : impl_DataBytes.f K b d = some (if q.2 = true then (q.1, true) else badD) := q2 K (Nat.le_refl _)
    rw [if_pos hq] at hK
    obtain ⟨t, t1, t2⟩ := to_both a b c hd hK
    subst hrt
    by_cases hn : t.data.toList = []
    · rw [decide_eq_false (fun h => h hn)] at t2
      have he : t = (⟨#[]⟩ : ByteArray) := by
        have := mkB_self t
        rw [hn] at this
        exact this.symm
      refine ⟨((⟨#[]⟩ : ByteArray), false), Ev.congr (fun k => rfl) (Ev.bind r1 ?_), Ev.congr (fun k => rfl) (Ev.bind r2 ?_)⟩
      · refine Ev.bind t1 ?_
        simp only [if_pos (show t.toList = [] by rw [Lib.toList_data]; exact hn)]
        exact Ev.now _
      · refine Ev.bind t2 ?_
        rw [he]
        exact Ev.now _
    · rw [decide_eq_true hn] at t2
      refine ⟨(t, true), Ev.congr (fun k => rfl) (Ev.bind r1 ?_), Ev.congr (fun k => rfl) (Ev.bind r2 ?_)⟩
      · refine Ev.bind t1 ?_
        simp only [if_neg (show ¬ t.toList = [] by rw [Lib.toList_data]; exact hn)]
        exact Ev.bind t1 (Ev.now _)
      · exact Ev.bind t2 (Ev.now _)
end Go.Proofs.YtecmicedacppbaaDoor.Pure

-- PureFnExactTargetOf
/- 'laws.FnExactTargetOf' returns true: the reference and the program return the same. Conditions: the texts' sizes. -/
namespace Go.Proofs.YtecmicedacppbaaDoor.Pure
open Go.RowKit Go.Proofs.YtecmicedacppbaaDoor.P Go.Proofs.YtecmicedacppbaaDoorW.PrintWords Go.Proofs.YtecmicedacppbaaDoorW.PrintLast
set_option linter.unusedVariables false
set_option linter.unusedSimpArgs false
theorem FnExactTargetOf : ∀ (a0 : ByteArray) (b0 c0 : Int) (d0 : ByteArray), a0.size ≤ maxLen → d0.size ≤ maxLen → ∃ k, laws_FnExactTargetOf.f k a0 b0 c0 d0 = some true := by
  intro a b c d ha hd
  suffices h : Ev (fun k => laws_FnExactTargetOf.f k a b c d) true from h.rounds
  obtain ⟨t, e0, h0⟩ := szRec a b c d ha hd
  refine Ev.congr (f := fun k => if t < 0 then some true else ((spec_TargetOf.f k a b c d).bind fun w => ((impl_TargetOf.f k a b c d).bind fun g => (if g.1.toList = w.1.toList then (if (g.2 != w.2) = true then (some false) else (some true)) else (some false))))) (fun k => ?_) ?_
  · unfold laws_FnExactTargetOf.f laws_toRecord.f
    rw [e0]
    rfl
  · by_cases ht : t < 0
    · simp only [if_pos ht]; exact Ev.now _
    · obtain ⟨h1, h2⟩ := h0 (by omega)
      obtain ⟨r, r1, r2⟩ := target_both a b c d h1 h2
      simp only [if_neg ht]
      refine Ev.bind r1 (Ev.bind r2 ?_)
      simp
      exact Ev.now _
end Go.Proofs.YtecmicedacppbaaDoor.Pure
