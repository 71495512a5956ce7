/- FnExactNamesIn: part 25 of 30 of my texts for this claim, joined; the theorem stands in the last. Conditions: none beyond the statement's. -/
import Derived.Test.YtkpkfallgjdkmaaGreatDoorMFnExactNamesInx22
import Derived.Test.YtkpkfallgjdkmaaGreatDoorMFnExactNamesInx18
import Derived.Test.YtkpkfallgjdkmaaGreatDoorMFnExactNamesInx21
import Derived.Test.YtkpkfallgjdkmaaGreatDoorMFnExactNamesInx5
import Derived.Test.YtkpkfallgjdkmaaGreatDoorMFnExactNamesInx3
import Derived.Test.YtkpkfallgjdkmaaGreatDoorMFnExactNamesInx23
import Derived.Test.YtkpkfallgjdkmaaGreatDoorMFnExactNamesInx20
import Derived.Test.YtkpkfallgjdkmaaGreatDoorMFnExactNamesInx9
import Derived.Test.YtkpkfallgjdkmaaGreatDoorMFnExactNamesInx8
import Derived.Test.YtkpkfallgjdkmaaGreatDoorMFnExactNamesInx11
import Derived.Test.YtkpkfallgjdkmaaGreatDoorMFnExactNamesInx15
import Derived.Lib.ItoaLen
namespace Go.Proofs.YtkpkfallgjdkmaaGreatDoor.Pure
open Go.RowKit Go.Proofs.YtkpkfallgjdkmaaGreatDoor.P Go.Proofs.YtkpkfallgjdkmaaGreatDoorW.PrintWords Go.Proofs.YtkpkfallgjdkmaaGreatDoorW.PrintLast Go.Proofs.YtkpkfallgjdkmaaGreatDoorW.PrintMore
set_option linter.unusedVariables false
set_option linter.unusedSimpArgs false
theorem a_small : ∀ (k i : Nat) (parts : List ByteArray) (out x : ByteArray), impl_DataBytes.l0 k parts out (i : Int) = some (x, true) → (∀ y ∈ parts, y.size ≤ 1048576) → parts.length < 1099511627776 → (i < parts.length → parts.length = 4) ∧ ∀ j (h : j < parts.length), i ≤ j → parts[j].size ≤ 10
 | 0, i, parts, out, x, h, hs, hl => by simp [impl_DataBytes.l0] at h
 | k + 1, i, parts, out, x, h, hs, hl => by
  unfold impl_DataBytes.l0 at h
  by_cases c1 : (i : Int) < (parts.length : Int)
  · have hi : i < parts.length := by omega
    have hsz := hs _ (List.getElem_mem hi)
    obtain ⟨v, hn1, hn2⟩ := number_eq parts[i] 255 (by omega) (by omega) (by omega)
    rw [if_pos c1, if_pos (by omega), td_rd parts i hi, hn1, Option.bind_some] at h
    by_cases hb : (canL parts[i].data.toList && decide ((valL parts[i].data.toList : Int) ≤ 255)) = true
    · rw [if_pos hb] at h
      by_cases h4 : (parts.length : Int) = 4
      · rw [if_pos h4] at h
        obtain ⟨t, ht, h⟩ := Option.bind_eq_some_iff.mp h
        by_cases ho : out.size + t.size ≤ 9223372036854775807
        · rw [if_pos ho, w64n (by omega)] at h
          have ih := a_small k (i + 1) parts _ x h hs hl
          refine ⟨fun _ => by omega, fun j hj hij => ?_⟩
          by_cases e : j = i
          · subst e
            rw [Bool.and_eq_true] at hb
            have hc := hb.1
            unfold canL at hc
            simp only [Bool.and_eq_true, decide_eq_true_eq] at hc
            rw [size_len]
            exact hc.1.1.2
          · exact ih.2 j hj (by omega)
        · rw [if_neg ho] at h; cases h
      · rw [if_neg h4] at h
        cases (Prod.mk.inj (Option.some.inj h)).2
    · rw [if_neg hb] at h
      cases (Prod.mk.inj (Option.some.inj h)).2
  · exact ⟨fun h2 => absurd h2 (by omega), fun j hj hij => absurd hj (by omega)⟩
theorem sum_le : ∀ l : List (List UInt8), (∀ p ∈ l, p.length ≤ 10) → (l.map fun p => 1 + p.length).sum ≤ 11 * l.length
 | [], _ => Nat.le_refl _
 | x :: r, h => by
  have ih := sum_le r fun p hp => h p (List.mem_cons_of_mem _ hp)
  have hx := h x List.mem_cons_self
  rw [List.map_cons, List.sum_cons, List.length_cons]
  omega
theorem can_len {l : List UInt8} {m : Int} (h : (canL l && decide ((valL l : Int) ≤ m)) = true) : l.length ≤ 10 := by
 rw [Bool.and_eq_true] at h
 have hc := h.1
 unfold canL at hc
 simp only [Bool.and_eq_true, decide_eq_true_eq] at hc
 exact hc.1.1.2
theorem cut_sizes {s q1 q2 : ByteArray} {q3 : Bool} (hs : s.size ≤ 1048576) (h : strings_Cut.f s (⟨#[32]⟩ : ByteArray) = some (q1, q2, q3)) : q1.size + q2.size ≤ s.size ∧ s.size ≤ q1.size + q2.size + 1 := by
 unfold strings_Cut.f stringslite_Cut.f internal_stringslite_Index.f at h
 rw [if_pos (show (⟨#[32]⟩ : ByteArray).size = 1 from rfl)] at h
 simp only [Option.bind_some] at h
 rw [show List.headD (⟨#[32]⟩ : ByteArray).data.toList 0 = 32 from rfl, show (⟨#[32]⟩ : ByteArray).size = 1 from rfl] at h
 rcases place_or 32 s.data.toList with ⟨h1, _⟩ | ⟨p, r, h1, _, h3⟩
 · rw [h1, if_neg (by omega)] at h
   simp only [Option.bind_some, Option.some.injEq, Prod.mk.injEq] at h
   obtain ⟨rfl, rfl, _⟩ := h
   exact ⟨Nat.le_refl _, by show s.size ≤ s.size + 0 + 1; omega⟩
 · have hl : p.length + (r.length + 1) = s.size := by rw [size_len, h1]; simp
   rw [h3, show (((1 : Nat) : Int)) = 1 from rfl, w64n (by omega), if_pos (by omega), if_pos (by omega), if_pos (by omega), if_pos (by omega), if_pos (by omega), Int.toNat_natCast, Int.toNat_natCast] at h
   simp only [Option.bind_some, Option.some.injEq, Prod.mk.injEq] at h
   obtain ⟨rfl, rfl, _⟩ := h
   rw [ByteArray.size_extract, ByteArray.size_extract]
   omega
theorem data_small {k : Nat} {kind : Int} {s x : ByteArray} (hs : s.size ≤ 1048576) (h : impl_DataBytes.f k kind s = some (x, true)) : s.size ≤ 100 := by
 unfold impl_DataBytes.f at h
 by_cases c1 : kind = 1
 · rw [if_pos c1] at h
   have hsp : strings_Split.f s (⟨#[46]⟩ : ByteArray) = some ((splitL 46 s.data.toList).map mkB) := by
    unfold strings_Split.f
    rw [if_pos (show (⟨#[46]⟩ : ByteArray).size = 1 from rfl), if_pos (by omega)]
    rfl
   rw [hsp, Option.bind_some] at h
   have hne := splitL_ne 46 s.data.toList
   have hpl : 0 < (splitL 46 s.data.toList).length := List.length_pos_iff.2 hne
   have hlen : (splitL 46 s.data.toList).length ≤ s.size + 1 := by rw [size_len]; exact splitL_len _ _
   have hg := a_small k 0 _ _ _ h (by
    intro y hy
    obtain ⟨q, hq, rfl⟩ := List.mem_map.1 hy
    have := splitL_part 46 _ q hq
    rw [← size_len] at this
    rw [mkB_size]
    omega) (by rw [List.length_map]; omega)
   have h4 := hg.1 (by rw [List.length_map]; exact hpl)
   rw [List.length_map] at h4
   have hsum := sum_le (splitL 46 s.data.toList) (by
    intro p hp
    obtain ⟨j, hj, rfl⟩ := List.mem_iff_getElem.1 hp
    have := hg.2 j (by rw [List.length_map]; exact hj) (Nat.zero_le _)
    rw [List.getElem_map, mkB_size] at this
    exact this)
   rw [split_sum, h4, ← size_len] at hsum
   omega
 · rw [if_neg c1] at h
   by_cases c2 : kind = 2 ∨ kind = 5
   · rw [if_pos c2] at h
     unfold dataNs at h
     rw [target_impl, Option.bind_some] at h
     by_cases ht : targL s.data.toList = true
     · have := good_size (targ_good ht)
       rw [← size_len] at this
       omega
     · rw [if_neg ht] at h
       cases (Prod.mk.inj (Option.some.inj h)).2
   · rw [if_neg c2] at h
     by_cases c6 : kind = 6
     · rw [if_pos c6] at h
       unfold dataSoa at h
       obtain ⟨v, hn1, _⟩ := number_eq s 4294967295 (by omega) (by omega) (by omega)
       rw [hn1, Option.bind_some] at h
       by_cases hb : (canL s.data.toList && decide ((valL s.data.toList : Int) ≤ 4294967295)) = true
       · have := can_len hb
         rw [← size_len] at this
         omega
       · rw [if_neg hb] at h
         cases (Prod.mk.inj (Option.some.inj h)).2
     · rw [if_neg c6] at h
       by_cases c15 : kind = 15
       · rw [if_pos c15] at h
         unfold dataMx at h
         obtain ⟨⟨q1, q2, q3⟩, hc, h⟩ := Option.bind_eq_some_iff.mp h
         have hcut : q1.size + q2.size ≤ s.size ∧ s.size ≤ q1.size + q2.size + 1 := cut_sizes hs hc
         obtain ⟨v, hn1, _⟩ := number_eq q1 65535 (by omega) (by omega) (by omega)
         rw [hn1, Option.bind_some] at h
         by_cases hb : (canL q1.data.toList && decide ((valL q1.data.toList : Int) ≤ 65535)) = true
         · rw [if_pos hb, target_impl, Option.bind_some] at h
           by_cases ht : targL q2.data.toList = true
           · have h1 := good_size (targ_good ht)
             have h2 := can_len hb
             rw [← size_len] at h1 h2
             omega
           · rw [if_neg ht] at h
             cases (Prod.mk.inj (Option.some.inj h)).2
         · rw [if_neg hb] at h
           cases (Prod.mk.inj (Option.some.inj h)).2
       · rw [if_neg c15] at h
         by_cases c16 : kind = 16
         · rw [if_pos c16] at h
           unfold dataTxt at h
           by_cases h30 : (s.size : Int) > 30
           · rw [if_pos h30] at h
             cases (Prod.mk.inj (Option.some.inj h)).2
           · omega
         · rw [if_neg c16] at h
           cases (Prod.mk.inj (Option.some.inj h)).2
theorem data_full (kind : Int) (s : ByteArray) (hs : s.size ≤ 1048576) : ∃ q, Ev (fun k => spec_l3Bytes.f k kind s) q ∧ Ev (fun k => impl_DataBytes.f k kind s) (if q.2 = true then (q.1, true) else badD) ∧ (q.2 = true → s.size ≤ 100) := by
 obtain ⟨r, ⟨K, h1⟩, h2⟩ := data_both kind s hs
 have h1 : specData K kind s = some r := h1 K (Nat.le_refl _)
 unfold specData at h1
 obtain ⟨q, hq, h1⟩ := Option.bind_eq_some_iff.mp h1
 have hQ : Ev (fun k => spec_l3Bytes.f k kind s) q := Ev.of (fun k => spec_l3Bytes.mono _ _ _) (k := K) hq
 have er : (if q.2 = true then (q.1, true) else badD) = r := by
  by_cases hq2 : q.2 = true
  · rw [if_pos hq2] at h1 ⊢
    exact Option.some.inj h1
  · rw [if_neg hq2] at h1 ⊢
    exact Option.some.inj h1
 refine ⟨q, hQ, by rw [er]; exact h2, fun hq2 => ?_⟩
 rw [if_pos hq2] at er
 obtain ⟨K2, h2⟩ := h2
 have h3 : impl_DataBytes.f K2 kind s = some r := h2 K2 (Nat.le_refl _)
 rw [← er] at h3
 exact data_small hs h3
theorem goodrec_both (a : ByteArray) (b c : Int) (d : ByteArray) (ha : a.size ≤ 1048576) (hd : d.size ≤ 1048576) : ∃ r q, Ev (fun k => spec_GoodRecord.f k a b c d) r ∧ Ev (fun k => impl_GoodRecord.f k a b c d) r ∧ Ev (fun k => spec_l3Bytes.f k b d) q ∧ Ev (fun k => impl_DataBytes.f k b d) (if q.2 = true then (q.1, true) else badD) ∧ r = (q.2 && (goodL a.data.toList && decide (0 ≤ c ∧ c ≤ 100000))) ∧ (q.2 = true → d.size ≤ 100) := by
 obtain ⟨q, q1, q2, q3⟩ := data_full b d hd
 refine ⟨q.2 && (goodL a.data.toList && decide (0 ≤ c ∧ c ≤ 100000)), q, ?_, ?_, q1, q2, rfl, q3⟩
 · refine Ev.congr (fun k => rfl) (Ev.bind q1 ?_)
   cases hq : q.2 with
   | false => exact Ev.now _
   | true =>
    refine Ev.bind (specGood_ev a (by omega)) ?_
    cases hg : goodL a.data.toList with
    | false => exact Ev.now _
    | true =>
     simp only [if_true, within_spec, Option.bind_some, Bool.true_and]
     exact Ev.now _
 · cases hg : goodL a.data.toList with
   | false =>
    rw [Bool.false_and, Bool.and_false]
    refine Ev.congr (fun k => ?_) (Ev.now _)
    unfold impl_GoodRecord.f impl_GoodName.f
    rw [hg]
    rfl
   | true =>
    by_cases hc : 0 ≤ c ∧ c ≤ 100000
    · rw [decide_eq_true hc, Bool.true_and, Bool.and_true]
      by_cases h100 : (d.size : Int) > 100
      · have hf : q.2 = false := by
         rw [Bool.eq_false_iff]
         intro h
         have := q3 h
         omega
        rw [hf]
        refine Ev.congr (fun k => ?_) (Ev.now _)
        unfold impl_GoodRecord.f impl_GoodName.f
        rw [hg, Option.bind_some, if_pos rfl, within_eq, Option.bind_some, decide_eq_true hc, if_pos rfl, if_pos h100]
      · refine Ev.congr (f := fun k => (impl_DataBytes.f k b d).bind fun bt237 => (some bt237.2)) (fun k => ?_) (Ev.bind q2 ?_)
        · unfold impl_GoodRecord.f impl_GoodName.f
          rw [hg, Option.bind_some, if_pos rfl, within_eq, Option.bind_some, decide_eq_true hc, if_pos rfl, if_neg h100]
        · cases q.2 with
          | false => exact Ev.now _
          | true => exact Ev.now _
    · rw [decide_eq_false hc, Bool.and_false, Bool.and_false]
      refine Ev.congr (fun k => ?_) (Ev.now _)
      unfold impl_GoodRecord.f impl_GoodName.f
      rw [hg, Option.bind_some, if_pos rfl, within_eq, Option.bind_some, decide_eq_false hc, if_neg (by simp)]
theorem data_kind {k : Nat} {kind : Int} {s x : ByteArray} (h : impl_DataBytes.f k kind s = some (x, true)) : 1 ≤ kind ∧ kind ≤ 16 := by
 unfold impl_DataBytes.f at h
 by_cases c : 1 ≤ kind ∧ kind ≤ 16
 · exact c
 · rw [if_neg (by omega), if_neg (by omega), if_neg (by omega), if_neg (by omega), if_neg (by omega)] at h
   cases (Prod.mk.inj (Option.some.inj h)).2
theorem good_parts (a : ByteArray) (b c : Int) (d : ByteArray) (ha : a.size ≤ 1048576) (hd : d.size ≤ 1048576) (h : Ev (fun k => impl_GoodRecord.f k a b c d) true) : a.size ≤ 60 ∧ goodL a.data.toList = true ∧ (1 ≤ b ∧ b ≤ 16) ∧ (0 ≤ c ∧ c ≤ 100000) ∧ d.size ≤ 100 := by
 obtain ⟨r, q, r1, r2, q1, ⟨K, q2⟩, hr, hs⟩ := goodrec_both a b c d ha hd
 have e := Ev.unique h r2
 subst e
 have hr := hr.symm
 rw [Bool.and_eq_true, Bool.and_eq_true, decide_eq_true_eq] at hr
 have hK : impl_DataBytes.f K b d = some (if q.2 = true then (q.1, true) else badD) := q2 K (Nat.le_refl _)
 rw [if_pos hr.1] at hK
 have := good_size hr.2.1
 rw [← size_len] at this
 exact ⟨this, hr.2.1, data_kind hK, hr.2.2, hs hr.1⟩
theorem szRecAt (left : Int) (h0 : 0 ≤ left) (h1 : left ≤ 1048576) (a : ByteArray) (b c : Int) (d : ByteArray) (ha : a.size ≤ maxLen) (hd : d.size ≤ maxLen) : ∃ t, laws_szRecord.f a b c d left = some t ∧ (0 ≤ t → t ≤ left ∧ a.size ≤ 1048576 ∧ d.size ≤ 1048576) := by
 simp only [maxLen] at ha hd
 have h2 : wrap64 (left - (a.size : Int)) = left - (a.size : Int) := by unfold wrap64; omega
 unfold laws_szRecord.f
 rw [h2]
 by_cases c1 : left - (a.size : Int) < 0
 · exact ⟨-1, by rw [if_pos c1], fun h => by omega⟩
 · have h3 : wrap64 (left - (a.size : Int) - (d.size : Int)) = left - (a.size : Int) - (d.size : Int) := by unfold wrap64; omega
   rw [h3]
   by_cases c2 : left - (a.size : Int) - (d.size : Int) < 0
   · exact ⟨-1, by rw [if_neg c1, if_pos c2], fun h => by omega⟩
   · exact ⟨_, by rw [if_neg c1, if_neg c2], fun h => by omega⟩
end Go.Proofs.YtkpkfallgjdkmaaGreatDoor.Pure
namespace Go.Proofs.YtkpkfallgjdkmaaGreatDoor.P
open Go.RowKit Go.Proofs.YtkpkfallgjdkmaaGreatDoorW.PrintWords Go.Proofs.YtkpkfallgjdkmaaGreatDoorW.PrintLast Go.Proofs.YtkpkfallgjdkmaaGreatDoorW.PrintMore
attribute [local go_sem] max2_int min2_int max_two min_two max_three min_three max_four min_four
set_option linter.unusedVariables false
set_option linter.unusedSimpArgs false
def impl_isWhole.f (k : Nat) (a0 : ByteArray) (l1 : List (S72)) : Option (Bool) := (impl_isApex.f a0).bind fun t601 => (if t601 = true then (if (l1.length : Int) ≤ 40 then ((impl_areRising.f k l1).bind fun t602 => (some t602)) else (some false)) else (some false))
set_option maxHeartbeats 8000000 in
set_option maxRecDepth 100000 in
theorem impl_isWhole.calls (k : Nat) (a0 : ByteArray) (A1 : Option Addr) (c1 : Nat) (l1 : List (S72)) (r : Bool) (w : World) (hr1 : Kd.C k72 w A1 l1.length l1) (hc1 : l1.length ≤ c1) (h : impl_isWhole.f k a0 l1 = some r) (hv_ : Vars w := by exact vv_) :
 Calls Tryz.prog 58 #[.string a0, .slice A1 l1.length c1] w fun e w' => e = .returned (.bool r) ∧ Below w.heap.size w w' := by
 have HV_ := a0_ hv_
 clear hv_
 have HR1 := a0_ hr1
 have HC1 := a0_ hc1
 clear hr1 hc1
 have HB := a0_ (Below.refl w.heap.size w)
 have H : ((impl_isApex.f a0).bind fun t601 => (if t601 = true then (if (l1.length : Int) ≤ 40 then ((impl_areRising.f k l1).bind fun t602 => (some t602)) else (some false)) else (some false))) = some r := h
 clear h
 obtain ⟨t601, A30, H⟩ := Option.bind_eq_some_iff.mp H
 have A3 := a0_ A30
 clear A30
 by_cases c4 : t601 = true
 case neg =>
  replace c4 := Bool.eq_false_iff.mpr c4
  subst c4
  rw [if_neg (show ¬ (false = true) by decide)] at H
  obtain rfl := Option.some.inj H
  go_enter Tryz.func58, Tryz.ntmps58
  go_wp2_with (first | ((with_reducible refine gate_callee (f := 87) rfl ?_); refine goesL_ (some 6) rfl rfl Tryz.func87 (by kernel_rfl) rfl #[.string a0] rfl argsS_ ?_; (with_reducible refine (impl_isApex.calls a0 false _ A3.out).mono ?_); rintro e w10 ⟨rfl, hb⟩; refine ⟨_, rfl, ?_⟩; replace HB := a0_ (below_step bq0_ hb); (try clear hb); (try clear hb2); (try clear hk); (try clear hi)))
  go_ret
  exact ⟨rr_, bq0_⟩
 subst c4
 rw [if_pos rfl] at H
 by_cases c5 : (l1.length : Int) ≤ 40
 case neg =>
  rw [if_neg c5] at H
  have c5b0 := decide_eq_false c5
  have c5b1 : decide (l1.length ≤ 40) = false := decide_eq_false (by omega)
  clear c5
  obtain rfl := Option.some.inj H
  go_enter Tryz.func58, Tryz.ntmps58
  go_wp2_with (first | ((with_reducible refine gate_callee (f := 87) rfl ?_); refine goesL_ (some 6) rfl rfl Tryz.func87 (by kernel_rfl) rfl #[.string a0] rfl argsS_ ?_; (with_reducible refine (impl_isApex.calls a0 true _ A3.out).mono ?_); rintro e w9 ⟨rfl, hb⟩; refine ⟨_, rfl, ?_⟩; replace HB := a0_ (below_step bq0_ hb); (try clear hb); (try clear hb2); (try clear hk); (try clear hi)))
  go_ret
  exact ⟨rr_, bq0_⟩
 rw [if_pos c5] at H
 have c5b0 := decide_eq_true c5
 have c5b1 : decide (l1.length ≤ 40) = true := decide_eq_true (by omega)
 clear c5
 obtain ⟨t602, A60, H⟩ := Option.bind_eq_some_iff.mp H
 have A6 := a0_ A60
 clear A60
 obtain rfl := Option.some.inj H
 go_enter Tryz.func58, Tryz.ntmps58
 go_wp2_with (first | ((with_reducible refine gate_callee (f := 87) rfl ?_); refine goesL_ (some 6) rfl rfl Tryz.func87 (by kernel_rfl) rfl #[.string a0] rfl argsS_ ?_; (with_reducible refine (impl_isApex.calls a0 true _ A3.out).mono ?_); rintro e w7 ⟨rfl, hb⟩; refine ⟨_, rfl, ?_⟩; replace HB := a0_ (below_step bq0_ hb); (try clear hb); (try clear hb2); (try clear hk); (try clear hi)) | (go_at_call 88; (with_reducible refine (impl_areRising.calls k _ _ l1 t602 _ ?side1 ?side2 A6.out).mono ?_); (case side1 => exact kC_ HR1.out HB.out); (case side2 => exact HC1.out); rintro e w8 ⟨rfl, hb⟩; replace HB := a0_ (below_step bq0_ hb); (try clear hb); (try clear hb2); (try clear hk); (try clear hi)))
 go_ret
 exact ⟨rr_, bq0_⟩
end Go.Proofs.YtkpkfallgjdkmaaGreatDoor.P
namespace Go.Proofs.YtkpkfallgjdkmaaGreatDoor.Pure
open Go.RowKit Go.Proofs.YtkpkfallgjdkmaaGreatDoor.P Go.Proofs.YtkpkfallgjdkmaaGreatDoorW.PrintWords Go.Proofs.YtkpkfallgjdkmaaGreatDoorW.PrintLast Go.Proofs.YtkpkfallgjdkmaaGreatDoorW.PrintMore
set_option linter.unusedVariables false
set_option linter.unusedSimpArgs false
def cmpI (a b : Int) : Int := if a < b then -1 else (if b < a then 1 else 0)
theorem cmpI_eq (a b : Int) : cmp_Compare_int.f a b = some (cmpI a b) := by
 unfold cmp_Compare_int.f cmp_isNaN_int.f cmpI
 simp only [bne_self_eq_false, Option.bind_some, Bool.false_eq_true, if_false]
 by_cases h : a < b
 · rw [if_pos h, if_pos h]
 · rw [if_neg h, if_neg h]
   by_cases h2 : b < a
   · rw [if_pos h2, if_pos h2]
   · rw [if_neg h2, if_neg h2]
def or2 (a b : Int) : Int := if a = 0 then b else a
theorem or_two (a b : Int) : Ev (fun k => cmp_Or_int.f k [a, b]) (or2 a b) := by
 refine Ev.of (fun k => cmp_Or_int.mono _ _) (k := 3) ?_
 show cmp_Or_int.f 3 [a, b] = _
 unfold or2
 by_cases h : a = 0
 · by_cases h2 : b = 0
   · simp [cmp_Or_int.f, cmp_Or_int.l0, rd, wrap64, h, h2]
   · simp [cmp_Or_int.f, cmp_Or_int.l0, rd, wrap64, h, h2]
 · simp [cmp_Or_int.f, cmp_Or_int.l0, rd, wrap64, h]
theorem or_three (a b c : Int) : Ev (fun k => cmp_Or_int.f k [a, b, c]) (or2 a (or2 b c)) := by
 refine Ev.of (fun k => cmp_Or_int.mono _ _) (k := 4) ?_
 show cmp_Or_int.f 4 [a, b, c] = _
 unfold or2
 by_cases h : a = 0
 · by_cases h2 : b = 0
   · by_cases h3 : c = 0
     · simp [cmp_Or_int.f, cmp_Or_int.l0, rd, wrap64, h, h2, h3]
     · simp [cmp_Or_int.f, cmp_Or_int.l0, rd, wrap64, h, h2, h3]
   · simp [cmp_Or_int.f, cmp_Or_int.l0, rd, wrap64, h, h2]
 · simp [cmp_Or_int.f, cmp_Or_int.l0, rd, wrap64, h]
theorem cmpB_eq : ∀ x y : List UInt8, Lib.compareBytes x y = if x = y then 0 else (if Op.bytesLess x y = true then -1 else 1)
 | [], [] => by simp [Lib.compareBytes]
 | [], _ :: _ => by simp [Lib.compareBytes, Op.bytesLess]
 | _ :: _, [] => by simp [Lib.compareBytes, Op.bytesLess]
 | a :: x, b :: y => by
  have ih := cmpB_eq x y
  unfold Lib.compareBytes Op.bytesLess
  by_cases h1 : a < b
  · have h3 : ¬ a = b := by rintro rfl; rw [UInt8.lt_iff_toNat_lt] at h1; omega
    simp [h1, h3]
  · by_cases h2 : b < a
    · have h3 : ¬ a = b := by rintro rfl; rw [UInt8.lt_iff_toNat_lt] at h2; omega
      simp [h1, h2, h3]
    · have h3 : a = b := by rw [UInt8.lt_iff_toNat_lt] at h1 h2; apply UInt8.toNat_inj.1; omega
      subst h3
      simp [h1, ih]
def ordR (a : List UInt8) (b c : Int) (x : List UInt8) (a' : List UInt8) (b' c' : Int) (x' : List UInt8) : Int := or2 (or2 (ordL a a') (cmpI b b')) (or2 (Lib.compareBytes x x') (cmpI c c'))
theorem good_bytes (b : Int) (d : ByteArray) (a : ByteArray) (c : Int) (ha : a.size ≤ 1048576) (hd : d.size ≤ 1048576) (h : Ev (fun k => impl_GoodRecord.f k a b c d) true) : ∃ x : ByteArray, Ev (fun k => spec_l3Bytes.f k b d) (x, true) ∧ Ev (fun k => impl_DataBytes.f k b d) (x, true) := by
 obtain ⟨r, q, r1, r2, q1, q2, hr, hs⟩ := goodrec_both a b c d ha hd
 have e := Ev.unique h r2
 subst e
 have hr := hr.symm
 rw [Bool.and_eq_true] at hr
 obtain ⟨x, y⟩ := q
 obtain rfl : y = true := hr.1
 exact ⟨x, q1, q2⟩
theorem implOrd_ev (a : ByteArray) (b c : Int) (d : ByteArray) (a' : ByteArray) (b' c' : Int) (d' x x' : ByteArray) (ha : a.size ≤ 1048576) (ha' : a'.size ≤ 1048576) (hx : Ev (fun k => impl_DataBytes.f k b d) (x, true)) (hx' : Ev (fun k => impl_DataBytes.f k b' d') (x', true)) :
 Ev (fun k => impl_compareRecords.f k a b c d a' b' c' d') (ordR a.data.toList b c x.data.toList a'.data.toList b' c' x'.data.toList) := by
 have hk : Ev (fun k => impl_compareKeys.f k a b c d a' b' c' d') (or2 (ordL a.data.toList a'.data.toList) (cmpI b b')) := by
  refine Ev.congr (fun k => rfl) (Ev.bind (implComp_ev a a' ha ha') ?_)
  simp only [cmpI_eq, Option.bind_some]
  exact Ev.bind (or_two _ _) (Ev.now _)
 have hd : ∀ {b : Int} {d x : ByteArray}, Ev (fun k => impl_DataBytes.f k b d) (x, true) → Ev (fun k => impl_dataBytes.f k b d) x := fun h => Ev.congr (fun k => rfl) (Ev.bind h (Ev.now _))
 refine Ev.congr (fun k => rfl) (Ev.bind hk (Ev.bind (hd hx) (Ev.bind (hd hx') ?_)))
 unfold strings_Compare.f
 simp only [cmpI_eq, Option.bind_some]
 exact Ev.bind (or_three _ _ _) (Ev.now _)
theorem less_eq (p : Bool) : spec_l3Less.f p = some (if p = true then -1 else 1) := by
 unfold spec_l3Less.f
 cases p <;> rfl
theorem cmpI_ne {a b : Int} (h : ¬ a = b) : cmpI a b = if decide (a < b) = true then -1 else 1 := by
 unfold cmpI
 by_cases h1 : a < b
 · rw [if_pos h1, if_pos (decide_eq_true h1)]
 · rw [if_neg h1, if_pos (by omega), if_neg (by simpa using h1)]
theorem cmpI_self (a : Int) : cmpI a a = 0 := by
 unfold cmpI
 rw [if_neg (by omega), if_neg (by omega)]
theorem specOrd_ev (a : ByteArray) (b c : Int) (d : ByteArray) (a' : ByteArray) (b' c' : Int) (d' x x' : ByteArray) (ha : a.size ≤ 1048576) (ha' : a'.size ≤ 1048576) (ga : goodL a.data.toList = true) (ga' : goodL a'.data.toList = true) (hx : Ev (fun k => spec_l3Bytes.f k b d) (x, true)) (hx' : Ev (fun k => spec_l3Bytes.f k b' d') (x', true)) :
 Ev (fun k => spec_l3Compare.f k a b c d a' b' c' d') (ordR a.data.toList b c x.data.toList a'.data.toList b' c' x'.data.toList) := by
 refine Ev.congr (fun k => rfl) (Ev.bind (specComp_ev a a' ha ha' ga ga') ?_)
 unfold ordR
 by_cases h0 : ordL a.data.toList a'.data.toList = 0
 · simp only [if_pos h0]
   refine Ev.bind hx (Ev.bind hx' ?_)
   simp only [less_eq, Option.bind_some]
   rw [h0]
   by_cases h1 : b = b'
   · subst h1
     simp only [if_true]
     rw [cmpI_self, cmpB_eq, Lib.toList_data, Lib.toList_data]
     by_cases h2 : x.data.toList = x'.data.toList
     · simp only [if_pos h2]
       by_cases h3 : c = c'
       · subst h3
         simp only [if_true]
         rw [cmpI_self]
         exact Ev.now _
       · simp only [if_neg h3]
         rw [cmpI_ne h3]
         exact Ev.now _
     · simp only [if_neg h2]
       by_cases h4 : Op.bytesLess x.data.toList x'.data.toList = true
       · simp only [if_pos h4]; exact Ev.now _
       · simp only [if_neg h4]; exact Ev.now _
   · simp only [if_neg h1]
     rw [cmpI_ne h1]
     by_cases h4 : decide (b < b') = true
     · simp only [if_pos h4]; exact Ev.now _
     · simp only [if_neg h4]; exact Ev.now _
 · simp only [if_neg h0]
   have e : ∀ y z : Int, or2 (or2 (ordL a.data.toList a'.data.toList) y) z = ordL a.data.toList a'.data.toList := fun y z => by
    unfold or2; rw [if_neg h0, if_neg h0]
   rw [e]
   exact Ev.now _
abbrev LRec := S71
abbrev IRec := S72
def conv (x : LRec) : IRec := ⟨x.f0, x.f1, x.f2, x.f3⟩
theorem rdL (l : List LRec) (i : Nat) (h : i < l.length) : rd_T71 l (i : Int) = l[i] := by
 unfold rd_T71
 rw [Int.toNat_natCast, List.getD_eq_getElem?_getD, List.getElem?_eq_getElem h, Option.getD_some]
theorem rdI (l : List IRec) (i : Nat) (h : i < l.length) : rd_T72 l (i : Int) = l[i] := by
 unfold rd_T72
 rw [Int.toNat_natCast, List.getD_eq_getElem?_getD, List.getElem?_eq_getElem h, Option.getD_some]
def Small (x : ByteArray) : Prop := x.size ≤ 1048576
theorem szRS_loop (l : List LRec) (hl : l.length < 1099511627776) (hs : ∀ y ∈ l, y.f0.size ≤ maxLen ∧ y.f3.size ≤ maxLen) : ∀ (m i : Nat) (left : Int), i + m = l.length → 0 ≤ left → left ≤ 1048576 →
 ∃ t, Ev (fun k => laws_szRecordS.l0 k l left (i : Int)) t ∧ (0 ≤ t → t ≤ left ∧ ∀ (j : Nat) (h : j < l.length), i ≤ j → l[j].f0.size ≤ 1048576 ∧ l[j].f3.size ≤ 1048576)
 | 0, i, left, hi, h0, h1 => by
  refine ⟨left, Ev.step (f := fun _ => some left) (fun k => ?_) (Ev.now _), fun _ => ⟨Int.le_refl _, fun j h hij => absurd h (by omega)⟩⟩
  show laws_szRecordS.l0 (k + 1) l left (i : Int) = _
  rw [laws_szRecordS.l0, if_neg (by omega)]
 | m + 1, i, left, hi, h0, h1 => by
  have hlt : i < l.length := by omega
  have hx := hs _ (List.getElem_mem hlt)
  obtain ⟨t, e, ht⟩ := szRecAt left h0 h1 l[i].f0 l[i].f1 l[i].f2 l[i].f3 hx.1 hx.2
  have hw : wrap64 ((i : Int) + 1) = ((i + 1 : Nat) : Int) := w64n (by omega)
  by_cases hn : t < 0
  · refine ⟨-1, Ev.step (f := fun _ => some (-1)) (fun k => ?_) (Ev.now _), fun h => absurd h (by omega)⟩
    show laws_szRecordS.l0 (k + 1) l left (i : Int) = _
    rw [laws_szRecordS.l0, if_pos (by omega), if_pos (by omega), rdL l i hlt, e, Option.bind_some, if_pos hn]
  · obtain ⟨g1, g2, g3⟩ := ht (by omega)
    obtain ⟨t', e', ht'⟩ := szRS_loop l hl hs m (i + 1) t (by omega) (by omega) (by omega)
    refine ⟨t', Ev.step (f := fun k => laws_szRecordS.l0 k l t ((i + 1 : Nat) : Int)) (fun k => ?_) e', fun h => ?_⟩
    · show laws_szRecordS.l0 (k + 1) l left (i : Int) = _
      rw [laws_szRecordS.l0, if_pos (by omega), if_pos (by omega), rdL l i hlt, e, Option.bind_some, if_neg hn, hw]
    · obtain ⟨q1, q2⟩ := ht' h
      refine ⟨by omega, fun j hj hij => ?_⟩
      by_cases c : j = i
      · subst c; exact ⟨g2, g3⟩
      · exact q2 j hj (by omega)
theorem szRS_ev (l : List LRec) (left : Int) (h0 : 0 ≤ left) (h1 : left ≤ 1048576) (hm : l.length ≤ maxLen) (hs : ∀ y ∈ l, y.f0.size ≤ maxLen ∧ y.f3.size ≤ maxLen) :
 ∃ t, Ev (fun k => laws_szRecordS.f k l left) t ∧ (0 ≤ t → t ≤ left ∧ l.length ≤ 1048576 ∧ ∀ y ∈ l, Small y.f0 ∧ Small y.f3) := by
 simp only [maxLen] at hm
 have hw : wrap64 (left - (l.length : Int)) = left - (l.length : Int) := by unfold wrap64; omega
 by_cases hn : left - (l.length : Int) < 0
 · refine ⟨-1, Ev.congr (f := fun _ => some (-1)) (fun k => ?_) (Ev.now _), fun h => absurd h (by omega)⟩
   unfold laws_szRecordS.f
   rw [hw, if_pos hn]
 · obtain ⟨t, e, ht⟩ := szRS_loop l (by omega) hs l.length 0 (left - (l.length : Int)) (by omega) (by omega) (by omega)
   refine ⟨t, Ev.congr (fun k => ?_) e, fun h => ?_⟩
   · unfold laws_szRecordS.f
     rw [hw, if_neg hn]
     rfl
   · obtain ⟨q1, q2⟩ := ht h
     refine ⟨by omega, by omega, fun y hy => ?_⟩
     obtain ⟨j, hj, rfl⟩ := List.mem_iff_getElem.1 hy
     exact q2 j hj (Nat.zero_le _)
theorem toRS_loop (l : List LRec) (hl : l.length < 1099511627776) : ∀ (m i : Nat) (out : List IRec), i + m = l.length → out = (l.take i).map conv ++ List.replicate m z72 → Ev (fun k => laws_toRecordS.l0 k l out (i : Int)) (l.map conv)
 | 0, i, out, hi, ho => by
  refine Ev.step (f := fun _ => some (l.map conv)) (fun k => ?_) (Ev.now _)
  show laws_toRecordS.l0 (k + 1) l out (i : Int) = _
  rw [laws_toRecordS.l0, if_neg (by omega), ho, List.take_of_length_le (by omega)]
  simp
 | m + 1, i, out, hi, ho => by
  have hlt : i < l.length := by omega
  have hw : wrap64 ((i : Int) + 1) = ((i + 1 : Nat) : Int) := w64n (by omega)
  have hlen : ((l.take i).map conv).length = i := by rw [List.length_map, List.length_take]; omega
  have ih := toRS_loop l hl m (i + 1) (out.set i (conv l[i])) (by omega) (by
   rw [ho, List.set_append_right _ _ (by omega), hlen, Nat.sub_self, List.take_succ_eq_append_getElem hlt, List.map_append, List.append_assoc]
   rfl)
  refine Ev.step (f := fun k => laws_toRecordS.l0 k l (out.set i (conv l[i])) ((i + 1 : Nat) : Int)) (fun k => ?_) ih
  show laws_toRecordS.l0 (k + 1) l out (i : Int) = _
  have ho2 : out.length = l.length := by rw [ho, List.length_append, hlen, List.length_replicate]; omega
  rw [laws_toRecordS.l0, if_pos (by omega), if_pos (by omega), rdL l i hlt]
  unfold laws_toRecord.f
  rw [Option.bind_some, if_pos (by omega), hw, Int.toNat_natCast]
  rfl
theorem toRS_ev (l : List LRec) (hl : l.length ≤ 1048576) : Ev (fun k => laws_toRecordS.f k l) (l.map conv) := by
 refine Ev.congr (fun k => ?_) (toRS_loop l (by omega) l.length 0 (List.replicate l.length z72) (by omega) (by simp))
 unfold laws_toRecordS.f
 rw [if_pos (by omega), Int.toNat_natCast, if_pos (by omega)]
 rfl
theorem eqRec_self (x : IRec) : laws_eqRecord.f x.f0 x.f1 x.f2 x.f3 x.f0 x.f1 x.f2 x.f3 = some true := by
 unfold laws_eqRecord.f
 simp
theorem eqRS_loop (l : List IRec) (hl : l.length < 1099511627776) : ∀ (m i : Nat), i + m = l.length → Ev (fun k => laws_eqRecordS.l0 k l l (i : Int)) true
 | 0, i, hi => by
  refine Ev.step (f := fun _ => some true) (fun k => ?_) (Ev.now _)
  show laws_eqRecordS.l0 (k + 1) l l (i : Int) = _
  rw [laws_eqRecordS.l0, if_neg (by omega)]
 | m + 1, i, hi => by
  have hlt : i < l.length := by omega
  have hw : wrap64 ((i : Int) + 1) = ((i + 1 : Nat) : Int) := w64n (by omega)
  refine Ev.step (f := fun k => laws_eqRecordS.l0 k l l ((i + 1 : Nat) : Int)) (fun k => ?_) (eqRS_loop l hl m (i + 1) (by omega))
  show laws_eqRecordS.l0 (k + 1) l l (i : Int) = _
  rw [laws_eqRecordS.l0, if_pos (by omega), if_pos (by omega), if_pos (by omega), eqRec_self, Option.bind_some, if_pos rfl, hw]
theorem eqRS_ev (l : List IRec) (hl : l.length ≤ 1048576) : Ev (fun k => laws_eqRecordS.f k l l) true := by
 refine Ev.congr (fun k => ?_) (eqRS_loop l (by omega) l.length 0 (by omega))
 unfold laws_eqRecordS.f
 rw [if_pos rfl]
 rfl
theorem small_conv {l : List LRec} (h : ∀ y ∈ l, Small y.f0 ∧ Small y.f3) : ∀ y ∈ l.map conv, Small y.f0 ∧ Small y.f3 := by
 intro y hy
 obtain ⟨x, hx, rfl⟩ := List.mem_map.1 hy
 exact h x hx
theorem num_one (n : Int) (h0 : 0 ≤ n) (h9 : n < 10) : strOfNums [(wrap64 (48 + n)) % 256] = mkB [UInt8.ofNat (48 + n.toNat)] := by
 have e : wrap64 (48 + n) % 256 = ((48 + n.toNat : Nat) : Int) := by unfold wrap64; omega
 rw [e]
 show strOfNums [((48 + n.toNat : Nat) : Int)] = mkB [UInt8.ofNat (((48 + n.toNat : Nat) : Int).toNat)]
 rfl
theorem mkB_app (p q : List UInt8) : mkB p ++ mkB q = mkB (p ++ q) := by
 apply ByteArray.ext
 simp [mkB, ByteArray.append]
theorem digits_len (u : Nat) (h : u < 9223372036854775807) : (Lib.decDigits u).length ≤ 21 := by
 have := Lib.itoa_length_le (u : Int) (by omega) (by omega)
 rwa [Lib.itoa_nonneg] at this
theorem num_ev : ∀ (n u : Nat), u ≤ n → u < 9223372036854775807 → Ev (fun k => spec_l1Num.f k (u : Int)) (mkB (Lib.decDigits u))
 | n, u, hn, hu => by
  by_cases h10 : u < 10
  · refine Ev.step (f := fun _ => some (mkB (Lib.decDigits u))) (fun k => ?_) (Ev.now _)
    show spec_l1Num.f (k + 1) (u : Int) = _
    unfold spec_l1Num.f
    rw [if_pos (by omega), num_one _ (by omega) (by omega), Lib.decDigits_one h10, Int.toNat_natCast]
  · cases n with
    | zero => omega
    | succ n =>
     have ih := num_ev n (u / 10) (by omega) (by omega)
     have hlen := digits_len (u / 10) (by omega)
     have e1 : wrap64 (Int.tdiv (u : Int) 10) = ((u / 10 : Nat) : Int) := by
      rw [Int.tdiv_eq_ediv_of_nonneg (by omega), show (u : Int) / 10 = ((u / 10 : Nat) : Int) by omega]
      unfold wrap64; omega
     have e2 : Int.tmod (u : Int) 10 = ((u % 10 : Nat) : Int) := by
      rw [Int.tmod_eq_emod_of_nonneg (by omega)]
      omega
     rw [← e1] at ih
     refine Ev.step (f := fun k => (spec_l1Num.f k (wrap64 (Int.tdiv u 10))).bind fun t285 => ((some (([(wrap64 (48 + (Int.tmod u 10))) % 256] : List Int) : List Int)).bind fun y286 => (if t285.size + (strOfNums y286).size ≤ 9223372036854775807 then (some (t285 ++ (strOfNums y286))) else (none)))) (fun k => ?_) (Ev.bind ih ?_)
     · show spec_l1Num.f (k + 1) (u : Int) = _
       rw [spec_l1Num.f, if_neg (by omega)]
     · simp only [Option.bind_some]
       rw [e2, num_one _ (by omega) (by omega), Int.toNat_natCast, mkB_size, mkB_size]
       simp only [if_pos (show (Lib.decDigits (u / 10)).length + [UInt8.ofNat (48 + u % 10)].length ≤ 9223372036854775807 by simp only [List.length_cons, List.length_nil]; omega)]
       rw [mkB_app, show Lib.decDigits (u / 10) ++ [UInt8.ofNat (48 + u % 10)] = Lib.decDigits u by rw [Lib.decDigits.eq_1 u, dif_neg h10]]
       exact Ev.now _
def toldB (a : ByteArray) : ByteArray := if a.toList = ([] : List UInt8) then (⟨#[46]⟩ : ByteArray) else a
def itB (n : Int) : ByteArray := mkB (Lib.decDigits n.toNat)
def rtext (a : ByteArray) (b c : Int) (d : ByteArray) : ByteArray := (((((toldB a ++ (⟨#[32]⟩ : ByteArray)) ++ itB c) ++ (⟨#[32]⟩ : ByteArray)) ++ itB b) ++ (⟨#[32]⟩ : ByteArray)) ++ d
end Go.Proofs.YtkpkfallgjdkmaaGreatDoor.Pure
