/- FnExactRuleOf: part 20 of 26 of my texts for this claim, joined; the theorem stands in the last. Conditions: none beyond the statement's. -/
import Derived.Test.YtkpkfallgjdkmaaGreatDoorMFnExactRuleOfx18
import Derived.Test.YtkpkfallgjdkmaaGreatDoorMFnExactRuleOfx14
import Derived.Test.YtkpkfallgjdkmaaGreatDoorMFnExactRuleOfx8
import Derived.Test.YtkpkfallgjdkmaaGreatDoorMFnExactRuleOfx3
import Derived.Test.YtkpkfallgjdkmaaGreatDoorMFnExactRuleOfx2
import Derived.Test.YtkpkfallgjdkmaaGreatDoorMFnExactRuleOfx15
import Derived.Test.YtkpkfallgjdkmaaGreatDoorMFnExactRuleOfx17
import Derived.Shelf.Small.Strs
import Derived.Test.YtkpkfallgjdkmaaGreatDoorProg
namespace Go.Proofs.YtkpkfallgjdkmaaGreatDoor.Pure
open Go.RowKit Go.Proofs.YtkpkfallgjdkmaaGreatDoor.P Go.Proofs.YtkpkfallgjdkmaaGreatDoorW.PrintWords Go.Proofs.YtkpkfallgjdkmaaGreatDoorW.PrintLast Go.Proofs.YtkpkfallgjdkmaaGreatDoorW.PrintMore
set_option linter.unusedVariables false
set_option linter.unusedSimpArgs false
theorem a_small : ∀ (k i : Nat) (parts : List ByteArray) (out x : ByteArray), impl_DataBytes.l0 k parts out (i : Int) = some (x, true) → (∀ y ∈ parts, y.size ≤ 1048576) → parts.length < 1099511627776 → (i < parts.length → parts.length = 4) ∧ ∀ j (h : j < parts.length), i ≤ j → parts[j].size ≤ 10
  | 0, i, parts, out, x, h, hs, hl => by simp [impl_DataBytes.l0] at h
  | k + 1, i, parts, out, x, h, hs, hl => by
    unfold impl_DataBytes.l0 at h
    by_cases c1 : (i : Int) < (parts.length : Int)
    · have hi : i < parts.length := by omega
      have hsz := hs _ (List.getElem_mem hi)
      obtain ⟨v, hn1, hn2⟩ := number_eq parts[i] 255 (by omega) (by omega) (by omega)
      rw [if_pos c1, if_pos (by omega), td_rd parts i hi, hn1, Option.bind_some] at h
      by_cases hb : (canL parts[i].data.toList && decide ((valL parts[i].data.toList : Int) ≤ 255)) = true
      · rw [if_pos hb] at h
        by_cases h4 : (parts.length : Int) = 4
        · rw [if_pos h4] at h
          obtain ⟨t, ht, h⟩ := Option.bind_eq_some_iff.mp h
          by_cases ho : out.size + t.size ≤ 9223372036854775807
          · rw [if_pos ho, w64n (by omega)] at h
            have ih := a_small k (i + 1) parts _ x h hs hl
            refine ⟨fun _ => by omega, fun j hj hij => ?_⟩
            by_cases e : j = i
            · subst e
              rw [Bool.and_eq_true] at hb
              have hc := hb.1
              unfold canL at hc
              simp only [Bool.and_eq_true, decide_eq_true_eq] at hc
              rw [size_len]
              exact hc.1.1.2
            · exact ih.2 j hj (by omega)
          · rw [if_neg ho] at h; cases h
        · rw [if_neg h4] at h
          cases (Prod.mk.inj (Option.some.inj h)).2
      · rw [if_neg hb] at h
        cases (Prod.mk.inj (Option.some.inj h)).2
    · exact ⟨fun h2 => absurd h2 (by omega), fun j hj hij => absurd hj (by omega)⟩
theorem sum_le : ∀ l : List (List UInt8), (∀ p ∈ l, p.length ≤ 10) → (l.map fun p => 1 + p.length).sum ≤ 11 * l.length
  | [], _ => Nat.le_refl _
  | x :: r, h => by
    have ih := sum_le r fun p hp => h p (List.mem_cons_of_mem _ hp)
    have hx := h x List.mem_cons_self
    rw [List.map_cons, List.sum_cons, List.length_cons]
    omega
theorem can_len {l : List UInt8} {m : Int} (h : (canL l && decide ((valL l : Int) ≤ m)) = true) : l.length ≤ 10 := by
  rw [Bool.and_eq_true] at h
  have hc := h.1
  unfold canL at hc
  simp only [Bool.and_eq_true, decide_eq_true_eq] at hc
  exact hc.1.1.2
theorem cut_sizes {s q1 q2 : ByteArray} {q3 : Bool} (hs : s.size ≤ 1048576) (h : strings_Cut.f s (⟨#[32]⟩ : ByteArray) = some (q1, q2, q3)) : q1.size + q2.size ≤ s.size ∧ s.size ≤ q1.size + q2.size + 1 := by
  unfold strings_Cut.f stringslite_Cut.f internal_stringslite_Index.f at h
  rw [if_pos (show (⟨#[32]⟩ : ByteArray).size = 1 from rfl)] at h
  simp only [Option.bind_some] at h
  rw [show List.headD (⟨#[32]⟩ : ByteArray).data.toList 0 = 32 from rfl, show (⟨#[32]⟩ : ByteArray).size = 1 from rfl] at h
  rcases place_or 32 s.data.toList with ⟨h1, _⟩ | ⟨p, r, h1, _, h3⟩
  · rw [h1, if_neg (by omega)] at h
    simp only [Option.bind_some, Option.some.injEq, Prod.mk.injEq] at h
    obtain ⟨rfl, rfl, _⟩ := h
    exact ⟨Nat.le_refl _, by show s.size ≤ s.size + 0 + 1; omega⟩
  · have hl : p.length + (r.length + 1) = s.size := by rw [size_len, h1]; simp
    rw [h3, show (((1 : Nat) : Int)) = 1 from rfl, w64n (by omega), if_pos (by omega), if_pos (by omega), if_pos (by omega), if_pos (by omega), if_pos (by omega), Int.toNat_natCast, Int.toNat_natCast] at h
    simp only [Option.bind_some, Option.some.injEq, Prod.mk.injEq] at h
    obtain ⟨rfl, rfl, _⟩ := h
    rw [ByteArray.size_extract, ByteArray.size_extract]
    omega
theorem data_small {k : Nat} {kind : Int} {s x : ByteArray} (hs : s.size ≤ 1048576) (h : impl_DataBytes.f k kind s = some (x, true)) : s.size ≤ 100 := by
  unfold impl_DataBytes.f at h
  by_cases c1 : kind = 1
  · rw [if_pos c1] at h
    have hsp : strings_Split.f s (⟨#[46]⟩ : ByteArray) = some ((splitL 46 s.data.toList).map mkB) := by
      unfold strings_Split.f
      rw [if_pos (show (⟨#[46]⟩ : ByteArray).size = 1 from rfl), if_pos (by omega)]
      rfl
    rw [hsp, Option.bind_some] at h
    have hne := splitL_ne 46 s.data.toList
    have hpl : 0 < (splitL 46 s.data.toList).length := List.length_pos_iff.2 hne
    have hlen : (splitL 46 s.data.toList).length ≤ s.size + 1 := by rw [size_len]; exact splitL_len _ _
    have hg := a_small k 0 _ _ _ h (by
      intro y hy
      obtain ⟨q, hq, rfl⟩ := List.mem_map.1 hy
      have := splitL_part 46 _ q hq
      rw [← size_len] at this
      rw [mkB_size]
      omega) (by rw [List.length_map]; omega)
    have h4 := hg.1 (by rw [List.length_map]; exact hpl)
    rw [List.length_map] at h4
    have hsum := sum_le (splitL 46 s.data.toList) (by
      intro p hp
      obtain ⟨j, hj, rfl⟩ := List.mem_iff_getElem.1 hp
      have := hg.2 j (by rw [List.length_map]; exact hj) (Nat.zero_le _)
      rw [List.getElem_map, mkB_size] at this
      exact this)
    rw [split_sum, h4, ← size_len] at hsum
    omega
  · rw [if_neg c1] at h
    by_cases c2 : kind = 2 ∨ kind = 5
    · rw [if_pos c2] at h
      unfold dataNs at h
      rw [target_impl, Option.bind_some] at h
      by_cases ht : targL s.data.toList = true
      · have := good_size (targ_good ht)
        rw [← size_len] at this
        omega
      · rw [if_neg ht] at h
        cases (Prod.mk.inj (Option.some.inj h)).2
    · rw [if_neg c2] at h
      by_cases c6 : kind = 6
      · rw [if_pos c6] at h
        unfold dataSoa at h
        obtain ⟨v, hn1, _⟩ := number_eq s 4294967295 (by omega) (by omega) (by omega)
        rw [hn1, Option.bind_some] at h
        by_cases hb : (canL s.data.toList && decide ((valL s.data.toList : Int) ≤ 4294967295)) = true
        · have := can_len hb
          rw [← size_len] at this
          omega
        · rw [if_neg hb] at h
          cases (Prod.mk.inj (Option.some.inj h)).2
      · rw [if_neg c6] at h
        by_cases c15 : kind = 15
        · rw [if_pos c15] at h
          unfold dataMx at h
          obtain ⟨⟨q1, q2, q3⟩, hc, h⟩ := Option.bind_eq_some_iff.mp h
          have hcut : q1.size + q2.size ≤ s.size ∧ s.size ≤ q1.size + q2.size + 1 := cut_sizes hs hc
          obtain ⟨v, hn1, _⟩ := number_eq q1 65535 (by omega) (by omega) (by omega)
          rw [hn1, Option.bind_some] at h
          by_cases hb : (canL q1.data.toList && decide ((valL q1.data.toList : Int) ≤ 65535)) = true
          · rw [if_pos hb, target_impl, Option.bind_some] at h
            by_cases ht : targL q2.data.toList = true
            · have h1 := good_size (targ_good ht)
              have h2 := can_len hb
              rw [← size_len] at h1 h2
              omega
            · rw [if_neg ht] at h
              cases (Prod.mk.inj (Option.some.inj h)).2
          · rw [if_neg hb] at h
            cases (Prod.mk.inj (Option.some.inj h)).2
        · rw [if_neg c15] at h
          by_cases c16 : kind = 16
          · rw [if_pos c16] at h
            unfold dataTxt at h
            by_cases h30 : (s.size : Int) > 30
            · rw [if_pos h30] at h
              cases (Prod.mk.inj (Option.some.inj h)).2
            · omega
          · rw [if_neg c16] at h
            cases (Prod.mk.inj (Option.some.inj h)).2
/-- DataBytes, from its parts. -/
theorem data_full (kind : Int) (s : ByteArray) (hs : s.size ≤ 1048576) : ∃ q, Ev (fun k => spec_l3Bytes.f k kind s) q ∧ Ev (fun k => impl_DataBytes.f k kind s) (if q.2 = true then (q.1, true) else badD) ∧ (q.2 = true → s.size ≤ 100) := by
  obtain ⟨r, ⟨K, h1⟩, h2⟩ := data_both kind s hs
  have h1 : specData K kind s = some r := h1 K (Nat.le_refl _)
  unfold specData at h1
  obtain ⟨q, hq, h1⟩ := Option.bind_eq_some_iff.mp h1
  have hQ : Ev (fun k => spec_l3Bytes.f k kind s) q := Ev.of (fun k => spec_l3Bytes.mono _ _ _) (k := K) hq
  have er : (if q.2 = true then (q.1, true) else badD) = r := by
    by_cases hq2 : q.2 = true
    · rw [if_pos hq2] at h1 ⊢
      exact Option.some.inj h1
    · rw [if_neg hq2] at h1 ⊢
      exact Option.some.inj h1
  refine ⟨q, hQ, by rw [er]; exact h2, fun hq2 => ?_⟩
  rw [if_pos hq2] at er
  obtain ⟨K2, h2⟩ := h2
  have h3 : impl_DataBytes.f K2 kind s = some r := h2 K2 (Nat.le_refl _)
  rw [← er] at h3
  exact data_small hs h3
theorem goodrec_both (a : ByteArray) (b c : Int) (d : ByteArray) (ha : a.size ≤ 1048576) (hd : d.size ≤ 1048576) : ∃ r q, Ev (fun k => spec_GoodRecord.f k a b c d) r ∧ Ev (fun k => impl_GoodRecord.f k a b c d) r ∧ Ev (fun k => spec_l3Bytes.f k b d) q ∧ Ev (fun k => impl_DataBytes.f k b d) (if q.2 = true then (q.1, true) else badD) ∧ r = (q.2 && (goodL a.data.toList && decide (0 ≤ c ∧ c ≤ 100000))) ∧ (q.2 = true → d.size ≤ 100) := by
  obtain ⟨q, q1, q2, q3⟩ := data_full b d hd
  refine ⟨q.2 && (goodL a.data.toList && decide (0 ≤ c ∧ c ≤ 100000)), q, ?_, ?_, q1, q2, rfl, q3⟩
  · refine Ev.congr (fun k => rfl) (Ev.bind q1 ?_)
    cases hq : q.2 with
    | false => exact Ev.now _
    | true =>
      refine Ev.bind (specGood_ev a (by omega)) ?_
      cases hg : goodL a.data.toList with
      | false => exact Ev.now _
      | true =>
        simp only [if_true, within_spec, Option.bind_some, Bool.true_and]
        exact Ev.now _
  · cases hg : goodL a.data.toList with
    | false =>
      rw [Bool.false_and, Bool.and_false]
      refine Ev.congr (fun k => ?_) (Ev.now _)
      unfold impl_GoodRecord.f impl_GoodName.f
      rw [hg]
      rfl
    | true =>
      by_cases hc : 0 ≤ c ∧ c ≤ 100000
      · rw [decide_eq_true hc, Bool.true_and, Bool.and_true]
        by_cases h100 : (d.size : Int) > 100
        · have hf : q.2 = false := by
            rw [Bool.eq_false_iff]
            intro h
            have := q3 h
            omega
          rw [hf]
          refine Ev.congr (fun k => ?_) (Ev.now _)
          unfold impl_GoodRecord.f impl_GoodName.f
          rw [hg, Option.bind_some, if_pos rfl, within_eq, Option.bind_some, decide_eq_true hc, if_pos rfl, if_pos h100]
        · refine Ev.congr (f := fun k => (impl_DataBytes.f k b d).bind fun bt237 => (some bt237.2)) (fun k => ?_) (Ev.bind q2 ?_)
          · unfold impl_GoodRecord.f impl_GoodName.f
            rw [hg, Option.bind_some, if_pos rfl, within_eq, Option.bind_some, decide_eq_true hc, if_pos rfl, if_neg h100]
          · cases q.2 with
            | false => exact Ev.now _
            | true => exact Ev.now _
      · rw [decide_eq_false hc, Bool.and_false, Bool.and_false]
        refine Ev.congr (fun k => ?_) (Ev.now _)
        unfold impl_GoodRecord.f impl_GoodName.f
        rw [hg, Option.bind_some, if_pos rfl, within_eq, Option.bind_some, decide_eq_false hc, if_neg (by simp)]
theorem data_kind {k : Nat} {kind : Int} {s x : ByteArray} (h : impl_DataBytes.f k kind s = some (x, true)) : 1 ≤ kind ∧ kind ≤ 16 := by
  unfold impl_DataBytes.f at h
  by_cases c : 1 ≤ kind ∧ kind ≤ 16
  · exact c
  · rw [if_neg (by omega), if_neg (by omega), if_neg (by omega), if_neg (by omega), if_neg (by omega)] at h
    cases (Prod.mk.inj (Option.some.inj h)).2
/-- A good record: its parts. -/
theorem good_parts (a : ByteArray) (b c : Int) (d : ByteArray) (ha : a.size ≤ 1048576) (hd : d.size ≤ 1048576) (h : Ev (fun k => impl_GoodRecord.f k a b c d) true) : a.size ≤ 60 ∧ goodL a.data.toList = true ∧ (1 ≤ b ∧ b ≤ 16) ∧ (0 ≤ c ∧ c ≤ 100000) ∧ d.size ≤ 100 := by
  obtain ⟨r, q, r1, r2, q1, ⟨K, q2⟩, hr, hs⟩ := goodrec_both a b c d ha hd
  have e := Ev.unique h r2
  subst e
  have hr := hr.symm
  rw [Bool.and_eq_true, Bool.and_eq_true, decide_eq_true_eq] at hr
  have hK : impl_DataBytes.f K b d = some (if q.2 = true then (q.1, true) else badD) := q2 K (Nat.le_refl _)
  rw [if_pos hr.1] at hK
  have := good_size hr.2.1
  rw [← size_len] at this
  exact ⟨this, hr.2.1, data_kind hK, hr.2.2, hs hr.1⟩
/-- A record's size, out of what is left. -/
theorem szRecAt (left : Int) (h0 : 0 ≤ left) (h1 : left ≤ 1048576) (a : ByteArray) (b c : Int) (d : ByteArray) (ha : a.size ≤ maxLen) (hd : d.size ≤ maxLen) : ∃ t, laws_szRecord.f a b c d left = some t ∧ (0 ≤ t → t ≤ left ∧ a.size ≤ 1048576 ∧ d.size ≤ 1048576) := by
  simp only [maxLen] at ha hd
  have h2 : wrap64 (left - (a.size : Int)) = left - (a.size : Int) := by unfold wrap64; omega
  unfold laws_szRecord.f
  rw [h2]
  by_cases c1 : left - (a.size : Int) < 0
  · exact ⟨-1, by rw [if_pos c1], fun h => by omega⟩
  · have h3 : wrap64 (left - (a.size : Int) - (d.size : Int)) = left - (a.size : Int) - (d.size : Int) := by unfold wrap64; omega
    rw [h3]
    by_cases c2 : left - (a.size : Int) - (d.size : Int) < 0
    · exact ⟨-1, by rw [if_neg c1, if_pos c2], fun h => by omega⟩
    · exact ⟨_, by rw [if_neg c1, if_neg c2], fun h => by omega⟩
end Go.Proofs.YtkpkfallgjdkmaaGreatDoor.Pure
namespace Go.Proofs.YtkpkfallgjdkmaaGreatDoor.P
open Go.RowKit Go.Proofs.YtkpkfallgjdkmaaGreatDoorW.PrintWords Go.Proofs.YtkpkfallgjdkmaaGreatDoorW.PrintLast Go.Proofs.YtkpkfallgjdkmaaGreatDoorW.PrintMore
attribute [local go_sem] max2_int min2_int max_two min_two max_three min_three max_four min_four
set_option linter.unusedVariables false
set_option linter.unusedSimpArgs false
def cmp_Or_int.l0 : Nat → Int → List Int → Int → Int → Option (Int)
  | 0, _, _, _, _ => none
  | k + 1, x3, x6, x7, x8 => if x8 < x7 then (if 0 ≤ x8 then (if x8 < (x6.length : Int) then (if (rd x6 x8) = x3 then (cmp_Or_int.l0 k x3 x6 x7 (wrap64 (x8 + 1))) else (some (rd x6 x8))) else (none)) else (none)) else (some x3)
def cmp_Or_int.f (k : Nat) (l0 : List Int) : Option (Int) := cmp_Or_int.l0 k 0 l0 (l0.length : Int) 0
theorem cmp_Or_int.mono_l : ∀ k, (∀ y0 y1 y2 y3, LeO (cmp_Or_int.l0 k y0 y1 y2 y3) (cmp_Or_int.l0 (k + 1) y0 y1 y2 y3))
  | 0 => fun _ _ _ _ r h => by simp [cmp_Or_int.l0] at h
  | k + 1 => by
    have ih0 := cmp_Or_int.mono_l k
    · intro y0 y1 y2 y3
      unfold cmp_Or_int.l0
      repeat' first
      | (with_reducible exact ih0 _ _ _ _)
      | (with_reducible exact LeO.refl _)
      | (with_reducible exact LeO.none _)
      | (with_reducible refine LeO.ite ?_ ?_)
      | (with_reducible refine LeO.bind ?_ (fun _ => ?_))
      | exact ih0 _ _ _ _
      | exact LeO.none _
      | refine LeO.ite ?_ ?_
      | refine LeO.bind ?_ (fun _ => ?_)
theorem cmp_Or_int.mono : ∀ a0 k, LeO (cmp_Or_int.f k a0) (cmp_Or_int.f (k + 1) a0) := by
  intro a0 k
  have ih0 := cmp_Or_int.mono_l k
  unfold cmp_Or_int.f
  repeat' first
      | (with_reducible exact ih0 _ _ _ _)
      | (with_reducible exact LeO.refl _)
      | (with_reducible exact LeO.none _)
      | (with_reducible refine LeO.ite ?_ ?_)
      | (with_reducible refine LeO.bind ?_ (fun _ => ?_))
      | exact ih0 _ _ _ _
      | exact LeO.none _
      | refine LeO.ite ?_ ?_
      | refine LeO.bind ?_ (fun _ => ?_)
set_option maxHeartbeats 8000000 in
set_option maxRecDepth 100000 in
theorem cmp_Or_int.calls (k : Nat) (A0 : Option Addr) (c0 : Nat) (l0 : List Int) (r : Int) (w : World) (hr0 : Kd.C (Kd.int .i64) w A0 l0.length l0) (hc0 : l0.length ≤ c0) (h : cmp_Or_int.f k l0 = some r) :
    Calls Tryz.prog 127 #[.slice A0 l0.length c0] w fun e w' => e = .returned (.int .i64 r) ∧ Drawn0 w w' := by
  have HR0 := a0_ hr0
  have HC0 := a0_ hc0
  clear hr0 hc0
  have H : (cmp_Or_int.l0 k 0 l0 (l0.length : Int) 0) = some r := h
  clear h
  have H' := a0_ H
  clear H
  go_enter Tryz.func127, Tryz.ntmps127
  go_wp2
  go_loopg [8] k (fun kq v8 w' => ∃ (x8_1 : Int), v8 = .int .i64 x8_1 ∧ Aside0 (cmp_Or_int.l0 kq 0 l0 (l0.length : Int) x8_1 = some r) ∧ Aside0 (kq ≤ k) ∧ Drawn0 w w')
  case atStart => exact ⟨(0), (by first | rfl | (simp; done) | (simp [*]; done)), H', ⟨Nat.le_refl _⟩, by repeat (first | exact Drawn0.refl _ | apply Drawn0.step)⟩
  case round =>
    clear H'
    try clear c1
    obtain ⟨x8_1, rfl, HA, HK1, ⟨m1, rfl⟩⟩ := hrel
    cases gk with
    | zero => exact absurd HA.out (by simp [cmp_Or_int.l0])
    | succ k1 =>
      have H := HA.out
      clear HA
      simp only [cmp_Or_int.l0] at H
      by_cases c2 : x8_1 < (l0.length : Int)
      · rw [if_pos c2] at H
        have c2b0 : decide (x8_1 < (l0.length : Int)) = true := decide_eq_true c2
        clear c2
        by_cases c3 : 0 ≤ x8_1
        · rw [if_pos c3] at H
          have c3b0 : decide (0 ≤ x8_1) = true := decide_eq_true c3
          clear c3
          by_cases c4 : x8_1 < (l0.length : Int)
          · rw [if_pos c4] at H
            have c4b0 : decide (x8_1 < (l0.length : Int)) = true := decide_eq_true c4
            clear c4
            by_cases c5 : (rd l0 x8_1) = 0
            · rw [if_pos c5] at H
              have c5b0 : ((rd l0 x8_1) == 0) = true := beq_iff_eq.mpr c5
              have c5b1 : ((rd l0 x8_1) != 0) = false := bne_eq_false_iff_eq.mpr c5
              clear c5
              have H' := a0_ H
              clear H
              have p554 : 0 ≤ (x8_1 : Int) := dec_
              have q554 : x8_1 < (l0.length : Int) := dec_
              obtain ⟨ad554, e554, hx554_0⟩ := Kd.at_int HR0.out x8_1 p554 q554
              cases e554
              replace p554 := eq_true p554
              replace q554 := eq_true q554
              go_wp2
              go_roundg k1
              case measure => have := HK1.out; omega
              case rel => exact ⟨(wrap64 (x8_1 + 1)), (by first | rfl | (simp; done) | (simp [*]; done)), H', ⟨by have := HK1.out; omega⟩, by repeat (first | exact Drawn0.refl _ | apply Drawn0.step)⟩
            · rw [if_neg c5] at H
              have c5b0 : ((rd l0 x8_1) == 0) = false := beq_eq_false_iff_ne.mpr c5
              have c5b1 : ((rd l0 x8_1) != 0) = true := bne_iff_ne.mpr c5
              obtain rfl := Option.some.inj H
              have p554 : 0 ≤ (x8_1 : Int) := dec_
              have q554 : x8_1 < (l0.length : Int) := dec_
              obtain ⟨ad554, e554, hx554_0⟩ := Kd.at_int HR0.out x8_1 p554 q554
              cases e554
              replace p554 := eq_true p554
              replace q554 := eq_true q554
              go_wp2
              go_ret
              exact ⟨by first | rfl | (simp; done) | (simp [*]; done), by repeat (first | exact Drawn0.refl _ | apply Drawn0.step)⟩
          · rw [if_neg c4] at H
            exact absurd H (by simp)
        · rw [if_neg c3] at H
          exact absurd H (by simp)
      · rw [if_neg c2] at H
        have c2b0 : decide (x8_1 < (l0.length : Int)) = false := decide_eq_false c2
        clear c2
        obtain rfl := Option.some.inj H
        go_wp2
        go_ret
        exact ⟨by first | rfl | (simp; done) | (simp [*]; done), by repeat (first | exact Drawn0.refl _ | apply Drawn0.step)⟩
def cmp_isNaN_int.f (a0 : Int) : Option (Bool) := some (a0 != a0)
set_option maxHeartbeats 8000000 in
set_option maxRecDepth 100000 in
theorem cmp_isNaN_int.calls (a0 : Int) (r : Bool) (w : World) (h : cmp_isNaN_int.f a0 = some r) :
    Calls Tryz.prog 152 #[.int .i64 a0] w fun e w' => e = .returned (.bool r) ∧ Drawn0 w w' := by
  have H : (some (a0 != a0)) = some r := h
  clear h
  obtain rfl := Option.some.inj H
  go_enter Tryz.func152, Tryz.ntmps152
  go_wp2
  go_ret
  exact ⟨by first | rfl | (simp; done) | (simp [*]; done), by repeat (first | exact Drawn0.refl _ | apply Drawn0.step)⟩
def cmp_Compare_int.f (a0 : Int) (a1 : Int) : Option (Int) := (cmp_isNaN_int.f a0).bind fun t555 => ((cmp_isNaN_int.f a1).bind fun t556 => (if t555 = true then (if t556 = true then (some 0) else (some (-1))) else (if t556 = true then (some 1) else (if a0 < a1 then (some (-1)) else (if a0 > a1 then (some 1) else (some 0))))))
set_option maxHeartbeats 8000000 in
set_option maxRecDepth 100000 in
theorem cmp_Compare_int.calls (a0 : Int) (a1 : Int) (r : Int) (w : World) (h : cmp_Compare_int.f a0 a1 = some r) :
    Calls Tryz.prog 131 #[.int .i64 a0, .int .i64 a1] w fun e w' => e = .returned (.int .i64 r) ∧ Drawn0 w w' := by
  have H : ((cmp_isNaN_int.f a0).bind fun t555 => ((cmp_isNaN_int.f a1).bind fun t556 => (if t555 = true then (if t556 = true then (some 0) else (some (-1))) else (if t556 = true then (some 1) else (if a0 < a1 then (some (-1)) else (if a0 > a1 then (some 1) else (some 0))))))) = some r := h
  clear h
  replace H := Option.bind_eq_some_iff.mp H
  obtain ⟨t555, A30, H⟩ := H
  replace H : ((cmp_isNaN_int.f a1).bind fun t556 => (if t555 = true then (if t556 = true then (some 0) else (some (-1))) else (if t556 = true then (some 1) else (if a0 < a1 then (some (-1)) else (if a0 > a1 then (some 1) else (some 0)))))) = some r := H
  have A3 := a0_ A30
  clear A30
  replace H := Option.bind_eq_some_iff.mp H
  obtain ⟨t556, A40, H⟩ := H
  replace H : (if t555 = true then (if t556 = true then (some 0) else (some (-1))) else (if t556 = true then (some 1) else (if a0 < a1 then (some (-1)) else (if a0 > a1 then (some 1) else (some 0))))) = some r := H
  have A4 := a0_ A40
  clear A40
  by_cases c5 : t555 = true
  · subst c5
    have H1 : (if t556 = true then (some 0) else (some (-1))) = some r := by rw [if_pos rfl] at H; exact H
    clear H
    have H := H1
    clear H1
    by_cases c6 : t556 = true
    · subst c6
      have H1 : (some 0) = some r := by rw [if_pos rfl] at H; exact H
      clear H
      have H := H1
      clear H1
      obtain rfl := Option.some.inj H
      go_enter Tryz.func131, Tryz.ntmps131
      go_wp2_with (first | ((with_reducible refine gate_callee (f := 152) rfl ?_); refine goesS_ (some 8) Tryz.func152 #[.int .i64 a0] ?_; (with_reducible refine (cmp_isNaN_int.calls a0 true _ A3.out).mono ?_); rintro e w' ⟨rfl, ⟨nd, rfl⟩⟩; refine ⟨_, rfl, ?_⟩) | ((with_reducible refine gate_callee (f := 152) rfl ?_); refine goesS_ (some 10) Tryz.func152 #[.int .i64 a1] ?_; (with_reducible refine (cmp_isNaN_int.calls a1 true _ A4.out).mono ?_); rintro e w' ⟨rfl, ⟨nd, rfl⟩⟩; refine ⟨_, rfl, ?_⟩))
      go_ret
      exact ⟨by first | rfl | (simp; done) | (simp [*]; done), by repeat (first | exact Drawn0.refl _ | apply Drawn0.step)⟩
    · replace c6 := Bool.eq_false_iff.mpr c6
      subst c6
      have H1 : (some (-1)) = some r := by rw [if_neg (show ¬ (false = true) by decide)] at H; exact H
      clear H
      have H := H1
      clear H1
      obtain rfl := Option.some.inj H
      go_enter Tryz.func131, Tryz.ntmps131
      go_wp2_with (first | ((with_reducible refine gate_callee (f := 152) rfl ?_); refine goesS_ (some 8) Tryz.func152 #[.int .i64 a0] ?_; (with_reducible refine (cmp_isNaN_int.calls a0 true _ A3.out).mono ?_); rintro e w' ⟨rfl, ⟨nd, rfl⟩⟩; refine ⟨_, rfl, ?_⟩) | ((with_reducible refine gate_callee (f := 152) rfl ?_); refine goesS_ (some 10) Tryz.func152 #[.int .i64 a1] ?_; (with_reducible refine (cmp_isNaN_int.calls a1 false _ A4.out).mono ?_); rintro e w' ⟨rfl, ⟨nd, rfl⟩⟩; refine ⟨_, rfl, ?_⟩))
      go_ret
      exact ⟨by first | rfl | (simp; done) | (simp [*]; done), by repeat (first | exact Drawn0.refl _ | apply Drawn0.step)⟩
  · replace c5 := Bool.eq_false_iff.mpr c5
    subst c5
    have H1 : (if t556 = true then (some 1) else (if a0 < a1 then (some (-1)) else (if a0 > a1 then (some 1) else (some 0)))) = some r := by rw [if_neg (show ¬ (false = true) by decide)] at H; exact H
    clear H
    have H := H1
    clear H1
    by_cases c7 : t556 = true
    · subst c7
      have H1 : (some 1) = some r := by rw [if_pos rfl] at H; exact H
      clear H
      have H := H1
      clear H1
      obtain rfl := Option.some.inj H
      go_enter Tryz.func131, Tryz.ntmps131
      go_wp2_with (first | ((with_reducible refine gate_callee (f := 152) rfl ?_); refine goesS_ (some 8) Tryz.func152 #[.int .i64 a0] ?_; (with_reducible refine (cmp_isNaN_int.calls a0 false _ A3.out).mono ?_); rintro e w' ⟨rfl, ⟨nd, rfl⟩⟩; refine ⟨_, rfl, ?_⟩) | ((with_reducible refine gate_callee (f := 152) rfl ?_); refine goesS_ (some 10) Tryz.func152 #[.int .i64 a1] ?_; (with_reducible refine (cmp_isNaN_int.calls a1 true _ A4.out).mono ?_); rintro e w' ⟨rfl, ⟨nd, rfl⟩⟩; refine ⟨_, rfl, ?_⟩))
      go_ret
      exact ⟨by first | rfl | (simp; done) | (simp [*]; done), by repeat (first | exact Drawn0.refl _ | apply Drawn0.step)⟩
    · replace c7 := Bool.eq_false_iff.mpr c7
      subst c7
      have H1 : (if a0 < a1 then (some (-1)) else (if a0 > a1 then (some 1) else (some 0))) = some r := by rw [if_neg (show ¬ (false = true) by decide)] at H; exact H
      clear H
      have H := H1
      clear H1
      by_cases c8 : a0 < a1
      · rw [if_pos c8] at H
        have c8b0 : decide (a0 < a1) = true := decide_eq_true c8
        clear c8
        obtain rfl := Option.some.inj H
        go_enter Tryz.func131, Tryz.ntmps131
        go_wp2_with (first | ((with_reducible refine gate_callee (f := 152) rfl ?_); refine goesS_ (some 8) Tryz.func152 #[.int .i64 a0] ?_; (with_reducible refine (cmp_isNaN_int.calls a0 false _ A3.out).mono ?_); rintro e w' ⟨rfl, ⟨nd, rfl⟩⟩; refine ⟨_, rfl, ?_⟩) | ((with_reducible refine gate_callee (f := 152) rfl ?_); refine goesS_ (some 10) Tryz.func152 #[.int .i64 a1] ?_; (with_reducible refine (cmp_isNaN_int.calls a1 false _ A4.out).mono ?_); rintro e w' ⟨rfl, ⟨nd, rfl⟩⟩; refine ⟨_, rfl, ?_⟩))
        go_ret
        exact ⟨by first | rfl | (simp; done) | (simp [*]; done), by repeat (first | exact Drawn0.refl _ | apply Drawn0.step)⟩
      · rw [if_neg c8] at H
        have c8b0 : decide (a0 < a1) = false := decide_eq_false c8
        clear c8
        by_cases c9 : a0 > a1
        · rw [if_pos c9] at H
          have c9b0 : decide (a1 < a0) = true := decide_eq_true c9
          clear c9
          obtain rfl := Option.some.inj H
          go_enter Tryz.func131, Tryz.ntmps131
          go_wp2_with (first | ((with_reducible refine gate_callee (f := 152) rfl ?_); refine goesS_ (some 8) Tryz.func152 #[.int .i64 a0] ?_; (with_reducible refine (cmp_isNaN_int.calls a0 false _ A3.out).mono ?_); rintro e w' ⟨rfl, ⟨nd, rfl⟩⟩; refine ⟨_, rfl, ?_⟩) | ((with_reducible refine gate_callee (f := 152) rfl ?_); refine goesS_ (some 10) Tryz.func152 #[.int .i64 a1] ?_; (with_reducible refine (cmp_isNaN_int.calls a1 false _ A4.out).mono ?_); rintro e w' ⟨rfl, ⟨nd, rfl⟩⟩; refine ⟨_, rfl, ?_⟩))
          go_ret
          exact ⟨by first | rfl | (simp; done) | (simp [*]; done), by repeat (first | exact Drawn0.refl _ | apply Drawn0.step)⟩
        · rw [if_neg c9] at H
          have c9b0 : decide (a1 < a0) = false := decide_eq_false c9
          clear c9
          obtain rfl := Option.some.inj H
          go_enter Tryz.func131, Tryz.ntmps131
          go_wp2_with (first | ((with_reducible refine gate_callee (f := 152) rfl ?_); refine goesS_ (some 8) Tryz.func152 #[.int .i64 a0] ?_; (with_reducible refine (cmp_isNaN_int.calls a0 false _ A3.out).mono ?_); rintro e w' ⟨rfl, ⟨nd, rfl⟩⟩; refine ⟨_, rfl, ?_⟩) | ((with_reducible refine gate_callee (f := 152) rfl ?_); refine goesS_ (some 10) Tryz.func152 #[.int .i64 a1] ?_; (with_reducible refine (cmp_isNaN_int.calls a1 false _ A4.out).mono ?_); rintro e w' ⟨rfl, ⟨nd, rfl⟩⟩; refine ⟨_, rfl, ?_⟩))
          go_ret
          exact ⟨by first | rfl | (simp; done) | (simp [*]; done), by repeat (first | exact Drawn0.refl _ | apply Drawn0.step)⟩
def impl_compareKeys.f (k : Nat) (a0_0 : ByteArray) (a0_1 : Int) (a0_2 : Int) (a0_3 : ByteArray) (a1_0 : ByteArray) (a1_1 : Int) (a1_2 : Int) (a1_3 : ByteArray) : Option (Int) := (impl_compareNames.f k a0_0 a1_0).bind fun t577 => ((cmp_Compare_int.f a0_1 a1_1).bind fun t578 => ((cmp_Or_int.f k (([t577, t578] : List Int))).bind fun t582 => (some t582)))
def impl_compareKeys.T1 : Bool × List (List Nat × List Nat) := (true, [([], []), ([0], [0]), ([], []), ([2], [2]), ([1, 3], [1, 3]), ([], []), ([5], [5]), ([], []), ([7], [7]), ([6, 8, 4], [6, 8]), ([4, 9], [4, 9]), ([10, 9], [10]), ([11, 11, 0, 1, 2, 3, 4, 5, 6, 7, 8, 9, 10, 11], [11])])
def impl_compareKeys.B1 : List Nat := [0, 1, 0, 4, 15, 0, 32, 0, 128, 511, 1023, 2047, 4095]
theorem impl_compareKeys.tab1 : rtab .any (opsOf Tryz.f128 1) = impl_compareKeys.T1 := by kernel_rfl
theorem impl_compareKeys.bits1 : waitsOk impl_compareKeys.T1.2 impl_compareKeys.B1 = true := by kernel_rfl
set_option maxHeartbeats 8000000 in
set_option maxRecDepth 100000 in
theorem impl_compareKeys.calls (k : Nat) (a0_0 : ByteArray) (a0_1 : Int) (a0_2 : Int) (a0_3 : ByteArray) (a1_0 : ByteArray) (a1_1 : Int) (a1_2 : Int) (a1_3 : ByteArray) (r : Int) (w : World) (h : impl_compareKeys.f k a0_0 a0_1 a0_2 a0_3 a1_0 a1_1 a1_2 a1_3 = some r) :
    Calls Tryz.prog 128 #[.agg #[.string a0_0, .int .i64 a0_1, .int .i64 a0_2, .string a0_3], .agg #[.string a1_0, .int .i64 a1_1, .int .i64 a1_2, .string a1_3]] w fun e w' => e = .returned (.int .i64 r) ∧ Below w.heap.size w w' := by
  have hu72 := Tryz.underlying72
  have HB := a0_ (Below.refl w.heap.size w)
  have H : ((impl_compareNames.f k a0_0 a1_0).bind fun t577 => ((cmp_Compare_int.f a0_1 a1_1).bind fun t578 => ((cmp_Or_int.f k (([t577, t578] : List Int))).bind fun t582 => (some t582)))) = some r := h
  clear h
  replace H := Option.bind_eq_some_iff.mp H
  obtain ⟨t577, A30, H⟩ := H
  replace H : ((cmp_Compare_int.f a0_1 a1_1).bind fun t578 => ((cmp_Or_int.f k (([t577, t578] : List Int))).bind fun t582 => (some t582))) = some r := H
  have A3 := a0_ A30
  clear A30
  replace H := Option.bind_eq_some_iff.mp H
  obtain ⟨t578, A40, H⟩ := H
  replace H : ((cmp_Or_int.f k (([t577, t578] : List Int))).bind fun t582 => (some t582)) = some r := H
  have A4 := a0_ A40
  clear A40
  obtain ⟨y579, hy579⟩ : ∃ y_ : List Int, y_ = (([t577, t578] : List Int)) := ⟨_, rfl⟩
  replace H : ((cmp_Or_int.f k y579).bind fun t582 => (some t582)) = some r := by first | (rw [hy579]; with_reducible exact H) | (have H2_ := (Option.bind_some _ _).symm.trans H; rw [hy579]; with_reducible exact H2_) | (have H2_ := (Option.bind_some _ _).symm.trans H; with_reducible exact H2_) | with_reducible exact H | (rw [hy579]; exact H) | exact H
  have Ny579 := a0_ hy579
  clear hy579
  replace H := Option.bind_eq_some_iff.mp H
  obtain ⟨t582, A50, H⟩ := H
  replace H : (some t582) = some r := H
  have A5 := a0_ A50
  clear A50
  obtain rfl := Option.some.inj H
  go_enter Tryz.func128, Tryz.ntmps128
  try go_wp2_with (first | ((with_reducible refine gate_dst (N := 2) rfl ?_); refine boxS_ 2 #[.string a0_0, .int .i64 a0_1, .int .i64 a0_2, .string a0_3] 72 (fun gb575 hg w6 hbox hb => ?_); have n0_ := a0_ (below_step bq0_ hb); have n1_ := a0_ (hbox); have n2_ := a0_ (gw_ hg : w.heap.size ≤ gb575); have n3_ := n2_; clear HB; have HB := n0_; have BK575 := n1_; have GW575 := n2_; have GE575 := n3_; clear n0_ n1_ n2_ n3_; clear hb hbox hg) | ((with_reducible refine gate_dst (N := 3) rfl ?_); refine boxS_ 3 #[.string a1_0, .int .i64 a1_1, .int .i64 a1_2, .string a1_3] 72 (fun gb576 hg w7 hbox hb => ?_); have n0_ := a0_ (bkB_ BK575 hb); have n1_ := a0_ (below_step bq1_ hb); have n2_ := a0_ (hbox); have n3_ := a0_ (gw_ hg (below_size bq1_) : w.heap.size ≤ gb576); have n4_ := n3_; have n5_ := a0_ ((by rw [hg]; exact Nat.ne_of_lt (blk_lt (g := gb575) (o := .cells #[.string a0_0, .int .i64 a0_1, .int .i64 a0_2, .string a0_3] 72 (0, 0)) (kB_ BK575.out)) : gb575 ≠ gb576)); have n6_ := a0_ ((by rw [hg]; exact Nat.ne_of_gt (blk_lt (g := gb575) (o := .cells #[.string a0_0, .int .i64 a0_1, .int .i64 a0_2, .string a0_3] 72 (0, 0)) (kB_ BK575.out)) : gb576 ≠ gb575)); clear BK575; clear HB; have BK575 := n0_; have HB := n1_; have BK576 := n2_; have GW576 := n3_; have GE576 := n4_; have NB575_576 := n5_; have NB576_575 := n6_; clear n0_ n1_ n2_ n3_ n4_ n5_ n6_; clear hb hbox hg))
  replace BK575 := a0_ (blk_drew BK575.out)
  replace BK576 := a0_ (blk_drew BK576.out)
  replace HB := a0_ (below_drew1 HB.out)
  refine start_ (n := 13) (S := fun w' => w'.cell? ⟨gb575, 0, none⟩ = some (.string a0_0) ∧ w'.cell? ⟨gb575, 1, none⟩ = some (.int .i64 a0_1) ∧ w'.cell? ⟨gb575, 2, none⟩ = some (.int .i64 a0_2) ∧ w'.cell? ⟨gb575, 3, none⟩ = some (.string a0_3) ∧ w'.cell? ⟨gb576, 0, none⟩ = some (.string a1_0) ∧ w'.cell? ⟨gb576, 1, none⟩ = some (.int .i64 a1_1) ∧ w'.cell? ⟨gb576, 2, none⟩ = some (.int .i64 a1_2) ∧ w'.cell? ⟨gb576, 3, none⟩ = some (.string a1_3)) (ds := []) #[false, false, false, false, false, false, false, false, false, false, false, false, false] (by kernel_rfl) rfl rfl ⟨(blk_cell BK575.out 0).trans rfl, (blk_cell BK575.out 1).trans rfl, (blk_cell BK575.out 2).trans rfl, (blk_cell BK575.out 3).trans rfl, (blk_cell BK576.out 0).trans rfl, (blk_cell BK576.out 1).trans rfl, (blk_cell BK576.out 2).trans rfl, (blk_cell BK576.out 3).trans rfl⟩ (fun hHeld => ?_); refine with_tabW impl_compareKeys.tab1 impl_compareKeys.bits1 (fun HT_ HW_ => ?_)
  generalize w7.drew = w8 at BK575 BK576 HB hHeld ⊢
  refine pureS_ 0 (some 5) ?_
  refine pureS_ 2 (some 7) ?_
  refine pureS_ 5 (some 10) ?_
  refine pureS_ 7 (some 12) ?_
  refine takeS_ 1 (some 6) ?_
  refine takeS_ 3 (some 8) ?_
  refine takeS_ 6 (some 11) ?_
  refine takeS_ 8 (some 13) ?_
  refine oneS_ 4 (some 9) (fun K hK => ?_)
  refine goesR_ Tryz.func150 #[.string a0_0, .string a1_0] ?_
  with_reducible refine (impl_compareNames.calls k a0_0 a1_0 t577 _ A3.out).mono ?_
  rintro e w9 ⟨rfl, hb⟩
  refine ⟨_, rfl, ?_⟩
  replace BK575 := a0_ (bkB_ BK575 hb)
  replace BK576 := a0_ (bkB_ BK576 hb)
  replace HB := a0_ (below_step bq1_ hb)
  (try clear hb)
  (try clear hb2)
  (try clear hk)
  (try clear hi)
  refine hK.out _ _ ⟨(blk_cell BK575.out 0).trans rfl, (blk_cell BK575.out 1).trans rfl, (blk_cell BK575.out 2).trans rfl, (blk_cell BK575.out 3).trans rfl, (blk_cell BK576.out 0).trans rfl, (blk_cell BK576.out 1).trans rfl, (blk_cell BK576.out 2).trans rfl, (blk_cell BK576.out 3).trans rfl⟩ (fun hHeld => ?_)
  clear hK K
  refine normS_ ?_
  refine oneS_ 9 (some 14) (fun K hK => ?_)
  refine goesR_ Tryz.func131 #[.int .i64 a0_1, .int .i64 a1_1] ?_
  with_reducible refine (cmp_Compare_int.calls a0_1 a1_1 t578 _ A4.out).mono ?_
  rintro e w' ⟨rfl, ⟨nd, rfl⟩⟩
  refine ⟨_, rfl, ?_⟩
  refine hK.out _ _ ⟨(blk_cell BK575.out 0).trans rfl, (blk_cell BK575.out 1).trans rfl, (blk_cell BK575.out 2).trans rfl, (blk_cell BK575.out 3).trans rfl, (blk_cell BK576.out 0).trans rfl, (blk_cell BK576.out 1).trans rfl, (blk_cell BK576.out 2).trans rfl, (blk_cell BK576.out 3).trans rfl⟩ (fun hHeld => ?_)
  clear hK K
  refine normS_ ?_
  refine oneS_ 10 (some 15) (fun K hK => ?_)
  refine Kd.R_lit_step (Kd.int .i64) _ 3 ?hg (N := 15) ?hd (xs := ([t577, t578] : List Int)) (inner := [.int .i64 t577, .int .i64 t578]) (ok := fun _ => True) (okp := fun _ => True) ?hr ?hp (fun _ hk => hk) trivial (Below.refl _ _) (Nat.le_refl _) (by simp) ?_; (case hd => rfl); (case hg => rfl); (case hr => first | (go_simp; done) | (go_simp; rfl)); (case hp => exact (Reps.one (show Kd.M (Kd.int .i64) _ _ _ t577 [.int .i64 t577] from rfl) (Reps.one (show Kd.M (Kd.int .i64) _ _ _ t578 [.int .i64 t578] from rfl) (Reps.none _ _))))
  intro v580 w10 ho11 hb hg_ hnew_
  clear hg_ hnew_
  (first | rw [← Ny579.out] at ho11 | (simp only [Int.reduceToNat] at ho11; rw [← Ny579.out] at ho11))
  have HO581 := a0_ (Kd.R_lower ho11 (below_size bq1_))
  replace BK575 := a0_ (bkB_ BK575 hb)
  replace BK576 := a0_ (bkB_ BK576 hb)
  replace HB := a0_ (below_step bq1_ hb)
  clear hb ho11
  obtain ⟨Ao12, co12, eo12⟩ := Kd.R_slice HO581.out
  (first | subst eo12 | (injection eo12 with f1_ f2_ f3_; have f4_ := f1_.symm; have f5_ := f3_.symm; clear f1_ f2_ f3_; subst f4_; subst f5_))
  refine hK.out _ _ ⟨(blk_cell BK575.out 0).trans rfl, (blk_cell BK575.out 1).trans rfl, (blk_cell BK575.out 2).trans rfl, (blk_cell BK575.out 3).trans rfl, (blk_cell BK576.out 0).trans rfl, (blk_cell BK576.out 1).trans rfl, (blk_cell BK576.out 2).trans rfl, (blk_cell BK576.out 3).trans rfl⟩ (fun hHeld => ?_)
  clear hK K
  refine normS_ ?_
  refine oneS_ 11 (some 16) (fun K hK => ?_)
  refine goesR_ Tryz.func127 #[.slice Ao12 y579.length co12] ?_
  with_reducible refine (cmp_Or_int.calls k _ _ y579 t582 _ ?side1 ?side2 A5.out).mono ?_
  (case side1 => repeat (first | exact (Kd.R_reads' HO581.out).2.2 | (with_reducible refine Kd.C_alloc ?_ _) | (with_reducible refine Kd.C_drewN ?_ _) | (with_reducible refine Kd.C_drew ?_)))
  (case side2 => exact (Kd.R_reads' HO581.out).2.1)
  rintro e w' ⟨rfl, ⟨nd, rfl⟩⟩
  refine ⟨_, rfl, ?_⟩
  refine hK.out _ _ ⟨(blk_cell BK575.out 0).trans rfl, (blk_cell BK575.out 1).trans rfl, (blk_cell BK575.out 2).trans rfl, (blk_cell BK575.out 3).trans rfl, (blk_cell BK576.out 0).trans rfl, (blk_cell BK576.out 1).trans rfl, (blk_cell BK576.out 2).trans rfl, (blk_cell BK576.out 3).trans rfl⟩ (fun hHeld => ?_)
  clear hK K
  refine normS_ ?_
  refine pureS_ 12 (some 4) ?_
  refine done_ (done_of HT_.out (by kernel_rfl)) ?_
  try go_wp2
  go_ret
  exact ⟨by first | rfl | (simp [errW_none, errW_some] <;> rfl) | (simp [*, errW_none, errW_some] <;> rfl), by repeat (first | (with_reducible first | exact HB.out | apply below_alloc | apply pw_below_drewN | apply below_drew1 | refine below_set ?_ GE575.out | refine below_set ?_ GE576.out) | exact HB.out)⟩
def impl_dataBytes.f (k : Nat) (a0 : Int) (a1 : ByteArray) : Option (ByteArray) := (impl_DataBytes.f k a0 a1).bind fun bt583 => (if bt583.2 = true then (some bt583.1) else (some (⟨#[]⟩ : ByteArray)))
set_option maxHeartbeats 8000000 in
set_option maxRecDepth 100000 in
theorem impl_dataBytes.calls (k : Nat) (a0 : Int) (a1 : ByteArray) (r : ByteArray) (w : World) (h : impl_dataBytes.f k a0 a1 = some r) (hv_ : Vars w := by exact vv_) :
    Calls Tryz.prog 130 #[.int .i64 a0, .string a1] w fun e w' => e = .returned (.string r) ∧ Below w.heap.size w w' := by
  have HV_ := a0_ hv_
  clear hv_
  have HB := a0_ (Below.refl w.heap.size w)
  have H : ((impl_DataBytes.f k a0 a1).bind fun bt583 => (if bt583.2 = true then (some bt583.1) else (some (⟨#[]⟩ : ByteArray)))) = some r := h
  clear h
  replace H := Option.bind_eq_some_iff.mp H
  obtain ⟨⟨t583, t584⟩, A30, H⟩ := H
  replace H : (if t584 = true then (some t583) else (some (⟨#[]⟩ : ByteArray))) = some r := H
  have A3 := a0_ A30
  clear A30
  by_cases c4 : t584 = true
  · subst c4
    have H1 : (some t583) = some r := by rw [if_pos rfl] at H; exact H
    clear H
    have H := H1
    clear H1
    obtain rfl := Option.some.inj H
    go_enter Tryz.func130, Tryz.ntmps130
    go_wp2_with (first | ((with_reducible refine gate_callee (f := 121) rfl ?_); refine goesS_ (some 10) Tryz.func121 #[.int .i64 a0, .string a1] ?_; (with_reducible refine (impl_DataBytes.calls k a0 a1 t583 true _ A3.out).mono ?_); rintro e w5 ⟨rfl, hb⟩; refine ⟨_, rfl, ?_⟩; replace HB := a0_ (below_step bq0_ hb); (try clear hb); (try clear hb2); (try clear hk); (try clear hi)))
    go_ret
    exact ⟨by first | rfl | (simp [errW_none, errW_some] <;> rfl) | (simp [*, errW_none, errW_some] <;> rfl), by repeat (first | (with_reducible first | exact HB.out | apply below_alloc | apply pw_below_drewN | apply below_drew1) | exact HB.out)⟩
  · replace c4 := Bool.eq_false_iff.mpr c4
    subst c4
    have H1 : (some (⟨#[]⟩ : ByteArray)) = some r := by rw [if_neg (show ¬ (false = true) by decide)] at H; exact H
    clear H
    have H := H1
    clear H1
    obtain rfl := Option.some.inj H
    go_enter Tryz.func130, Tryz.ntmps130
    go_wp2_with (first | ((with_reducible refine gate_callee (f := 121) rfl ?_); refine goesS_ (some 10) Tryz.func121 #[.int .i64 a0, .string a1] ?_; (with_reducible refine (impl_DataBytes.calls k a0 a1 t583 false _ A3.out).mono ?_); rintro e w6 ⟨rfl, hb⟩; refine ⟨_, rfl, ?_⟩; replace HB := a0_ (below_step bq0_ hb); (try clear hb); (try clear hb2); (try clear hk); (try clear hi)))
    go_ret
    exact ⟨by first | rfl | (simp [errW_none, errW_some] <;> rfl) | (simp [*, errW_none, errW_some] <;> rfl), by repeat (first | (with_reducible first | exact HB.out | apply below_alloc | apply pw_below_drewN | apply below_drew1) | exact HB.out)⟩
end Go.Proofs.YtkpkfallgjdkmaaGreatDoor.P
namespace Go.Proofs
open Go.Shelf
def Tryz.lays106_ren : Go.Shelf.Ren := ⟨fun | 106 => 129 | 213 => 151 | 265 => 172 | n => n, fun | 9 => 9 | 3 => 3 | n => n, fun | n => n⟩
theorem Tryz.lays106 : Go.Proofs.Lays.n106 Tryz.prog Tryz.lays106_ren := {
  mixed := by kernel_rfl
  f106 := Tryz.func129.trans (congrArg some (by kernel_rfl))
  f213 := Tryz.func151.trans (congrArg some (by kernel_rfl))
  f265 := Tryz.func172.trans (congrArg some (by kernel_rfl))
  t3 := Tryz.underlying3
  a3 := Tryz.isAgg3
  z3 := Tryz.sizeOf3
  v3 := Tryz.zeroValue3
  t9 := Tryz.underlying9
  a9 := Tryz.isAgg9
  z9 := Tryz.sizeOf9
  v9 := Tryz.zeroValue9 }
end Go.Proofs
namespace Go.Proofs.YtkpkfallgjdkmaaGreatDoor.P
open Go.Shelf Go.RowKit Go.Proofs.YtkpkfallgjdkmaaGreatDoorW.PrintWords Go.Proofs.YtkpkfallgjdkmaaGreatDoorW.PrintLast Go.Proofs.YtkpkfallgjdkmaaGreatDoorW.PrintMore
def strings_Compare.f (a b : ByteArray) : Option Int := some (Lib.compareBytes a.data.toList b.data.toList)
theorem strings_Compare.calls (a0 a1 : ByteArray) (r : Int) (w : World) (h : strings_Compare.f a0 a1 = some r) :
    Calls Tryz.prog 129 #[.string a0, .string a1] w fun e w' => e = .returned (.int .i64 r) ∧ Drawn0 w w' := by
  obtain rfl := Option.some.inj h
  exact (Any.strings_Compare Tryz.lays106 a0 a1 w).mono fun e w' ⟨he, hw⟩ => ⟨he, by rw [hw]; exact Drawn0.refl _⟩
end Go.Proofs.YtkpkfallgjdkmaaGreatDoor.P
