/- The law FnExactCounterFor answers true for all integers. Conditions: none. -/
import Derived.Test.YtkbhmikjnoncfaaPFnExactCounterForx1
namespace Go.Proofs.Ytkbhmikjnoncfaa.Pure
open Go.RowKit Go.Proofs.Ytkbhmikjnoncfaa.PFnExactCounterFor Go.Proofs.YtkbhmikjnoncfaaW.PrintWords Go.Proofs.YtkbhmikjnoncfaaW.PrintLast

theorem cf_gap (a1 x : Int) (n0 : 0 ≤ a1) (n1 : a1 ≤ 1152921504606846976) (h0 : -1 ≤ x) (h1 : x ≤ 2305843009213693952) : spec_l5Gap.f x a1 = some (mx (wrap64 (x - a1)) (wrap64 (a1 - x))) := by
  have u1 : wrap64 (x - a1) = x - a1 := by unfold wrap64; omega
  have u2 : wrap64 (a1 - x) = a1 - x := by unfold wrap64; omega
  unfold spec_l5Gap.f
  rw [u1, u2]
  unfold mx
  by_cases hx : x < a1
  · rw [if_pos hx]; congr 1; omega
  · rw [if_neg hx]; congr 1; omega

theorem cf_val (x : Int) : impl_isCounter.f x = some (decide (0 ≤ x ∧ x ≤ 1152921504606846976)) := by
  unfold impl_isCounter.f impl_within.f
  by_cases hx : x ≥ 0
  · simp [hx]
  · have : ¬ 0 ≤ x := by omega
    simp [this]

theorem cf_same (x : Int) : spec_l1In.f x 0 1152921504606846976 = impl_isCounter.f x := by
  unfold spec_l1In.f impl_isCounter.f impl_within.f
  by_cases hx : x ≥ 0 <;> simp [hx]

theorem cf_loop (a1 : Int) (n0 : 0 ≤ a1) (n1 : a1 ≤ 1152921504606846976) (b : Int) (k : Nat) : ∀ (x7 i : Int), -1 ≤ x7 → x7 ≤ 1152921504606846976 → 0 ≤ i → i ≤ 3 → (i < 3 → x7 < 0 ∨ x7 < rd [b - 4294967296, b, b + 4294967296] i) →
    spec_CounterFor.l0 k a1 x7 [b - 4294967296, b, b + 4294967296] 3 i = impl_CounterFor.l0 k a1 x7 [b - 4294967296, b, b + 4294967296] 3 i := by
  induction k with
  | zero => intros; rfl
  | succ k ih =>
    intro x7 i h0 h1 i0 i3 hb
    simp only [spec_CounterFor.l0, impl_CounterFor.l0]
    by_cases hi : i < 3
    · have hl : i < (([b - 4294967296, b, b + 4294967296] : List Int).length : Int) := by simpa using hi
      have hw : wrap64 (i + 1) = i + 1 := by unfold wrap64; omega
      rw [if_pos hi, if_pos i0, if_pos hl, if_pos hi, if_pos i0, if_pos hl, hw, cf_same, cf_val]
      simp only [Option.bind_some]
      have hnext : ∀ y : Int, y = rd [b - 4294967296, b, b + 4294967296] i ∨ y = x7 → i + 1 < 3 → y < 0 ∨ y < rd [b - 4294967296, b, b + 4294967296] (i + 1) := by
        intro y hy hi1
        have hb := hb hi
        have r0 : rd [b - 4294967296, b, b + 4294967296] 0 = b - 4294967296 := rfl
        have r1 : rd [b - 4294967296, b, b + 4294967296] 1 = b := rfl
        have r2 : rd [b - 4294967296, b, b + 4294967296] 2 = b + 4294967296 := rfl
        have hcase : i = 0 ∨ i = 1 := by omega
        rcases hcase with rfl | rfl
        · rw [r0] at hb hy; show _ ∨ y < rd _ 1; rw [r1]; omega
        · rw [r1] at hb hy; show _ ∨ y < rd _ 2; rw [r2]; omega
      generalize hc : rd [b - 4294967296, b, b + 4294967296] i = c at hb hnext ⊢
      by_cases hcc : 0 ≤ c ∧ c ≤ 1152921504606846976
      · simp only [decide_eq_true hcc, if_true]
        have take := ih c (i + 1) (by omega) (by omega) (by omega) (by omega) (hnext c (.inl rfl))
        have keep := ih x7 (i + 1) h0 h1 (by omega) (by omega) (hnext x7 (.inr rfl))
        by_cases hn : x7 < 0
        · rw [if_pos hn, if_pos hn]; exact take
        · rw [if_neg hn, if_neg hn, cf_gap a1 c n0 n1 (by omega) (by omega), cf_gap a1 x7 n0 n1 (by omega) (by omega)]
          simp only [Option.bind_some]
          by_cases hg : mx (wrap64 (c - a1)) (wrap64 (a1 - c)) < mx (wrap64 (x7 - a1)) (wrap64 (a1 - x7))
          · rw [if_pos hg, if_pos hg]; exact take
          · have hlt : ¬ c < x7 := by have := hb hi; omega
            rw [if_neg hg, if_neg hg, if_neg hlt]
            split <;> exact keep
      · simp only [decide_eq_false hcc]
        rw [if_neg (by decide), if_neg (by decide)]
        exact ih x7 (i + 1) h0 h1 (by omega) (by omega) (hnext x7 (.inr rfl))
    · rw [if_neg hi, if_neg hi]

theorem cf_ends (a1 : Int) (b : Int) (k : Nat) : ∀ (x7 i : Int), 0 ≤ i → i ≤ 3 → 3 - i < k → ∃ r, impl_CounterFor.l0 k a1 x7 [b - 4294967296, b, b + 4294967296] 3 i = some r := by
  induction k with
  | zero => intro x7 i h0 h3 h; omega
  | succ k ih =>
    intro x7 i i0 i3 hk
    simp only [impl_CounterFor.l0]
    by_cases hi : i < 3
    · have hl : i < (([b - 4294967296, b, b + 4294967296] : List Int).length : Int) := by simpa using hi
      have hw : wrap64 (i + 1) = i + 1 := by unfold wrap64; omega
      rw [if_pos hi, if_pos i0, if_pos hl, hw, cf_val]
      simp only [Option.bind_some]
      split
      · split
        · exact ih _ _ (by omega) (by omega) (by omega)
        · split <;> exact ih _ _ (by omega) (by omega) (by omega)
      · exact ih _ _ (by omega) (by omega) (by omega)
    · rw [if_neg hi]; exact ⟨_, rfl⟩

theorem FnExactCounterFor : laws_FnExactCounterFor.Pure := by
  intro a0 a1 _ _
  refine ⟨6, ?_⟩
  have S1 : spec_l5Serial.f a0 = impl_isSerial.f a0 := by
    unfold spec_l5Serial.f spec_l1In.f impl_isSerial.f impl_within.f; rfl
  have I1 : impl_isSerial.f a0 = some (decide (0 ≤ a0 ∧ a0 ≤ 4294967295)) := by
    unfold impl_isSerial.f impl_within.f
    by_cases hx : a0 ≥ 0
    · simp [hx]
    · have : ¬ 0 ≤ a0 := by omega
      simp [this]
  have hno : spec_CounterFor.j0 6 a0 a1 true = some (0, false) := rfl
  have hno' : impl_CounterFor.j0 6 a0 a1 true = some (0, false) := rfl
  unfold laws_FnExactCounterFor.f spec_CounterFor.f impl_CounterFor.f
  rw [S1, I1, cf_same, cf_val]
  simp only [Option.bind_some]
  by_cases hs : 0 ≤ a0 ∧ a0 ≤ 4294967295
  · by_cases hn : 0 ≤ a1 ∧ a1 ≤ 1152921504606846976
    · simp only [decide_eq_true hs, decide_eq_true hn, if_true, Bool.not_true]
      obtain ⟨s0, s1⟩ := hs
      obtain ⟨n0, n1⟩ := hn
      simp only [spec_CounterFor.j0, impl_CounterFor.j0, Option.bind_some, Bool.false_eq_true, if_false]
      have ht : Int.tmod a1 4294967296 = a1 % 4294967296 := Int.tmod_eq_emod_of_nonneg n0
      have e0 : wrap64 (a1 - a1 % 4294967296) = a1 - a1 % 4294967296 := by unfold wrap64; omega
      have e1 : wrap64 (a1 - a1 % 4294967296 + a0) = a1 - a1 % 4294967296 + a0 := by unfold wrap64; omega
      have e2 : wrap64 (a1 - a1 % 4294967296 + a0 - 4294967296) = a1 - a1 % 4294967296 + a0 - 4294967296 := by unfold wrap64; omega
      have e3 : wrap64 (a1 - a1 % 4294967296 + a0 + 4294967296) = a1 - a1 % 4294967296 + a0 + 4294967296 := by unfold wrap64; omega
      rw [ht, e0, e1, e2, e3]
      have hl := cf_loop a1 n0 n1 (a1 - a1 % 4294967296 + a0) 5 (-1) 0 (by omega) (by omega) (by omega) (by omega) (fun _ => .inl (by omega))
      obtain ⟨r, hr⟩ := cf_ends a1 (a1 - a1 % 4294967296 + a0) 5 (-1) 0 (by omega) (by omega) (by omega)
      have h3 : (([a1 - a1 % 4294967296 + a0 - 4294967296, a1 - a1 % 4294967296 + a0, a1 - a1 % 4294967296 + a0 + 4294967296] : List Int).length : Int) = 3 := rfl
      rw [h3, hl, hr]
      simp
    · simp only [decide_eq_true hs, decide_eq_false hn, if_true, Bool.not_false, hno, hno']
      rfl
  · simp only [decide_eq_false hs, Bool.false_eq_true, if_false, hno, hno']
    rfl

end Go.Proofs.Ytkbhmikjnoncfaa.Pure
