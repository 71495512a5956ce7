/- The law FnSerials answers true for all bytes. Conditions: none. -/
import Derived.Test.YtkbhmikjnoncfaaPureCur
import Derived.Test.YtkbhmikjnoncfaaPureFnExactNewestOf
import Derived.Test.YtkbhmikjnoncfaaF9
namespace Go.Proofs.Ytkbhmikjnoncfaa.Pure
open Go.RowKit Go.Proofs.Ytkbhmikjnoncfaa.P Go.Proofs.YtkbhmikjnoncfaaW.PrintWords Go.Proofs.YtkbhmikjnoncfaaW.PrintLast

theorem among_some {l : List Int} (hl : Bytes l) {at_ sd : Int} {n : Nat} (hc : Cur at_ n) (hn : n < 4611686018427387900) (zs : List Int) (hz : 0 < zs.length) :
    ∃ x at2 sd2, spec_l1Cur_among.f l at_ sd zs = some (x, at2, sd2) ∧ x ∈ zs ∧ Cur at2 (n + 2) := by
  unfold spec_l1Cur_among.f
  obtain ⟨i, at2, sd2, e, hi, hc2⟩ := pick_some hl hc hn (sd := sd) (zs.length : Int)
  rw [e]
  simp only [Option.bind_some]
  have hlt : i < (zs.length : Int) := by omega
  rw [if_pos hi.1, if_pos hlt]
  refine ⟨_, _, _, rfl, ?_, hc2⟩
  have h2 : i.toNat < zs.length := by omega
  rw [rd, List.getD_eq_getElem?_getD, List.getElem?_eq_getElem h2]
  exact List.getElem_mem h2

theorem serial_some {l : List Int} (hl : Bytes l) {at_ sd : Int} {n : Nat} (hc : Cur at_ n) (hn : n < 4611686018427387890) :
    ∃ x at2 sd2, spec_l1Cur_serial.f l at_ sd = some (x, at2, sd2) ∧ (-1 ≤ x ∧ x ≤ 4294967296) ∧ Cur at2 (n + 4) := by
  unfold spec_l1Cur_serial.f
  obtain ⟨i, at2, sd2, e, hi, hc2⟩ := pick_some hl hc (by omega) (sd := sd) 6
  rw [e]
  simp only [Option.bind_some]
  by_cases h0 : i = 0
  · rw [if_pos h0]
    obtain ⟨x, at3, sd3, e3, hx, hc3⟩ := among_some hl hc2 (by omega) (sd := sd2) [(-1), 0, 1, 2147483647, 2147483648, 2147483649, 4294967295, 4294967296] (by decide)
    rw [e3]
    refine ⟨_, _, _, rfl, ?_, hc3⟩
    simp only [List.mem_cons, List.not_mem_nil, or_false] at hx
    show -1 ≤ x ∧ x ≤ 4294967296
    omega
  · rw [if_neg h0]
    by_cases h1 : i = 1
    · rw [if_pos h1]
      obtain ⟨x, at3, sd3, e3, hx, hc3⟩ := pick_some hl hc2 (by omega) (sd := sd2) 9
      rw [e3]
      refine ⟨_, _, _, rfl, ?_, hc3⟩
      show -1 ≤ wrap64 (4294967295 - x) ∧ wrap64 (4294967295 - x) ≤ 4294967296
      unfold wrap64
      omega
    · rw [if_neg h1]
      obtain ⟨x, at3, sd3, e3, hx, hc3⟩ := pick_some hl hc2 (by omega) (sd := sd2) 50
      rw [e3]
      refine ⟨_, _, _, rfl, ?_, hc3⟩
      show -1 ≤ x ∧ x ≤ 4294967296
      omega

theorem drawSerialAdd_some {l : List Int} (hl : Bytes l) : ∃ r, spec_DrawSerialAdd.f l = some r := by
  unfold spec_DrawSerialAdd.f
  obtain ⟨x, at2, sd2, e, _, hc2⟩ := serial_some hl (at_ := 0) (sd := 0) (n := 0) ⟨by omega, by omega⟩ (by omega)
  rw [e]
  simp only [Option.bind_some]
  obtain ⟨y, at3, sd3, e3, _, hc3⟩ := among_some hl hc2 (by omega) (sd := sd2) [(-1), 0, 1, 5, 100, 2147483647, 2147483648] (by decide)
  rw [e3]
  exact ⟨_, rfl⟩

theorem drawSerialLess_some {l : List Int} (hl : Bytes l) : ∃ r, spec_DrawSerialLess.f l = some r := by
  unfold spec_DrawSerialLess.f
  obtain ⟨x, at2, sd2, e, _, hc2⟩ := serial_some hl (at_ := 0) (sd := 0) (n := 0) ⟨by omega, by omega⟩ (by omega)
  rw [e]
  simp only [Option.bind_some]
  obtain ⟨y, at3, sd3, e3, _, hc3⟩ := serial_some hl hc2 (by omega) (sd := sd2)
  rw [e3]
  exact ⟨_, rfl⟩

/-- The steps from a to b. -/
def stp (a b : Int) : Int := (b - a + 4294967296) % 4294967296
theorem steps_eq (a b : Int) : impl_StepsBetween.f a b = some (if isSer a = true ∧ isSer b = true then (stp a b, true) else (0, false)) := by
  unfold impl_StepsBetween.f
  rw [isSerial_eq, isSerial_eq]
  simp only [Option.bind_some]
  cases ha : isSer a
  · simp
  · cases hb : isSer b
    · simp
    · unfold isSer at ha hb
      have ha := of_decide_eq_true ha
      have hb := of_decide_eq_true hb
      have e : Int.tmod (wrap64 ((wrap64 (b - a)) + 4294967296)) 4294967296 = stp a b := by
        have h1 : wrap64 (b - a) = b - a := by unfold wrap64; omega
        have h2 : wrap64 (b - a + 4294967296) = b - a + 4294967296 := by unfold wrap64; omega
        rw [h1, h2, Int.tmod_eq_emod_of_nonneg (by omega)]
        rfl
      simp [e]
theorem specSteps_eq (a b : Int) : spec_StepsBetween.f a b = impl_StepsBetween.f a b := by
  unfold spec_StepsBetween.f impl_StepsBetween.f
  rw [l5Serial_eq, l5Serial_eq, isSerial_eq, isSerial_eq]
  rfl
theorem slP_eq (a b : Int) : slP a b = if isSer a = true ∧ isSer b = true ∧ stp a b ≠ 2147483648 then (decide (1 ≤ stp a b ∧ stp a b ≤ 2147483647), true) else (false, false) := by
  have h := serialLess_eq a b
  unfold impl_SerialLess.f at h
  rw [steps_eq] at h
  simp only [Option.bind_some] at h
  refine Option.some.inj (h.symm.trans ?_)
  clear h
  by_cases h1 : isSer a = true ∧ isSer b = true
  · rw [if_pos h1]
    by_cases h2 : stp a b = 2147483648
    · simp [h2]
    · have hw : impl_within.f (stp a b) 1 2147483647 = some (decide (1 ≤ stp a b ∧ stp a b ≤ 2147483647)) := by
        unfold impl_within.f
        by_cases h3 : stp a b ≥ 1
        · rw [if_pos h3]; congr 1; rw [decide_eq_decide]; omega
        · rw [if_neg h3]; congr 1; rw [eq_comm, decide_eq_false_iff_not]; omega
      simp [h1, h2, hw]
  · have h2 : ¬ (isSer a = true ∧ isSer b = true ∧ stp a b ≠ 2147483648) := fun h => h1 ⟨h.1, h.2.1⟩
    rw [if_neg h1, if_neg h2]
    rfl
theorem add_eq (s n : Int) : impl_SerialAdd.f s n = some (if isSer s = true ∧ 0 ≤ n ∧ n ≤ 2147483647 then ((s + n) % 4294967296, true) else (0, false)) := by
  unfold impl_SerialAdd.f
  rw [isSerial_eq]
  simp only [Option.bind_some]
  cases hs : isSer s
  · simp
  · unfold isSer at hs
    have hs := of_decide_eq_true hs
    unfold impl_within.f
    by_cases h1 : n ≥ 0
    · by_cases h2 : n ≤ 2147483647
      · have e : Int.tmod (wrap64 (s + n)) 4294967296 = (s + n) % 4294967296 := by
          have h1 : wrap64 (s + n) = s + n := by unfold wrap64; omega
          rw [h1, Int.tmod_eq_emod_of_nonneg (by omega)]
        simp [h1, h2, e]
      · simp [h1, h2]
    · have : ¬ (0 ≤ n) := by omega
      simp [this]
theorem specAdd_eq (s n : Int) : spec_SerialAdd.f s n = impl_SerialAdd.f s n := by
  unfold spec_SerialAdd.f impl_SerialAdd.f
  rw [l5Serial_eq, isSerial_eq]
  rfl

theorem serials_j1 {l : List Int} (hl : Bytes l) : Ev (fun k => laws_FnSerials.j1 k l) true := by
  obtain ⟨⟨a, b⟩, hd⟩ := drawSerialLess_some hl
  refine Ev.step (fun k => by simp only [laws_FnSerials.j1]; rw [hd]) (?_ : Ev _ _)
  simp only [serialLess_eq, specSteps_eq, steps_eq, Option.bind_some]
  refine Ev.bind (specLess_ev a b) ?_
  have h : (slP b a).2 = (slP a b).2 ∧ ((slP a b).2 = true → ((slP a b).1 = true → (slP b a).1 = false ∧ a ≠ b) ∧ ((slP a b).1 = false → (slP b a).1 = decide (a ≠ b))) := by
    rw [slP_eq, slP_eq]
    by_cases ha : isSer a = true
    · by_cases hb : isSer b = true
      · have ha' := of_decide_eq_true ha
        have hb' := of_decide_eq_true hb
        have e1 : stp b a = if stp a b = 0 then 0 else 4294967296 - stp a b := by
          by_cases h : stp a b = 0
          · rw [if_pos h]; unfold stp at h ⊢; omega
          · rw [if_neg h]; unfold stp at h ⊢; omega
        have e2 : (a = b) ↔ stp a b = 0 := by unfold stp; omega
        have e3 : 0 ≤ stp a b ∧ stp a b < 4294967296 := by unfold stp; omega
        generalize stp a b = x at e1 e2 e3 ⊢
        generalize stp b a = y at e1 ⊢
        by_cases hx : x = 2147483648
        · have hy : y = 2147483648 := by rw [e1, if_neg (by omega)]; omega
          simp [hx, hy]
        · have hy : y ≠ 2147483648 := by rw [e1]; split <;> omega
          rw [if_pos ⟨hb, ha, hy⟩, if_pos ⟨ha, hb, hx⟩]
          refine ⟨rfl, fun _ => ⟨fun h1 => ?_, fun h1 => ?_⟩⟩
          · have h1 := of_decide_eq_true h1
            refine ⟨decide_eq_false ?_, fun h => ?_⟩
            · rw [e1]; split <;> omega
            · have := e2.1 h; omega
          · have h1 := of_decide_eq_false h1
            show decide _ = decide _
            rw [decide_eq_decide]
            rw [show (a ≠ b) ↔ x ≠ 0 from not_congr e2, e1]
            split <;> omega
      · rw [if_neg (fun h => hb h.1), if_neg (fun h => hb h.2.1)]
        simp
    · rw [if_neg (fun h => ha h.2.1), if_neg (fun h => ha h.1)]
      simp
  obtain ⟨h1, h2⟩ := h
  generalize slP a b = p at h1 h2 ⊢
  generalize slP b a = q at h1 h2 ⊢
  obtain ⟨p1, p2⟩ := p
  obtain ⟨q1, q2⟩ := q
  simp only at h1 h2
  subst h1
  cases q2
  · simpa using Ev.now true
  · have h2 := h2 rfl
    cases p1
    · have h3 := h2.2 rfl
      by_cases hab : a = b
      · have : q1 = false := by rw [h3]; simp [hab]
        simpa [hab, this] using Ev.now true
      · have : q1 = true := by rw [h3]; simp [hab]
        simpa [hab, this] using Ev.now true
    · have h3 := h2.1 rfl
      have hq : q1 = false := h3.1
      simpa [h3.2, hq] using Ev.now true

theorem serials_j0 {l : List Int} (hl : Bytes l) (s n : Int) : Ev (fun k => laws_FnSerials.j0 k l s n ((if isSer s = true ∧ 0 ≤ n ∧ n ≤ 2147483647 then ((s + n) % 4294967296, true) else (0, false)) : Int × Bool).1 ((if isSer s = true ∧ 0 ≤ n ∧ n ≤ 2147483647 then ((s + n) % 4294967296, true) else (0, false)) : Int × Bool).2 false) true := by
  by_cases h : isSer s = true ∧ 0 ≤ n ∧ n ≤ 2147483647
  · rw [if_pos h]
    have hs := of_decide_eq_true h.1
    have ht : isSer ((s + n) % 4294967296) = true := decide_eq_true (by omega)
    have e1 : stp s ((s + n) % 4294967296) = n := by unfold stp; omega
    have e2 : stp ((s + n) % 4294967296) s = if n = 0 then 0 else 4294967296 - n := by
      by_cases h0 : n = 0
      · rw [if_pos h0]; unfold stp; omega
      · rw [if_neg h0]; unfold stp; omega
    have p1 : slP s ((s + n) % 4294967296) = (decide (n > 0), true) := by
      rw [slP_eq, e1, if_pos ⟨h.1, ht, by omega⟩]
      congr 1
      rw [decide_eq_decide]
      omega
    have p2 : slP ((s + n) % 4294967296) s = (false, true) := by
      rw [slP_eq, e2, if_pos ⟨ht, h.1, by split <;> omega⟩]
      congr 1
      rw [decide_eq_false_iff_not]
      split <;> omega
    refine Ev.step (f := fun k => laws_FnSerials.j1 k l) (fun k => ?_) (serials_j1 hl)
    simp only [laws_FnSerials.j0]
    rw [serialLess_eq, serialLess_eq, steps_eq, p1, p2, e1]
    have hh : isSer s = true ∧ isSer ((s + n) % 4294967296) = true := ⟨h.1, ht⟩
    simp only [Option.bind_some, if_pos hh]
    simp
  · rw [if_neg h]
    refine Ev.step (f := fun k => laws_FnSerials.j1 k l) (fun k => ?_) (serials_j1 hl)
    simp only [laws_FnSerials.j0]
    simp

theorem FnSerials : laws_FnSerials.Pure := by
  intro l0 l1 m0 _ w0 m1 _ w1
  refine Ev.rounds ?_
  by_cases h : wrap64 ((l0.length : Int) + (l1.length : Int)) > 1048576
  · refine Ev.congr (f := fun _ => some true) (fun k => ?_) (Ev.now _)
    unfold laws_FnSerials.f
    rw [if_pos h]
  · obtain ⟨⟨s, n⟩, hd⟩ := drawSerialAdd_some (bytes_of w0)
    refine Ev.congr (fun k => ?_) (serials_j0 (bytes_of w1) s n)
    unfold laws_FnSerials.f
    rw [if_neg h, hd]
    simp only [Option.bind_some]
    rw [specAdd_eq, add_eq]
    simp

end Go.Proofs.Ytkbhmikjnoncfaa.Pure
