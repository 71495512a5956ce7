/- FnExactSuffixesOf: part 20 of 21 of my texts for this claim, joined; the theorem stands in the last. Conditions: none beyond the statement's. -/
import Derived.Test.YtomcfhbmdoomlaaDoorMFnExactSuffixesOfx14
import Derived.Test.YtomcfhbmdoomlaaDoorMFnExactSuffixesOfx15
import Derived.Test.YtomcfhbmdoomlaaDoorMFnExactSuffixesOfx18
import Derived.Test.YtomcfhbmdoomlaaDoorMFnExactSuffixesOfx16
-- PureMarkI
/- The laws' own helpers on lists of whole numbers: like lists are found alike, marks that were laid are held. Conditions: the lists' lengths. -/
namespace Go.Proofs.YtomcfhbmdoomlaaDoor.Pure
open Go.RowKit Go.Proofs.YtomcfhbmdoomlaaDoor.P Go.Proofs.YtomcfhbmdoomlaaDoorW.PrintWords Go.Proofs.YtomcfhbmdoomlaaDoorW.PrintLast
set_option linter.unusedVariables false
set_option linter.unusedSimpArgs false

theorem mI_w {n : Nat} (h : n < 4611686018427387904) : wrap64 ((n : Int) + 1) = ((n + 1 : Nat) : Int) := by unfold wrap64; omega
theorem mI_rd (l : List Int) (i : Nat) (h : i < l.length) : rd l (i : Int) = l[i] := by
  unfold rd
  rw [Int.toNat_natCast, List.getD_eq_getElem?_getD, List.getElem?_eq_getElem h]
  rfl
theorem eqI_loop (l : List Int) (hl : l.length < 1099511627776) : ∀ (m i : Nat), i + m = l.length → laws_eqIntS.l0 (m + 1) l l (i : Int) = some true
  | 0, i, h => by
    unfold laws_eqIntS.l0
    rw [if_neg (by omega)]
  | m + 1, i, h => by
    unfold laws_eqIntS.l0
    rw [if_pos (by omega), if_pos (by omega), if_pos (by omega), if_pos rfl, mI_w (by omega), eqI_loop l hl m (i + 1) (by omega)]
theorem eqI_ev (l : List Int) (hl : l.length < 1099511627776) : Ev (fun k => laws_eqIntS.f k l l) true := by
  refine Ev.of (fun k => laws_eqIntS.mono _ _ _) (k := l.length + 1) ?_
  unfold laws_eqIntS.f
  rw [if_pos rfl]
  exact eqI_loop l hl l.length 0 (by omega)
def marksI (a n : Nat) : List Int := (List.range n).map fun j => ((a + j : Nat) : Int)
theorem marksI_len (a n : Nat) : (marksI a n).length = n := by simp [marksI]
theorem markI_loop (a : Nat) (ha : a < 1000000) : ∀ (m i : Nat) (l : List Int), i + m = l.length → l.length < 274877906944 → l.take i = marksI a i →
    laws_markIntS.l0 (m + 1) l ((a + i : Nat) : Int) (i : Int) = some (((a + l.length : Nat) : Int), marksI a l.length)
  | 0, i, l, h, hl, ht => by
    unfold laws_markIntS.l0
    rw [if_neg (by omega), show i = l.length by omega] at *
    rw [List.take_length] at ht
    rw [← ht]
  | m + 1, i, l, h, hl, ht => by
    have ih := markI_loop a ha m (i + 1) (l.set i ((a + i : Nat) : Int)) (by rw [List.length_set]; omega) (by rw [List.length_set]; omega) (by
      rw [List.take_set, List.take_add_one, ht, List.getElem?_eq_getElem (by omega)]
      unfold marksI
      rw [List.range_succ, List.map_append]
      simp [List.set_append])
    rw [List.length_set] at ih
    conv => lhs; unfold laws_markIntS.l0
    rw [if_pos (by omega), mI_w (by omega), mI_w (by omega), if_pos (by omega), Int.toNat_natCast]
    exact ih
theorem markI_ev (a : Nat) (ha : a < 1000000) (l : List Int) (hl : l.length < 274877906944) : Ev (fun k => laws_markIntS.f k l (a : Int)) (((a + l.length : Nat) : Int), marksI a l.length) :=
  Ev.of (fun k => laws_markIntS.mono _ _ _) (k := l.length + 1) (markI_loop a ha l.length 0 l (by omega) hl (by simp [marksI]))
theorem heldI_loop (a n : Nat) (ha : a < 1000000) (hn : n < 274877906944) : ∀ (m i : Nat), i + m = n →
    laws_heldIntS.l0 (m + 1) (marksI a n) ((a + i : Nat) : Int) (i : Int) = some ((a + n : Nat) : Int)
  | 0, i, h => by
    unfold laws_heldIntS.l0
    rw [marksI_len, if_neg (by omega), show i = n by omega]
  | m + 1, i, h => by
    have hg : rd (marksI a n) (i : Int) = ((a + i : Nat) : Int) := by
      rw [mI_rd _ _ (by rw [marksI_len]; omega)]
      simp [marksI]
    conv => lhs; unfold laws_heldIntS.l0
    rw [marksI_len, if_pos (by omega), if_pos (by omega), hg, if_pos rfl, mI_w (by omega), mI_w (by omega)]
    exact heldI_loop a n ha hn m (i + 1) (by omega)
theorem heldI_ev (a n : Nat) (ha : a < 1000000) (hn : n < 274877906944) : Ev (fun k => laws_heldIntS.f k (marksI a n) (a : Int)) ((a + n : Nat) : Int) :=
  Ev.of (fun k => laws_heldIntS.mono _ _ _) (k := n + 1) (heldI_loop a n ha hn n 0 (by omega))
end Go.Proofs.YtomcfhbmdoomlaaDoor.Pure

-- PureFnExactSuffixesOf
/- 'laws.FnExactSuffixesOf' returns true: the reference and the program return the same. Conditions: the text's size. -/
namespace Go.Proofs.YtomcfhbmdoomlaaDoor.Pure
open Go.RowKit Go.Proofs.YtomcfhbmdoomlaaDoor.P Go.Proofs.YtomcfhbmdoomlaaDoorW.PrintWords Go.Proofs.YtomcfhbmdoomlaaDoorW.PrintLast
set_option linter.unusedVariables false
set_option linter.unusedSimpArgs false

theorem suffixes_loops (s : ByteArray) (hs : s.size ≤ 600) : ∀ (n a : Nat) (acc : List Int), s.size - a ≤ n → a ≤ s.size → acc.length + 9 * n ≤ 100000 →
    ∃ r, Ev (fun k => spec_l2Suffixes.l0 k s acc (a : Int)) r ∧ Ev (fun k => impl_suffixesOf.l0 k s acc (a : Int)) r ∧ r.length ≤ 100000
  | n, a, acc, hn, ha, hl => by
    by_cases h : (a : Int) < (s.size : Int)
    · obtain ⟨r, r', g1, g2, g3, g4⟩ := take_both s hs a ha
      have es : ∀ k, spec_l2Suffixes.l0 (k + 1) s acc (a : Int) = (spec_l2Take.f k s (a : Int)).bind fun bt178 => (if bt178.2.2.2 = true then (if acc.length + bt178.2.2.1.length < 17592186044416 then (spec_l2Suffixes.l0 k s (acc ++ bt178.2.2.1) bt178.2.1) else (none)) else (some acc)) := fun k => by
        conv => lhs; unfold spec_l2Suffixes.l0
        rw [if_pos h]
      have ei : ∀ k, impl_suffixesOf.l0 (k + 1) s acc (a : Int) = (impl_takeName.f k s (a : Int)).bind fun bt193 => (if bt193.2.2.2 = true then (if acc.length + bt193.2.1.length < 17592186044416 then (impl_suffixesOf.l0 k s (acc ++ bt193.2.1) bt193.2.2.1) else (none)) else (some acc)) := fun k => by
        conv => lhs; unfold impl_suffixesOf.l0
        rw [if_pos h]
      by_cases hr : r.2.2.2 = true
      · obtain ⟨q1, q2, q3, q4, q5, q6⟩ := g4 hr
        obtain ⟨b, hb⟩ : ∃ b : Nat, r.2.1 = (b : Int) := ⟨r.2.1.toNat, by omega⟩
        obtain ⟨t, f1, f2, f3⟩ := suffixes_loops s hs (n - 1) b (acc ++ r.2.2.1) (by omega) (by omega) (by rw [List.length_append]; omega)
        refine ⟨t, Ev.step es (Ev.bind g1 ?_), Ev.step ei (Ev.bind g2 ?_), f3⟩
        · simp only [if_pos hr, if_pos (show acc.length + r.2.2.1.length < 17592186044416 by omega), hb]
          exact f1
        · rw [g3] at hr
          simp only [if_pos hr, ← q3, ← q2, if_pos (show acc.length + r.2.2.1.length < 17592186044416 by omega), hb]
          exact f2
      · refine ⟨acc, Ev.step es (Ev.bind g1 ?_), Ev.step ei (Ev.bind g2 ?_), by omega⟩
        · simp only [if_neg hr]; exact Ev.now _
        · rw [g3] at hr
          simp only [if_neg hr]; exact Ev.now _
    · refine ⟨acc, Ev.step (f := fun _ => some acc) (fun k => ?_) (Ev.now _), Ev.step (f := fun _ => some acc) (fun k => ?_) (Ev.now _), by omega⟩
      · show spec_l2Suffixes.l0 (k + 1) s acc (a : Int) = _
        conv => lhs; unfold spec_l2Suffixes.l0
        rw [if_neg h]
      · show impl_suffixesOf.l0 (k + 1) s acc (a : Int) = _
        conv => lhs; unfold impl_suffixesOf.l0
        rw [if_neg h]
  termination_by n => n
theorem suffixesof_both (s : ByteArray) (hs : s.size ≤ 1048576) : ∃ r, Ev (fun k => spec_SuffixesOf.f k s) r ∧ Ev (fun k => impl_SuffixesOf.f k s) r ∧ r.1.length ≤ 100000 := by
  by_cases h6 : (s.size : Int) > 600
  · exact ⟨([], false), Ev.congr (fun k => by unfold spec_SuffixesOf.f; rw [if_pos h6]) (Ev.now _), Ev.congr (fun k => by unfold impl_SuffixesOf.f; rw [if_pos h6]) (Ev.now _), by simp⟩
  · obtain ⟨r, f1, f2, f3⟩ := suffixes_loops s (by omega) s.size 0 [] (by omega) (by omega) (by simp; omega)
    exact ⟨(r, true), Ev.congr (fun k => by unfold spec_SuffixesOf.f; rw [if_neg h6]; rfl) (Ev.bind (f := fun _ t => some (t, true)) f1 (Ev.now _)), Ev.congr (fun k => by unfold impl_SuffixesOf.f; rw [if_neg h6]; rfl) (Ev.bind (f := fun _ t => some (t, true)) f2 (Ev.now _)), f3⟩
theorem FnExactSuffixesOf : laws_FnExactSuffixesOf.Pure := by
  intro a0 _
  suffices h : Ev (fun k => laws_FnExactSuffixesOf.f k a0) true from h.rounds
  by_cases h : (a0.size : Int) > 1048576
  · exact Ev.congr (fun k => by unfold laws_FnExactSuffixesOf.f; rw [if_pos h]) (Ev.now true)
  · obtain ⟨r, e1, e2, hl⟩ := suffixesof_both a0 (by omega)
    refine Ev.congr (fun k => by unfold laws_FnExactSuffixesOf.f; rw [if_neg h]) (Ev.bind e1 (Ev.bind e2 ?_))
    refine Ev.bind (eqI_ev r.1 (by omega)) ?_
    simp only [if_true, bne_self_eq_false]
    refine Ev.step (f := fun k => (laws_markIntS.f k r.1 1).bind fun bt218 => ((laws_heldIntS.f k bt218.2 1).bind fun t220 => (if t220 < 0 then (some false) else (if t220 = bt218.1 then ((impl_SuffixesOf.f k a0).bind fun bt221 => ((laws_eqIntS.f k bt221.1 r.1).bind fun t225 => (if t225 = true then (laws_FnExactSuffixesOf.j1 k bt218.2 bt218.1 (bt221.2 != r.2)) else (laws_FnExactSuffixesOf.j1 k bt218.2 bt218.1 true)))) else (some false))))) (fun k => ?_) ?_
    · show laws_FnExactSuffixesOf.j0 (k + 1) a0 r.1 r.2 r.1 false = _
      conv => lhs; unfold laws_FnExactSuffixesOf.j0
      rfl
    refine Ev.bind (markI_ev 1 (by omega) r.1 (by omega)) ?_
    have hh : Ev (fun k => laws_heldIntS.f k (marksI 1 r.1.length) 1) ((1 + r.1.length : Nat) : Int) := heldI_ev 1 r.1.length (by omega) (by omega)
    refine Ev.bind hh ?_
    simp only [if_neg (show ¬ ((1 + r.1.length : Nat) : Int) < 0 by omega), if_true]
    refine Ev.bind e2 (Ev.bind (eqI_ev r.1 (by omega)) ?_)
    simp only [if_true, bne_self_eq_false]
    refine Ev.step (f := fun k => (laws_heldIntS.f k (marksI 1 r.1.length) 1).bind fun t226 => (if t226 < 0 then (some false) else (if t226 = ((1 + r.1.length : Nat) : Int) then (some true) else (some false)))) (fun k => ?_) ?_
    · show laws_FnExactSuffixesOf.j1 (k + 1) (marksI 1 r.1.length) ((1 + r.1.length : Nat) : Int) false = _
      conv => lhs; unfold laws_FnExactSuffixesOf.j1
      rfl
    refine Ev.bind hh ?_
    simp only [if_neg (show ¬ ((1 + r.1.length : Nat) : Int) < 0 by omega), if_true]
    exact Ev.now _
end Go.Proofs.YtomcfhbmdoomlaaDoor.Pure
