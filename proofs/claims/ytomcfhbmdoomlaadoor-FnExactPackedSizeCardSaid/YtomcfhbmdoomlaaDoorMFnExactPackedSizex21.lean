/- FnExactPackedSize: part 22 of 27 of my texts for this claim, joined; the theorem stands in the last. Conditions: none beyond the statement's. -/
import Derived.Test.YtomcfhbmdoomlaaDoorMFnExactPackedSizex6
import Derived.Test.YtomcfhbmdoomlaaDoorMFnExactPackedSizex5
import Derived.Test.YtomcfhbmdoomlaaDoorMFnExactPackedSizex8
import Derived.Test.YtomcfhbmdoomlaaDoorMFnExactPackedSizex14
import Derived.Test.YtomcfhbmdoomlaaDoorMFnExactPackedSizex20
import Derived.Test.YtomcfhbmdoomlaaDoorMFnExactPackedSizex15
import Derived.Test.YtomcfhbmdoomlaaDoorMFnExactPackedSizex9
-- PurePar
/- The name behind the first label: the reference and the program return the same. Conditions: the texts' sizes. (A part of PureBelow, for seats that lack spec.l1Below.) -/
namespace Go.Proofs.YtomcfhbmdoomlaaDoor.Pure
open Go.RowKit Go.Proofs.YtomcfhbmdoomlaaDoor.P Go.Proofs.YtomcfhbmdoomlaaDoorW.PrintWords Go.Proofs.YtomcfhbmdoomlaaDoorW.PrintLast
set_option linter.unusedVariables false
set_option linter.unusedSimpArgs false

/-- What is behind the first dot. -/
def parL : List UInt8 → List UInt8
  | [] => []
  | x :: xs => if x = 46 then xs else parL xs
theorem parL_len (l : List UInt8) : (parL l).length ≤ l.length - 1 := by
  induction l with
  | nil => simp [parL]
  | cons x xs ih =>
    unfold parL
    split
    · simp
    · simp at ih ⊢; omega
theorem parL_hit (p r : List UInt8) (h : ∀ x ∈ p, x ≠ 46) : parL (p ++ 46 :: r) = r := by
  induction p with
  | nil => simp [parL]
  | cons x xs ih => rw [List.cons_append, parL, if_neg (h x List.mem_cons_self), ih fun y hy => h y (List.mem_cons_of_mem _ hy)]
theorem parL_none (l : List UInt8) (h : ∀ x ∈ l, x ≠ 46) : parL l = [] := by
  induction l with
  | nil => rfl
  | cons x xs ih => rw [parL, if_neg (h x List.mem_cons_self), ih fun y hy => h y (List.mem_cons_of_mem _ hy)]

theorem parent_loop (s : ByteArray) (hs : s.size < 1099511627776) : ∀ (m i : Nat), i + m = s.size →
    spec_l1Parent.l0 (m + 1) s (i : Int) = some (mkB (parL (s.data.toList.drop i)))
  | 0, i, him => by
    unfold spec_l1Parent.l0
    rw [if_neg (by omega), List.drop_of_length_le (by rw [← size_len]; omega)]
    rfl
  | m + 1, i, him => by
    have hi : i < s.data.toList.length := by rw [← size_len]; omega
    unfold spec_l1Parent.l0
    rw [if_pos (by omega), if_pos (by omega), w64n (by omega), bt_list s i hi, List.drop_eq_getElem_cons hi]
    unfold parL
    by_cases h : s.data.toList[i] = 46
    · rw [if_pos (by rw [h]; rfl), if_pos h, if_pos (by omega), if_pos (by omega), Int.toNat_natCast, ext_end]
    · rw [if_neg (by intro e; apply h; apply UInt8.toNat_inj.1; simpa using Int.ofNat.inj e), if_neg h, parent_loop s hs m (i + 1) (by omega)]
theorem specParent_ev (s : ByteArray) (hs : s.size < 1099511627776) : Ev (fun k => spec_l1Parent.f k s) (mkB (parL s.data.toList)) := by
  refine Ev.of (fun k => spec_l1Parent.mono _ _) (k := s.size + 1) ?_
  unfold spec_l1Parent.f
  have := parent_loop s hs s.size 0 (by omega)
  simpa using this
theorem implParent_eq (s : ByteArray) (hs : s.size < 4611686018427387904) : impl_parentOf.f s = some (mkB (parL s.data.toList)) := by
  unfold impl_parentOf.f strings_Cut.f stringslite_Cut.f internal_stringslite_Index.f
  rw [if_pos (show (⟨#[46]⟩ : ByteArray).size = 1 from rfl)]
  simp only [Option.bind_some]
  rw [show List.headD (⟨#[46]⟩ : ByteArray).data.toList 0 = 46 from rfl, show (⟨#[46]⟩ : ByteArray).size = 1 from rfl]
  rcases place_or 46 s.data.toList with ⟨h1, h2⟩ | ⟨p, r, h1, h2, h3⟩
  · rw [h1, if_neg (by omega), parL_none _ h2]
    rfl
  · have hl : p.length + (r.length + 1) = s.size := by rw [size_len, h1]; simp
    rw [h3, show (((1 : Nat) : Int)) = 1 from rfl, w64n (by omega), if_pos (by omega), if_pos (by omega), if_pos (by omega), if_pos (by omega), if_pos (by omega), Int.toNat_natCast, Int.toNat_natCast, ext_end]
    simp only [Option.bind_some]
    have hd : s.data.toList.drop (p.length + 1) = r := by rw [h1, ← List.drop_drop, List.drop_left]; rfl
    rw [hd, h1, parL_hit p r h2]
end Go.Proofs.YtomcfhbmdoomlaaDoor.Pure

-- PurePut
/- Putting a name: the reference and the program return the same. Conditions: the texts are short. -/
namespace Go.Proofs.YtomcfhbmdoomlaaDoor.Pure
open Go.RowKit Go.Proofs.YtomcfhbmdoomlaaDoor.P Go.Proofs.YtomcfhbmdoomlaaDoorW.PrintWords Go.Proofs.YtomcfhbmdoomlaaDoorW.PrintLast
set_option linter.unusedVariables false
set_option linter.unusedSimpArgs false
set_option linter.unusedSectionVars false
theorem put_good_par {s : List UInt8} (h : goodL s = true) : goodL (parL s) = true := by
  rcases place_or 46 s with ⟨_, h1⟩ | ⟨p, r, h1, h2, _⟩
  · rw [parL_none s h1]; decide
  · have hr : parL s = r := by rw [h1]; exact parL_hit p r h2
    have hs : splitL 46 s = p :: splitL 46 r := by rw [h1]; exact splitL_hit 46 p _ h2
    have hne : s ≠ [] := by intro e; rw [e] at h1; simp at h1
    have hl := parL_len s
    rw [hr] at hl ⊢
    unfold goodL at h ⊢
    rw [show labelsL s = splitL 46 s by unfold labelsL; rw [if_neg hne], hs] at h
    simp only [Bool.and_eq_true, decide_eq_true_eq, List.length_cons, List.all_cons] at h ⊢
    unfold labelsL
    split
    · exact ⟨by omega, by simp, rfl⟩
    · exact ⟨by omega, by omega, h.2.2.2⟩
theorem cut_first (s : ByteArray) (hs : s.size < 4611686018427387904) : ∃ q2 q3, strings_Cut.f s (⟨#[46]⟩ : ByteArray) = some (mkB ((splitL 46 s.data.toList).headD []), q2, q3) := by
  unfold strings_Cut.f stringslite_Cut.f internal_stringslite_Index.f
  rw [if_pos (show (⟨#[46]⟩ : ByteArray).size = 1 from rfl)]
  simp only [Option.bind_some]
  rw [show List.headD (⟨#[46]⟩ : ByteArray).data.toList 0 = 46 from rfl, show (⟨#[46]⟩ : ByteArray).size = 1 from rfl]
  rcases place_or 46 s.data.toList with ⟨h1, h2⟩ | ⟨p, r, h1, h2, h3⟩
  · rw [h1, if_neg (by omega), splitL_none _ _ h2]
    exact ⟨_, _, by show some (s, _, _) = some (mkB s.data.toList, _, _); rw [data_mkB]⟩
  · have hl : p.length + (r.length + 1) = s.size := by rw [size_len, h1]; simp
    rw [h3, show (((1 : Nat) : Int)) = 1 from rfl, w64n (by omega), if_pos (by omega), if_pos (by omega), if_pos (by omega), if_pos (by omega), if_pos (by omega), Int.toNat_natCast, Int.toNat_natCast, ext_mkB]
    refine ⟨s.extract (p.length + 1) s.size, true, ?_⟩
    have e : (s.data.toList.drop 0).take (p.length - 0) = (splitL 46 s.data.toList).headD [] := by
      rw [h1, splitL_hit 46 p r h2]
      simp
    rw [e]
    rfl
section
variable (s : ByteArray) (hs : s.size ≤ 600)
include hs
theorem suff2 : ∀ (n a : Nat) (acc : List Int), s.size - a ≤ n → a ≤ s.size → acc.length + 9 * n ≤ 100000 → (∀ x ∈ acc, 0 ≤ x ∧ x < (s.size : Int)) →
    ∃ r, Ev (fun k => spec_l2Suffixes.l0 k s acc (a : Int)) r ∧ Ev (fun k => impl_suffixesOf.l0 k s acc (a : Int)) r ∧ r.length ≤ 100000 ∧ ∀ x ∈ r, 0 ≤ x ∧ x < (s.size : Int)
  | n, a, acc, hn, ha, hl, hacc => by
    by_cases h : (a : Int) < (s.size : Int)
    · obtain ⟨r, r', g1, g2, g3, g4⟩ := take_both2 s hs a ha
      have es : ∀ k, spec_l2Suffixes.l0 (k + 1) s acc (a : Int) = (spec_l2Take.f k s (a : Int)).bind fun bt178 => (if bt178.2.2.2 = true then (if acc.length + bt178.2.2.1.length < 17592186044416 then (spec_l2Suffixes.l0 k s (acc ++ bt178.2.2.1) bt178.2.1) else (none)) else (some acc)) := fun k => by
        conv => lhs; unfold spec_l2Suffixes.l0
        rw [if_pos h]
      have ei : ∀ k, impl_suffixesOf.l0 (k + 1) s acc (a : Int) = (impl_takeName.f k s (a : Int)).bind fun bt193 => (if bt193.2.2.2 = true then (if acc.length + bt193.2.1.length < 17592186044416 then (impl_suffixesOf.l0 k s (acc ++ bt193.2.1) bt193.2.2.1) else (none)) else (some acc)) := fun k => by
        conv => lhs; unfold impl_suffixesOf.l0
        rw [if_pos h]
      by_cases hr : r.2.2.2 = true
      · obtain ⟨q1, q2, q3, q4, q5, q6, q7⟩ := g4 hr
        obtain ⟨b, hb⟩ : ∃ b : Nat, r.2.1 = (b : Int) := ⟨r.2.1.toNat, by omega⟩
        obtain ⟨t, f1, f2, f3⟩ := suff2 (n - 1) b (acc ++ r.2.2.1) (by omega) (by omega) (by rw [List.length_append]; omega) (by
          intro x hx
          rcases List.mem_append.1 hx with hx | hx
          · exact hacc x hx
          · exact q7 x hx)
        refine ⟨t, Ev.step es (Ev.bind g1 ?_), Ev.step ei (Ev.bind g2 ?_), f3⟩
        · simp only [if_pos hr, if_pos (show acc.length + r.2.2.1.length < 17592186044416 by omega), hb]
          exact f1
        · rw [g3] at hr
          simp only [if_pos hr, ← q3, ← q2, if_pos (show acc.length + r.2.2.1.length < 17592186044416 by omega), hb]
          exact f2
      · refine ⟨acc, Ev.step es (Ev.bind g1 ?_), Ev.step ei (Ev.bind g2 ?_), by omega, hacc⟩
        · simp only [if_neg hr]; exact Ev.now _
        · rw [g3] at hr
          simp only [if_neg hr]; exact Ev.now _
    · refine ⟨acc, Ev.step (f := fun _ => some acc) (fun k => ?_) (Ev.now _), Ev.step (f := fun _ => some acc) (fun k => ?_) (Ev.now _), by omega, hacc⟩
      · show spec_l2Suffixes.l0 (k + 1) s acc (a : Int) = _
        conv => lhs; unfold spec_l2Suffixes.l0
        rw [if_neg h]
      · show impl_suffixesOf.l0 (k + 1) s acc (a : Int) = _
        conv => lhs; unfold impl_suffixesOf.l0
        rw [if_neg h]
  termination_by n => n
theorem pick_pred (rest : ByteArray) : ∃ P : Int → Bool, ∀ x, 0 ≤ x ∧ x < (s.size : Int) → ∃ r, Ev (fun k => spec_l2Take.f k s x) r ∧ (r.2.2.2 && (r.1.toList == rest.toList)) = P x ∧ ∃ K, ∀ k, K ≤ k → (impl_takeName.f k s x).isSome = true ∧ putP k s rest x = P x := by
  have key : ∀ x, 0 ≤ x ∧ x < (s.size : Int) → ∃ v : Bool, ∃ r, Ev (fun k => spec_l2Take.f k s x) r ∧ (r.2.2.2 && (r.1.toList == rest.toList)) = v ∧ ∃ K, ∀ k, K ≤ k → (impl_takeName.f k s x).isSome = true ∧ putP k s rest x = v := by
    intro x hx
    obtain ⟨a, rfl⟩ : ∃ a : Nat, x = (a : Int) := ⟨x.toNat, by omega⟩
    obtain ⟨r, r', g1, ⟨K, g2⟩, g3, g4⟩ := take_both s hs a (by omega)
    refine ⟨_, r, g1, rfl, K, fun k hk => ?_⟩
    have e : impl_takeName.f k s (a : Int) = some r' := g2 k hk
    refine ⟨by rw [e]; rfl, ?_⟩
    unfold putP
    rw [e]
    show (r'.2.2.2 && (r'.1.toList == rest.toList)) = _
    by_cases hr : r.2.2.2 = true
    · rw [← g3, (g4 hr).1]
    · rw [← g3, Bool.eq_false_iff.mpr hr]
      rfl
  refine ⟨fun x => if h : 0 ≤ x ∧ x < (s.size : Int) then (key x h).choose else false, fun x hx => ?_⟩
  simp only [dif_pos hx]
  exact (key x hx).choose_spec
theorem put_rounds (rest : ByteArray) (P : Int → Bool) (hP : ∀ x, 0 ≤ x ∧ x < (s.size : Int) → ∃ K, ∀ k, K ≤ k → (impl_takeName.f k s x).isSome = true ∧ putP k s rest x = P x) : ∀ (places : List Int), (∀ x ∈ places, 0 ≤ x ∧ x < (s.size : Int)) →
    ∃ K, ∀ k, K ≤ k → ∀ x ∈ places, (impl_takeName.f k s x).isSome = true ∧ putP k s rest x = P x
  | [], _ => ⟨0, fun _ _ x hx => by cases hx⟩
  | y :: ys, h => by
    obtain ⟨K1, h1⟩ := hP y (h y List.mem_cons_self)
    obtain ⟨K2, h2⟩ := put_rounds rest P hP ys fun x hx => h x (List.mem_cons_of_mem _ hx)
    refine ⟨max K1 K2, fun k hk x hx => ?_⟩
    rcases List.mem_cons.1 hx with rfl | hx
    · exact h1 k (by omega)
    · exact h2 k (by omega) x hx
/-- What the reference does where no place fits. -/
def putTail (k : Nat) (b rest : ByteArray) (places : List Int) (head : ByteArray) : Option ByteArray := (spec_l1Labels.f k rest).bind fun bt294 => (if 0 < (bt294.1.length : Int) then ((some (([(((rdOf ByteArray.empty bt294.1 0).size : Int)) % 256] : List Int) : List Int)).bind fun y299 => (if (strOfNums y299).size + (rdOf ByteArray.empty bt294.1 0).size ≤ 9223372036854775807 then (if head.size + ((strOfNums y299) ++ (rdOf ByteArray.empty bt294.1 0)).size ≤ 9223372036854775807 then ((spec_l1Parent.f k rest).bind fun t303 => (spec_l2Put.l0 k b t303 places (head ++ ((strOfNums y299) ++ (rdOf ByteArray.empty bt294.1 0))))) else (none)) else (none))) else (none))
theorem put_places (rest head : ByteArray) (hh : head.size ≤ 2000) (P : Int → Bool) (places : List Int) (hl : places.length ≤ 100000) (hr : ∀ x ∈ places, 0 ≤ x ∧ x < (s.size : Int))
    (hP : ∀ x, 0 ≤ x ∧ x < (s.size : Int) → ∃ r, Ev (fun k => spec_l2Take.f k s x) r ∧ (r.2.2.2 && (r.1.toList == rest.toList)) = P x) : ∀ (m i : Nat), i + m = places.length → (∀ j y, j < i → places[j]? = some y → P y = false) →
    (0 ≤ idxP P places 0 ∧ Ev (fun k => spec_l2Put.l1 k s rest places head places (places.length : Int) (i : Int)) ((s ++ head) ++ strOfNums [(wrap64 (192 + (wrap64 (Int.tdiv (rd places (idxP P places 0)) 256)))) % 256, (rd places (idxP P places 0)) % 256])) ∨
    (¬ 0 ≤ idxP P places 0 ∧ ∀ r, Ev (fun k => putTail k s rest places head) r → Ev (fun k => spec_l2Put.l1 k s rest places head places (places.length : Int) (i : Int)) r)
  | 0, i, him, hn => by
    right
    have hm : idxP P places 0 = -1 := idxP_miss P places 0 (fun y hy => by obtain ⟨j, hj, e⟩ := List.mem_iff_getElem.1 hy; exact hn j y (by omega) (by rw [List.getElem?_eq_getElem hj, e]))
    refine ⟨by omega, fun r hr2 => Ev.step (fun k => ?_) hr2⟩
    show spec_l2Put.l1 (k + 1) s rest places head places (places.length : Int) (i : Int) = _
    conv => lhs; unfold spec_l2Put.l1
    rw [if_neg (by omega)]
    rfl
  | m + 1, i, him, hn => by
    have hi : i < places.length := by omega
    have hrd : rd places (i : Int) = places[i] := by
      unfold rd
      rw [Int.toNat_natCast, List.getD_eq_getElem?_getD, List.getElem?_eq_getElem hi]
      rfl
    obtain ⟨t, e1, e2⟩ := hP places[i] (hr _ (List.getElem_mem hi))
    have hstep : ∀ k, spec_l2Put.l1 (k + 1) s rest places head places (places.length : Int) (i : Int) = (spec_l2Take.f k s places[i]).bind fun bt285 => (if (bt285.2.2.2 && (bt285.1.toList == rest.toList)) = true then some ((s ++ head) ++ strOfNums [(wrap64 (192 + (wrap64 (Int.tdiv places[i] 256)))) % 256, places[i] % 256]) else spec_l2Put.l1 k s rest places head places (places.length : Int) ((i + 1 : Nat) : Int)) := by
      intro k
      conv => lhs; unfold spec_l2Put.l1
      have hy : ∀ y1 y2 : Int, (strOfNums [y1, y2]).size = 2 := fun y1 y2 => by rw [strOfNums_size]; rfl
      rw [if_pos (by omega), if_pos (by omega), if_pos (by omega), hrd, w64n (by omega), if_pos (show s.size + head.size ≤ 9223372036854775807 by omega), Option.bind_some, if_pos (by rw [hy, ByteArray.size_append]; omega)]
      congr 1
      funext bt
      by_cases h1 : bt.2.2.2 = true
      · rw [if_pos h1, h1, Bool.true_and]
        by_cases h2 : bt.1.toList = rest.toList
        · rw [if_pos h2, if_pos (by rw [h2]; simp)]
        · rw [if_neg h2, if_neg (by rw [beq_iff_eq]; exact h2)]
      · rw [if_neg h1, Bool.eq_false_iff.mpr h1, Bool.false_and, if_neg (by simp)]
    cases hp : P places[i] with
    | true =>
      left
      have hx : idxP P places 0 = (i : Int) := by rw [idxP_hit P places 0 i places[i] (List.getElem?_eq_getElem hi) hp hn]; omega
      rw [hx, hrd]
      refine ⟨by omega, Ev.step hstep (Ev.bind e1 ?_)⟩
      rw [e2, hp]
      exact Ev.now _
    | false =>
      rcases put_places rest head hh P places hl hr hP m (i + 1) (by omega) (fun j y hj hy => by
        by_cases e : j = i
        · subst e
          rw [List.getElem?_eq_getElem hi] at hy
          cases hy
          exact hp
        · exact hn j y (by omega) hy) with ⟨g1, g2⟩ | ⟨g1, g2⟩
      · left
        refine ⟨g1, Ev.step hstep (Ev.bind e1 ?_)⟩
        rw [e2, hp]
        exact g2
      · right
        refine ⟨g1, fun r hr2 => Ev.step hstep (Ev.bind e1 ?_)⟩
        rw [e2, hp]
        exact g2 r hr2
theorem put_loops (places : List Int) (hl : places.length ≤ 100000) (hr : ∀ x ∈ places, 0 ≤ x ∧ x < (s.size : Int)) : ∀ (n : Nat) (rest head : ByteArray), rest.size ≤ n → n ≤ 60 → goodL rest.data.toList = true → head.size + 21 * n ≤ 2000 →
    ∃ r, Ev (fun k => spec_l2Put.l0 k s rest places head) r ∧ Ev (fun k => impl_putName.l0 k s places head rest) r
  | n, rest, head, hn, h60, hg, hh => by
    have h0 : (⟨#[0]⟩ : ByteArray).size = 1 := rfl
    by_cases hne : rest.toList = ([] : List UInt8)
    · refine ⟨(s ++ head) ++ (⟨#[0]⟩ : ByteArray), Ev.step (f := fun _ => some _) (fun k => ?_) (Ev.now _), Ev.step (f := fun _ => some _) (fun k => ?_) (Ev.now _)⟩
      · show spec_l2Put.l0 (k + 1) s rest places head = _
        unfold spec_l2Put.l0
        rw [if_pos hne, if_pos (by omega), if_pos (by rw [ByteArray.size_append]; omega)]
      · show impl_putName.l0 (k + 1) s places head rest = _
        unfold impl_putName.l0
        rw [if_pos hne, if_pos (by omega)]
    · obtain ⟨P, hP⟩ := pick_pred s hs rest
      obtain ⟨K, hK⟩ := put_rounds s hs rest P (fun x hx => (hP x hx).choose_spec.2.2) places hr
      have hK2 : ∀ k, K ≤ k → putDef k s places = true ∧ idxP (putP k s rest) places 0 = idxP P places 0 := fun k hk => ⟨List.all_eq_true.2 fun x hx => (hK k hk x hx).1, idxP_congr _ _ places 0 fun x hx => (hK k hk x hx).2⟩
      have es : ∀ k, spec_l2Put.l0 (k + 1) s rest places head = spec_l2Put.l1 k s rest places head places (places.length : Int) ((0 : Nat) : Int) := fun k => by
        conv => lhs; unfold spec_l2Put.l0
        rw [if_neg hne]
        rfl
      rcases put_places s hs rest head (by omega) P places hl hr (fun x hx => by obtain ⟨r, a1, a2, _⟩ := hP x hx; exact ⟨r, a1, a2⟩) places.length 0 (by omega) (fun j y hj => absurd hj (Nat.not_lt_zero _)) with ⟨g1, g2⟩ | ⟨g1, g2⟩
      · refine ⟨_, Ev.step es g2, ⟨K + 1, fun k hk => ?_⟩⟩
        obtain ⟨j, rfl⟩ : ∃ j, k = j + 1 := ⟨k - 1, by omega⟩
        obtain ⟨d1, d2⟩ := hK2 j (by omega)
        show impl_putName.l0 (j + 1) s places head rest = _
        conv => lhs; unfold impl_putName.l0
        rw [if_neg hne, if_pos d1, d2, if_pos g1, if_pos (by omega)]
      · have hnel : rest.data.toList ≠ [] := by rw [← Lib.toList_data]; exact hne
        obtain ⟨lab, l1, l2, l3⟩ := labels_ev rest (by omega)
        have l4 := l3 (l2.trans hg)
        have hsp : labelsL rest.data.toList = splitL 46 rest.data.toList := by unfold labelsL; rw [if_neg hnel]
        obtain ⟨p, ps, hp⟩ := List.exists_cons_of_ne_nil (splitL_ne 46 rest.data.toList)
        have hpl : p.length ≤ 60 := by have := splitL_part 46 rest.data.toList p (by rw [hp]; exact List.mem_cons_self); rw [← size_len] at this; omega
        have hpl20 : p.length ≤ 20 := by
          unfold goodL at hg
          rw [hsp, hp] at hg
          simp only [Bool.and_eq_true, List.all_cons] at hg
          exact label_size hg.2.2.1
        have hrd : rdOf ByteArray.empty lab.1 0 = mkB p := by rw [l4, hsp, hp]; rfl
        have hlen : 0 < (lab.1.length : Int) := by rw [l4, hsp, hp]; simp
        have h1s : ∀ v : Int, (strOfNums [v]).size = 1 := fun v => by rw [strOfNums_size]; rfl
        obtain ⟨q2, q3, hcut⟩ := cut_first rest (by omega)
        rw [hp] at hcut
        have hpar := implParent_eq rest (by omega)
        have hpos : 0 < rest.size := by rw [size_len]; exact List.length_pos_iff.2 hnel
        have hps : (mkB (parL rest.data.toList)).size < rest.size := by rw [mkB_size]; have := parL_len rest.data.toList; rw [← size_len] at this; omega
        obtain ⟨r, f1, f2⟩ := put_loops places hl hr (n - 1) (mkB (parL rest.data.toList)) (head ++ (strOfNums [((mkB p).size : Int) % 256] ++ mkB p)) (by omega) (by omega) (by rw [mkB_data]; exact put_good_par hg) (by rw [ByteArray.size_append, ByteArray.size_append, h1s, mkB_size]; omega)
        refine ⟨r, Ev.step es (g2 r ?_), ?_⟩
        · refine Ev.congr (fun k => rfl) (Ev.bind l1 ?_)
          simp only [hrd, if_pos hlen, Option.bind_some, if_pos (show (strOfNums [((mkB p).size : Int) % 256]).size + (mkB p).size ≤ 9223372036854775807 by rw [h1s, mkB_size]; omega), if_pos (show head.size + (strOfNums [((mkB p).size : Int) % 256] ++ mkB p).size ≤ 9223372036854775807 by rw [ByteArray.size_append, h1s, mkB_size]; omega)]
          exact Ev.bind (specParent_ev rest (by omega)) f1
        · obtain ⟨K3, f3⟩ := f2
          refine ⟨max K K3 + 1, fun k hk => ?_⟩
          obtain ⟨j, rfl⟩ : ∃ j, k = j + 1 := ⟨k - 1, by omega⟩
          obtain ⟨d1, d2⟩ := hK2 j (by omega)
          show impl_putName.l0 (j + 1) s places head rest = _
          conv => lhs; unfold impl_putName.l0
          rw [if_neg hne, if_pos d1, d2, if_neg g1, hcut, Option.bind_some]
          show (if head.size + (mkB p).size < 1099511627776 then ((impl_parentOf.f rest).bind fun q => impl_putName.l0 j s places (head ++ (strOfNums [(((mkB p).size : Int)) % 256] ++ mkB p)) q) else none) = some r
          rw [if_pos (by rw [mkB_size]; omega), hpar, Option.bind_some]
          exact f3 j (by omega)
  termination_by n rest => rest.size
theorem put_both (t : ByteArray) (ht : t.size ≤ 60) (hg : goodL t.data.toList = true) : ∃ r, Ev (fun k => spec_l2Put.f k s t) r ∧ Ev (fun k => impl_putName.f k s t) r := by
  obtain ⟨places, e1, e2, hl, hr⟩ := suff2 s hs s.size 0 [] (by omega) (by omega) (by simp; omega) (fun x hx => by cases hx)
  obtain ⟨r, f1, f2⟩ := put_loops s hs places hl hr 60 t (⟨#[]⟩ : ByteArray) ht (Nat.le_refl _) hg (by show 0 + 21 * 60 ≤ 2000; omega)
  exact ⟨r, Ev.congr (fun k => rfl) (Ev.bind e1 f1), Ev.congr (fun k => rfl) (Ev.bind e2 f2)⟩
end
end Go.Proofs.YtomcfhbmdoomlaaDoor.Pure
