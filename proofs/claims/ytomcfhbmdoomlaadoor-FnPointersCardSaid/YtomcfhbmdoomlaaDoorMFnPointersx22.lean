/- FnPointers: part 23 of 27 of my texts for this claim, joined; the theorem stands in the last. Conditions: none beyond the statement's. -/
import Derived.Test.YtomcfhbmdoomlaaDoorMFnPointersx21
import Derived.Test.YtomcfhbmdoomlaaDoorMFnPointersx11
import Derived.Test.YtomcfhbmdoomlaaDoorMFnPointersx10
import Derived.Test.YtomcfhbmdoomlaaDoorMFnPointersx2
import Derived.Test.YtomcfhbmdoomlaaDoorMFnPointersx12
import Derived.Test.YtomcfhbmdoomlaaDoorMFnPointersx5
-- PurePut
/- Putting a name: the reference and the program return the same. Conditions: the texts are short. -/
namespace Go.Proofs.YtomcfhbmdoomlaaDoor.Pure
open Go.RowKit Go.Proofs.YtomcfhbmdoomlaaDoor.P Go.Proofs.YtomcfhbmdoomlaaDoorW.PrintWords Go.Proofs.YtomcfhbmdoomlaaDoorW.PrintLast
set_option linter.unusedVariables false
set_option linter.unusedSimpArgs false
set_option linter.unusedSectionVars false
theorem put_good_par {s : List UInt8} (h : goodL s = true) : goodL (parL s) = true := by
  rcases place_or 46 s with ⟨_, h1⟩ | ⟨p, r, h1, h2, _⟩
  · rw [parL_none s h1]; decide
  · have hr : parL s = r := by rw [h1]; exact parL_hit p r h2
    have hs : splitL 46 s = p :: splitL 46 r := by rw [h1]; exact splitL_hit 46 p _ h2
    have hne : s ≠ [] := by intro e; rw [e] at h1; simp at h1
    have hl := parL_len s
    rw [hr] at hl ⊢
    unfold goodL at h ⊢
    rw [show labelsL s = splitL 46 s by unfold labelsL; rw [if_neg hne], hs] at h
    simp only [Bool.and_eq_true, decide_eq_true_eq, List.length_cons, List.all_cons] at h ⊢
    unfold labelsL
    split
    · exact ⟨by omega, by simp, rfl⟩
    · exact ⟨by omega, by omega, h.2.2.2⟩
theorem cut_first (s : ByteArray) (hs : s.size < 4611686018427387904) : ∃ q2 q3, strings_Cut.f s (⟨#[46]⟩ : ByteArray) = some (mkB ((splitL 46 s.data.toList).headD []), q2, q3) := by
  unfold strings_Cut.f stringslite_Cut.f internal_stringslite_Index.f
  rw [if_pos (show (⟨#[46]⟩ : ByteArray).size = 1 from rfl)]
  simp only [Option.bind_some]
  rw [show List.headD (⟨#[46]⟩ : ByteArray).data.toList 0 = 46 from rfl, show (⟨#[46]⟩ : ByteArray).size = 1 from rfl]
  rcases place_or 46 s.data.toList with ⟨h1, h2⟩ | ⟨p, r, h1, h2, h3⟩
  · rw [h1, if_neg (by omega), splitL_none _ _ h2]
    exact ⟨_, _, by show some (s, _, _) = some (mkB s.data.toList, _, _); rw [data_mkB]⟩
  · have hl : p.length + (r.length + 1) = s.size := by rw [size_len, h1]; simp
    rw [h3, show (((1 : Nat) : Int)) = 1 from rfl, w64n (by omega), if_pos (by omega), if_pos (by omega), if_pos (by omega), if_pos (by omega), if_pos (by omega), Int.toNat_natCast, Int.toNat_natCast, ext_mkB]
    refine ⟨s.extract (p.length + 1) s.size, true, ?_⟩
    have e : (s.data.toList.drop 0).take (p.length - 0) = (splitL 46 s.data.toList).headD [] := by
      rw [h1, splitL_hit 46 p r h2]
      simp
    rw [e]
    rfl
section
variable (s : ByteArray) (hs : s.size ≤ 600)
include hs
theorem suff2 : ∀ (n a : Nat) (acc : List Int), s.size - a ≤ n → a ≤ s.size → acc.length + 9 * n ≤ 100000 → (∀ x ∈ acc, 0 ≤ x ∧ x < (s.size : Int)) →
    ∃ r, Ev (fun k => spec_l2Suffixes.l0 k s acc (a : Int)) r ∧ Ev (fun k => impl_suffixesOf.l0 k s acc (a : Int)) r ∧ r.length ≤ 100000 ∧ ∀ x ∈ r, 0 ≤ x ∧ x < (s.size : Int)
  | n, a, acc, hn, ha, hl, hacc => by
    by_cases h : (a : Int) < (s.size : Int)
    · obtain ⟨r, r', g1, g2, g3, g4⟩ := take_both2 s hs a ha
      have es : ∀ k, spec_l2Suffixes.l0 (k + 1) s acc (a : Int) = (spec_l2Take.f k s (a : Int)).bind fun bt178 => (if bt178.2.2.2 = true then (if acc.length + bt178.2.2.1.length < 17592186044416 then (spec_l2Suffixes.l0 k s (acc ++ bt178.2.2.1) bt178.2.1) else (none)) else (some acc)) := fun k => by
        conv => lhs; unfold spec_l2Suffixes.l0
        rw [if_pos h]
      have ei : ∀ k, impl_suffixesOf.l0 (k + 1) s acc (a : Int) = (impl_takeName.f k s (a : Int)).bind fun bt193 => (if bt193.2.2.2 = true then (if acc.length + bt193.2.1.length < 17592186044416 then (impl_suffixesOf.l0 k s (acc ++ bt193.2.1) bt193.2.2.1) else (none)) else (some acc)) := fun k => by
        conv => lhs; unfold impl_suffixesOf.l0
        rw [if_pos h]
      by_cases hr : r.2.2.2 = true
      · obtain ⟨q1, q2, q3, q4, q5, q6, q7⟩ := g4 hr
        obtain ⟨b, hb⟩ : ∃ b : Nat, r.2.1 = (b : Int) := ⟨r.2.1.toNat, by omega⟩
        obtain ⟨t, f1, f2, f3⟩ := suff2 (n - 1) b (acc ++ r.2.2.1) (by omega) (by omega) (by rw [List.length_append]; omega) (by
          intro x hx
          rcases List.mem_append.1 hx with hx | hx
          · exact hacc x hx
          · exact q7 x hx)
        refine ⟨t, Ev.step es (Ev.bind g1 ?_), Ev.step ei (Ev.bind g2 ?_), f3⟩
        · simp only [if_pos hr, if_pos (show acc.length + r.2.2.1.length < 17592186044416 by omega), hb]
          exact f1
        · rw [g3] at hr
          simp only [if_pos hr, ← q3, ← q2, if_pos (show acc.length + r.2.2.1.length < 17592186044416 by omega), hb]
          exact f2
      · refine ⟨acc, Ev.step es (Ev.bind g1 ?_), Ev.step ei (Ev.bind g2 ?_), by omega, hacc⟩
        · simp only [if_neg hr]; exact Ev.now _
        · rw [g3] at hr
          simp only [if_neg hr]; exact Ev.now _
    · refine ⟨acc, Ev.step (f := fun _ => some acc) (fun k => ?_) (Ev.now _), Ev.step (f := fun _ => some acc) (fun k => ?_) (Ev.now _), by omega, hacc⟩
      · show spec_l2Suffixes.l0 (k + 1) s acc (a : Int) = _
        conv => lhs; unfold spec_l2Suffixes.l0
        rw [if_neg h]
      · show impl_suffixesOf.l0 (k + 1) s acc (a : Int) = _
        conv => lhs; unfold impl_suffixesOf.l0
        rw [if_neg h]
  termination_by n => n
theorem pick_pred (rest : ByteArray) : ∃ P : Int → Bool, ∀ x, 0 ≤ x ∧ x < (s.size : Int) → ∃ r, Ev (fun k => spec_l2Take.f k s x) r ∧ (r.2.2.2 && (r.1.toList == rest.toList)) = P x ∧ ∃ K, ∀ k, K ≤ k → (impl_takeName.f k s x).isSome = true ∧ putP k s rest x = P x := by
  have key : ∀ x, 0 ≤ x ∧ x < (s.size : Int) → ∃ v : Bool, ∃ r, Ev (fun k => spec_l2Take.f k s x) r ∧ (r.2.2.2 && (r.1.toList == rest.toList)) = v ∧ ∃ K, ∀ k, K ≤ k → (impl_takeName.f k s x).isSome = true ∧ putP k s rest x = v := by
    intro x hx
    obtain ⟨a, rfl⟩ : ∃ a : Nat, x = (a : Int) := ⟨x.toNat, by omega⟩
    obtain ⟨r, r', g1, ⟨K, g2⟩, g3, g4⟩ := take_both s hs a (by omega)
    refine ⟨_, r, g1, rfl, K, fun k hk => ?_⟩
    have e : impl_takeName.f k s (a : Int) = some r' := g2 k hk
    refine ⟨by rw [e]; rfl, ?_⟩
    unfold putP
    rw [e]
    show (r'.2.2.2 && (r'.1.toList == rest.toList)) = _
    by_cases hr : r.2.2.2 = true
    · rw [← g3, (g4 hr).1]
    · rw [← g3, Bool.eq_false_iff.mpr hr]
      rfl
  refine ⟨fun x => if h : 0 ≤ x ∧ x < (s.size : Int) then (key x h).choose else false, fun x hx => ?_⟩
  simp only [dif_pos hx]
  exact (key x hx).choose_spec
theorem put_rounds (rest : ByteArray) (P : Int → Bool) (hP : ∀ x, 0 ≤ x ∧ x < (s.size : Int) → ∃ K, ∀ k, K ≤ k → (impl_takeName.f k s x).isSome = true ∧ putP k s rest x = P x) : ∀ (places : List Int), (∀ x ∈ places, 0 ≤ x ∧ x < (s.size : Int)) →
    ∃ K, ∀ k, K ≤ k → ∀ x ∈ places, (impl_takeName.f k s x).isSome = true ∧ putP k s rest x = P x
  | [], _ => ⟨0, fun _ _ x hx => by cases hx⟩
  | y :: ys, h => by
    obtain ⟨K1, h1⟩ := hP y (h y List.mem_cons_self)
    obtain ⟨K2, h2⟩ := put_rounds rest P hP ys fun x hx => h x (List.mem_cons_of_mem _ hx)
    refine ⟨max K1 K2, fun k hk x hx => ?_⟩
    rcases List.mem_cons.1 hx with rfl | hx
    · exact h1 k (by omega)
    · exact h2 k (by omega) x hx
/-- What the reference does where no place fits. -/
def putTail (k : Nat) (b rest : ByteArray) (places : List Int) (head : ByteArray) : Option ByteArray := (spec_l1Labels.f k rest).bind fun bt294 => (if 0 < (bt294.1.length : Int) then ((some (([(((rdOf ByteArray.empty bt294.1 0).size : Int)) % 256] : List Int) : List Int)).bind fun y299 => (if (strOfNums y299).size + (rdOf ByteArray.empty bt294.1 0).size ≤ 9223372036854775807 then (if head.size + ((strOfNums y299) ++ (rdOf ByteArray.empty bt294.1 0)).size ≤ 9223372036854775807 then ((spec_l1Parent.f k rest).bind fun t303 => (spec_l2Put.l0 k b t303 places (head ++ ((strOfNums y299) ++ (rdOf ByteArray.empty bt294.1 0))))) else (none)) else (none))) else (none))
theorem put_places (rest head : ByteArray) (hh : head.size ≤ 2000) (P : Int → Bool) (places : List Int) (hl : places.length ≤ 100000) (hr : ∀ x ∈ places, 0 ≤ x ∧ x < (s.size : Int))
    (hP : ∀ x, 0 ≤ x ∧ x < (s.size : Int) → ∃ r, Ev (fun k => spec_l2Take.f k s x) r ∧ (r.2.2.2 && (r.1.toList == rest.toList)) = P x) : ∀ (m i : Nat), i + m = places.length → (∀ j y, j < i → places[j]? = some y → P y = false) →
    (0 ≤ idxP P places 0 ∧ Ev (fun k => spec_l2Put.l1 k s rest places head places (places.length : Int) (i : Int)) ((s ++ head) ++ strOfNums [(wrap64 (192 + (wrap64 (Int.tdiv (rd places (idxP P places 0)) 256)))) % 256, (rd places (idxP P places 0)) % 256])) ∨
    (¬ 0 ≤ idxP P places 0 ∧ ∀ r, Ev (fun k => putTail k s rest places head) r → Ev (fun k => spec_l2Put.l1 k s rest places head places (places.length : Int) (i : Int)) r)
  | 0, i, him, hn => by
    right
    have hm : idxP P places 0 = -1 := idxP_miss P places 0 (fun y hy => by obtain ⟨j, hj, e⟩ := List.mem_iff_getElem.1 hy; exact hn j y (by omega) (by rw [List.getElem?_eq_getElem hj, e]))
    refine ⟨by omega, fun r hr2 => Ev.step (fun k => ?_) hr2⟩
    show spec_l2Put.l1 (k + 1) s rest places head places (places.length : Int) (i : Int) = _
    conv => lhs; unfold spec_l2Put.l1
    rw [if_neg (by omega)]
    rfl
  | m + 1, i, him, hn => by
    have hi : i < places.length := by omega
    have hrd : rd places (i : Int) = places[i] := by
      unfold rd
      rw [Int.toNat_natCast, List.getD_eq_getElem?_getD, List.getElem?_eq_getElem hi]
      rfl
    obtain ⟨t, e1, e2⟩ := hP places[i] (hr _ (List.getElem_mem hi))
    have hstep : ∀ k, spec_l2Put.l1 (k + 1) s rest places head places (places.length : Int) (i : Int) = (spec_l2Take.f k s places[i]).bind fun bt285 => (if (bt285.2.2.2 && (bt285.1.toList == rest.toList)) = true then some ((s ++ head) ++ strOfNums [(wrap64 (192 + (wrap64 (Int.tdiv places[i] 256)))) % 256, places[i] % 256]) else spec_l2Put.l1 k s rest places head places (places.length : Int) ((i + 1 : Nat) : Int)) := by
      intro k
      conv => lhs; unfold spec_l2Put.l1
      have hy : ∀ y1 y2 : Int, (strOfNums [y1, y2]).size = 2 := fun y1 y2 => by rw [strOfNums_size]; rfl
      rw [if_pos (by omega), if_pos (by omega), if_pos (by omega), hrd, w64n (by omega), if_pos (show s.size + head.size ≤ 9223372036854775807 by omega), Option.bind_some, if_pos (by rw [hy, ByteArray.size_append]; omega)]
      congr 1
      funext bt
      by_cases h1 : bt.2.2.2 = true
      · rw [if_pos h1, h1, Bool.true_and]
        by_cases h2 : bt.1.toList = rest.toList
        · rw [if_pos h2, if_pos (by rw [h2]; simp)]
        · rw [if_neg h2, if_neg (by rw [beq_iff_eq]; exact h2)]
      · rw [if_neg h1, Bool.eq_false_iff.mpr h1, Bool.false_and, if_neg (by simp)]
    cases hp : P places[i] with
    | true =>
      left
      have hx : idxP P places 0 = (i : Int) := by rw [idxP_hit P places 0 i places[i] (List.getElem?_eq_getElem hi) hp hn]; omega
      rw [hx, hrd]
      refine ⟨by omega, Ev.step hstep (Ev.bind e1 ?_)⟩
      rw [e2, hp]
      exact Ev.now _
    | false =>
      rcases put_places rest head hh P places hl hr hP m (i + 1) (by omega) (fun j y hj hy => by
        by_cases e : j = i
        · subst e
          rw [List.getElem?_eq_getElem hi] at hy
          cases hy
          exact hp
        · exact hn j y (by omega) hy) with ⟨g1, g2⟩ | ⟨g1, g2⟩
      · left
        refine ⟨g1, Ev.step hstep (Ev.bind e1 ?_)⟩
        rw [e2, hp]
        exact g2
      · right
        refine ⟨g1, fun r hr2 => Ev.step hstep (Ev.bind e1 ?_)⟩
        rw [e2, hp]
        exact g2 r hr2
theorem put_loops (places : List Int) (hl : places.length ≤ 100000) (hr : ∀ x ∈ places, 0 ≤ x ∧ x < (s.size : Int)) : ∀ (n : Nat) (rest head : ByteArray), rest.size ≤ n → n ≤ 60 → goodL rest.data.toList = true → head.size + 21 * n ≤ 2000 →
    ∃ r, Ev (fun k => spec_l2Put.l0 k s rest places head) r ∧ Ev (fun k => impl_putName.l0 k s places head rest) r
  | n, rest, head, hn, h60, hg, hh => by
    have h0 : (⟨#[0]⟩ : ByteArray).size = 1 := rfl
    by_cases hne : rest.toList = ([] : List UInt8)
    · refine ⟨(s ++ head) ++ (⟨#[0]⟩ : ByteArray), Ev.step (f := fun _ => some _) (fun k => ?_) (Ev.now _), Ev.step (f := fun _ => some _) (fun k => ?_) (Ev.now _)⟩
      · show spec_l2Put.l0 (k + 1) s rest places head = _
        unfold spec_l2Put.l0
        rw [if_pos hne, if_pos (by omega), if_pos (by rw [ByteArray.size_append]; omega)]
      · show impl_putName.l0 (k + 1) s places head rest = _
        unfold impl_putName.l0
        rw [if_pos hne, if_pos (by omega)]
    · obtain ⟨P, hP⟩ := pick_pred s hs rest
      obtain ⟨K, hK⟩ := put_rounds s hs rest P (fun x hx => (hP x hx).choose_spec.2.2) places hr
      have hK2 : ∀ k, K ≤ k → putDef k s places = true ∧ idxP (putP k s rest) places 0 = idxP P places 0 := fun k hk => ⟨List.all_eq_true.2 fun x hx => (hK k hk x hx).1, idxP_congr _ _ places 0 fun x hx => (hK k hk x hx).2⟩
      have es : ∀ k, spec_l2Put.l0 (k + 1) s rest places head = spec_l2Put.l1 k s rest places head places (places.length : Int) ((0 : Nat) : Int) := fun k => by
        conv => lhs; unfold spec_l2Put.l0
        rw [if_neg hne]
        rfl
      rcases put_places s hs rest head (by omega) P places hl hr (fun x hx => by obtain ⟨r, a1, a2, _⟩ := hP x hx; exact ⟨r, a1, a2⟩) places.length 0 (by omega) (fun j y hj => absurd hj (Nat.not_lt_zero _)) with ⟨g1, g2⟩ | ⟨g1, g2⟩
      · refine ⟨_, Ev.step es g2, ⟨K + 1, fun k hk => ?_⟩⟩
        obtain ⟨j, rfl⟩ : ∃ j, k = j + 1 := ⟨k - 1, by omega⟩
        obtain ⟨d1, d2⟩ := hK2 j (by omega)
        show impl_putName.l0 (j + 1) s places head rest = _
        conv => lhs; unfold impl_putName.l0
        rw [if_neg hne, if_pos d1, d2, if_pos g1, if_pos (by omega)]
      · have hnel : rest.data.toList ≠ [] := by rw [← Lib.toList_data]; exact hne
        obtain ⟨lab, l1, l2, l3⟩ := labels_ev rest (by omega)
        have l4 := l3 (l2.trans hg)
        have hsp : labelsL rest.data.toList = splitL 46 rest.data.toList := by unfold labelsL; rw [if_neg hnel]
        obtain ⟨p, ps, hp⟩ := List.exists_cons_of_ne_nil (splitL_ne 46 rest.data.toList)
        have hpl : p.length ≤ 60 := by have := splitL_part 46 rest.data.toList p (by rw [hp]; exact List.mem_cons_self); rw [← size_len] at this; omega
        have hpl20 : p.length ≤ 20 := by
          unfold goodL at hg
          rw [hsp, hp] at hg
          simp only [Bool.and_eq_true, List.all_cons] at hg
          exact label_size hg.2.2.1
        have hrd : rdOf ByteArray.empty lab.1 0 = mkB p := by rw [l4, hsp, hp]; rfl
        have hlen : 0 < (lab.1.length : Int) := by rw [l4, hsp, hp]; simp
        have h1s : ∀ v : Int, (strOfNums [v]).size = 1 := fun v => by rw [strOfNums_size]; rfl
        obtain ⟨q2, q3, hcut⟩ := cut_first rest (by omega)
        rw [hp] at hcut
        have hpar := implParent_eq rest (by omega)
        have hpos : 0 < rest.size := by rw [size_len]; exact List.length_pos_iff.2 hnel
        have hps : (mkB (parL rest.data.toList)).size < rest.size := by rw [mkB_size]; have := parL_len rest.data.toList; rw [← size_len] at this; omega
        obtain ⟨r, f1, f2⟩ := put_loops places hl hr (n - 1) (mkB (parL rest.data.toList)) (head ++ (strOfNums [((mkB p).size : Int) % 256] ++ mkB p)) (by omega) (by omega) (by rw [mkB_data]; exact put_good_par hg) (by rw [ByteArray.size_append, ByteArray.size_append, h1s, mkB_size]; omega)
        refine ⟨r, Ev.step es (g2 r ?_), ?_⟩
        · refine Ev.congr (fun k => rfl) (Ev.bind l1 ?_)
          simp only [hrd, if_pos hlen, Option.bind_some, if_pos (show (strOfNums [((mkB p).size : Int) % 256]).size + (mkB p).size ≤ 9223372036854775807 by rw [h1s, mkB_size]; omega), if_pos (show head.size + (strOfNums [((mkB p).size : Int) % 256] ++ mkB p).size ≤ 9223372036854775807 by rw [ByteArray.size_append, h1s, mkB_size]; omega)]
          exact Ev.bind (specParent_ev rest (by omega)) f1
        · obtain ⟨K3, f3⟩ := f2
          refine ⟨max K K3 + 1, fun k hk => ?_⟩
          obtain ⟨j, rfl⟩ : ∃ j, k = j + 1 := ⟨k - 1, by omega⟩
          obtain ⟨d1, d2⟩ := hK2 j (by omega)
          show impl_putName.l0 (j + 1) s places head rest = _
          conv => lhs; unfold impl_putName.l0
          rw [if_neg hne, if_pos d1, d2, if_neg g1, hcut, Option.bind_some]
          show (if head.size + (mkB p).size < 1099511627776 then ((impl_parentOf.f rest).bind fun q => impl_putName.l0 j s places (head ++ (strOfNums [(((mkB p).size : Int)) % 256] ++ mkB p)) q) else none) = some r
          rw [if_pos (by rw [mkB_size]; omega), hpar, Option.bind_some]
          exact f3 j (by omega)
  termination_by n rest => rest.size
theorem put_both (t : ByteArray) (ht : t.size ≤ 60) (hg : goodL t.data.toList = true) : ∃ r, Ev (fun k => spec_l2Put.f k s t) r ∧ Ev (fun k => impl_putName.f k s t) r := by
  obtain ⟨places, e1, e2, hl, hr⟩ := suff2 s hs s.size 0 [] (by omega) (by omega) (by simp; omega) (fun x hx => by cases hx)
  obtain ⟨r, f1, f2⟩ := put_loops s hs places hl hr 60 t (⟨#[]⟩ : ByteArray) ht (Nat.le_refl _) hg (by show 0 + 21 * 60 ≤ 2000; omega)
  exact ⟨r, Ev.congr (fun k => rfl) (Ev.bind e1 f1), Ev.congr (fun k => rfl) (Ev.bind e2 f2)⟩
end
end Go.Proofs.YtomcfhbmdoomlaaDoor.Pure

-- F6
-- By my own call of the kit's print (wip/tools/pp.py).
namespace Go.Proofs.YtomcfhbmdoomlaaDoor.P
open Go.RowKit Go.Proofs.YtomcfhbmdoomlaaDoorW.PrintWords Go.Proofs.YtomcfhbmdoomlaaDoorW.PrintLast Go.Proofs.YtomcfhbmdoomlaaDoorW.PrintMore
attribute [local go_sem] max2_int min2_int max_two min_two max_three min_three max_four min_four
set_option linter.unusedVariables false
set_option linter.unusedSimpArgs false

/-! ### laws_FnExactPutName: function 6 -/
def laws_FnExactPutName.f (k : Nat) (a0 : ByteArray) (a1 : ByteArray) : Option (Bool) := if (a0.size : Int) > 1048576 then (some true) else (if (a1.size : Int) > 1048576 then (some true) else ((spec_PutName.f k a0 a1).bind fun bt292 => ((impl_PutName.f k a0 a1).bind fun bt294 => (if bt294.1.toList = bt292.1.toList then (if (bt294.2 != bt292.2) = true then (some false) else (some true)) else (some false)))))
theorem laws_FnExactPutName.mono : ∀ a0 a1 k, LeO (laws_FnExactPutName.f k a0 a1) (laws_FnExactPutName.f (k + 1) a0 a1) := by
  intro a0 a1 k
  unfold laws_FnExactPutName.f
  repeat' first
      | (with_reducible exact impl_PutName.mono _ _ _)
      | (with_reducible exact spec_PutName.mono _ _ _)
      | (with_reducible exact LeO.refl _)
      | (with_reducible exact LeO.none _)
      | (with_reducible refine LeO.ite ?_ ?_)
      | (with_reducible refine LeO.bind ?_ (fun _ => ?_))
      | exact impl_PutName.mono _ _ _
      | exact spec_PutName.mono _ _ _
      | exact LeO.none _
      | refine LeO.ite ?_ ?_
      | refine LeO.bind ?_ (fun _ => ?_)
set_option maxHeartbeats 8000000 in
set_option maxRecDepth 100000 in
theorem laws_FnExactPutName.calls (k : Nat) (a0 : ByteArray) (a1 : ByteArray) (r : Bool) (w : World) (h : laws_FnExactPutName.f k a0 a1 = some r) :
    Calls Tryd.prog 6 #[.string a0, .string a1] w fun e w' => e = .returned (.bool r) ∧ Below w.heap.size w w' := by
  have HB := Aside0.mk (Below.refl w.heap.size w)
  have H : (if (a0.size : Int) > 1048576 then (some true) else (if (a1.size : Int) > 1048576 then (some true) else ((spec_PutName.f k a0 a1).bind fun bt292 => ((impl_PutName.f k a0 a1).bind fun bt294 => (if bt294.1.toList = bt292.1.toList then (if (bt294.2 != bt292.2) = true then (some false) else (some true)) else (some false)))))) = some r := h
  clear h
  by_cases c3 : (a0.size : Int) > 1048576
  · rw [if_pos c3] at H
    have c3b0 : decide (1048576 < (a0.size : Int)) = true := decide_eq_true c3
    have c3b1 : decide (1048576 < a0.size) = true := decide_eq_true (by omega)
    clear c3
    obtain rfl := Option.some.inj H
    go_enter Tryd.func6, Tryd.ntmps6
    go_wp2
    go_ret
    exact ⟨by first | rfl | (simp [errW_none, errW_some] <;> rfl) | (simp [*, errW_none, errW_some] <;> rfl), by repeat (first | (with_reducible first | exact HB.out | apply below_alloc | apply pw_below_drewN | apply below_drew1) | exact HB.out)⟩
  · rw [if_neg c3] at H
    have c3b0 : decide (1048576 < (a0.size : Int)) = false := decide_eq_false c3
    have c3b1 : decide (1048576 < a0.size) = false := decide_eq_false (by omega)
    clear c3
    by_cases c4 : (a1.size : Int) > 1048576
    · rw [if_pos c4] at H
      have c4b0 : decide (1048576 < (a1.size : Int)) = true := decide_eq_true c4
      have c4b1 : decide (1048576 < a1.size) = true := decide_eq_true (by omega)
      clear c4
      obtain rfl := Option.some.inj H
      go_enter Tryd.func6, Tryd.ntmps6
      go_wp2
      go_ret
      exact ⟨by first | rfl | (simp [errW_none, errW_some] <;> rfl) | (simp [*, errW_none, errW_some] <;> rfl), by repeat (first | (with_reducible first | exact HB.out | apply below_alloc | apply pw_below_drewN | apply below_drew1) | exact HB.out)⟩
    · rw [if_neg c4] at H
      have c4b0 : decide (1048576 < (a1.size : Int)) = false := decide_eq_false c4
      have c4b1 : decide (1048576 < a1.size) = false := decide_eq_false (by omega)
      clear c4
      replace H := Option.bind_eq_some_iff.mp H
      obtain ⟨⟨t292, t293⟩, A50, H⟩ := H
      replace H : ((impl_PutName.f k a0 a1).bind fun bt294 => (if bt294.1.toList = t292.toList then (if (bt294.2 != t293) = true then (some false) else (some true)) else (some false))) = some r := H
      have A5 := Aside0.mk A50
      clear A50
      replace H := Option.bind_eq_some_iff.mp H
      obtain ⟨⟨t294, t295⟩, A60, H⟩ := H
      replace H : (if t294.toList = t292.toList then (if (t295 != t293) = true then (some false) else (some true)) else (some false)) = some r := H
      have A6 := Aside0.mk A60
      clear A60
      by_cases c7 : t294.toList = t292.toList
      · rw [if_pos c7] at H
        have c7b0 : (t294.toList == t292.toList) = true := beq_iff_eq.mpr c7
        have c7b1 : (t294.toList != t292.toList) = false := bne_eq_false_iff_eq.mpr c7
        clear c7
        by_cases c8 : (t295 != t293) = true
        · rw [if_pos c8] at H
          have c8b0 : (t295 != t293) = true := c8
          (try (have c8b1 : decide (t295 = t293) = false := by simpa using c8))
          (try (have c8b2 : (t295 == t293) = false := by simpa using c8))
          (try (have c8b3 : ¬ (t295 = t293) := by simpa using c8))
          clear c8
          obtain rfl := Option.some.inj H
          go_enter Tryd.func6, Tryd.ntmps6
          go_wp2_with (first | ((with_reducible refine gate_callee (f := 23) rfl ?_); refine goesL_ (some 18) rfl rfl Tryd.func23 (by kernel_rfl) rfl #[.string a0, .string a1] rfl (by (try simp only [List.map_toArray, List.map_cons, List.map_nil]); first | done | rfl | (simp only [List.length_drop, List.length_take]; rfl)) ?_; (with_reducible refine (spec_PutName.calls k a0 a1 t292 t293 _ A5.out).mono ?_); rintro e w9 ⟨rfl, hb⟩; refine ⟨_, rfl, ?_⟩; have n0_ := Aside0.mk (below_step (by repeat (first | (with_reducible first | exact HB.out | apply below_alloc | apply pw_below_drewN | apply below_drew1) | exact HB.out)) hb); clear HB; have HB := n0_; clear n0_; (try clear hb); (try clear hb2); (try clear hk); (try clear hi)) | ((with_reducible refine gate_callee (f := 24) rfl ?_); refine goesL_ (some 24) rfl rfl Tryd.func24 (by kernel_rfl) rfl #[.string a0, .string a1] rfl (by (try simp only [List.map_toArray, List.map_cons, List.map_nil]); first | done | rfl | (simp only [List.length_drop, List.length_take]; rfl)) ?_; (with_reducible refine (impl_PutName.calls k a0 a1 t294 t295 _ A6.out).mono ?_); rintro e w10 ⟨rfl, hb⟩; refine ⟨_, rfl, ?_⟩; have n0_ := Aside0.mk (below_step (by repeat (first | (with_reducible first | exact HB.out | apply below_alloc | apply pw_below_drewN | apply below_drew1) | exact HB.out)) hb); clear HB; have HB := n0_; clear n0_; (try clear hb); (try clear hb2); (try clear hk); (try clear hi)))
          go_ret
          exact ⟨by first | rfl | (simp [errW_none, errW_some] <;> rfl) | (simp [*, errW_none, errW_some] <;> rfl), by repeat (first | (with_reducible first | exact HB.out | apply below_alloc | apply pw_below_drewN | apply below_drew1) | exact HB.out)⟩
        · rw [if_neg c8] at H
          have c8b0 : (t295 != t293) = false := by simpa using c8
          (try (have c8b1 : decide (t295 = t293) = true := by simpa using c8))
          (try (have c8b2 : (t295 == t293) = true := by simpa using c8))
          clear c8
          obtain rfl := Option.some.inj H
          go_enter Tryd.func6, Tryd.ntmps6
          go_wp2_with (first | ((with_reducible refine gate_callee (f := 23) rfl ?_); refine goesL_ (some 18) rfl rfl Tryd.func23 (by kernel_rfl) rfl #[.string a0, .string a1] rfl (by (try simp only [List.map_toArray, List.map_cons, List.map_nil]); first | done | rfl | (simp only [List.length_drop, List.length_take]; rfl)) ?_; (with_reducible refine (spec_PutName.calls k a0 a1 t292 t293 _ A5.out).mono ?_); rintro e w11 ⟨rfl, hb⟩; refine ⟨_, rfl, ?_⟩; have n0_ := Aside0.mk (below_step (by repeat (first | (with_reducible first | exact HB.out | apply below_alloc | apply pw_below_drewN | apply below_drew1) | exact HB.out)) hb); clear HB; have HB := n0_; clear n0_; (try clear hb); (try clear hb2); (try clear hk); (try clear hi)) | ((with_reducible refine gate_callee (f := 24) rfl ?_); refine goesL_ (some 24) rfl rfl Tryd.func24 (by kernel_rfl) rfl #[.string a0, .string a1] rfl (by (try simp only [List.map_toArray, List.map_cons, List.map_nil]); first | done | rfl | (simp only [List.length_drop, List.length_take]; rfl)) ?_; (with_reducible refine (impl_PutName.calls k a0 a1 t294 t295 _ A6.out).mono ?_); rintro e w12 ⟨rfl, hb⟩; refine ⟨_, rfl, ?_⟩; have n0_ := Aside0.mk (below_step (by repeat (first | (with_reducible first | exact HB.out | apply below_alloc | apply pw_below_drewN | apply below_drew1) | exact HB.out)) hb); clear HB; have HB := n0_; clear n0_; (try clear hb); (try clear hb2); (try clear hk); (try clear hi)))
          go_ret
          exact ⟨by first | rfl | (simp [errW_none, errW_some] <;> rfl) | (simp [*, errW_none, errW_some] <;> rfl), by repeat (first | (with_reducible first | exact HB.out | apply below_alloc | apply pw_below_drewN | apply below_drew1) | exact HB.out)⟩
      · rw [if_neg c7] at H
        have c7b0 : (t294.toList == t292.toList) = false := beq_eq_false_iff_ne.mpr c7
        have c7b1 : (t294.toList != t292.toList) = true := bne_iff_ne.mpr c7
        obtain rfl := Option.some.inj H
        go_enter Tryd.func6, Tryd.ntmps6
        go_wp2_with (first | ((with_reducible refine gate_callee (f := 23) rfl ?_); refine goesL_ (some 18) rfl rfl Tryd.func23 (by kernel_rfl) rfl #[.string a0, .string a1] rfl (by (try simp only [List.map_toArray, List.map_cons, List.map_nil]); first | done | rfl | (simp only [List.length_drop, List.length_take]; rfl)) ?_; (with_reducible refine (spec_PutName.calls k a0 a1 t292 t293 _ A5.out).mono ?_); rintro e w13 ⟨rfl, hb⟩; refine ⟨_, rfl, ?_⟩; have n0_ := Aside0.mk (below_step (by repeat (first | (with_reducible first | exact HB.out | apply below_alloc | apply pw_below_drewN | apply below_drew1) | exact HB.out)) hb); clear HB; have HB := n0_; clear n0_; (try clear hb); (try clear hb2); (try clear hk); (try clear hi)) | ((with_reducible refine gate_callee (f := 24) rfl ?_); refine goesL_ (some 24) rfl rfl Tryd.func24 (by kernel_rfl) rfl #[.string a0, .string a1] rfl (by (try simp only [List.map_toArray, List.map_cons, List.map_nil]); first | done | rfl | (simp only [List.length_drop, List.length_take]; rfl)) ?_; (with_reducible refine (impl_PutName.calls k a0 a1 t294 t295 _ A6.out).mono ?_); rintro e w14 ⟨rfl, hb⟩; refine ⟨_, rfl, ?_⟩; have n0_ := Aside0.mk (below_step (by repeat (first | (with_reducible first | exact HB.out | apply below_alloc | apply pw_below_drewN | apply below_drew1) | exact HB.out)) hb); clear HB; have HB := n0_; clear n0_; (try clear hb); (try clear hb2); (try clear hk); (try clear hi)))
        go_ret
        exact ⟨by first | rfl | (simp [errW_none, errW_some] <;> rfl) | (simp [*, errW_none, errW_some] <;> rfl), by repeat (first | (with_reducible first | exact HB.out | apply below_alloc | apply pw_below_drewN | apply below_drew1) | exact HB.out)⟩

/-- THE ONE PURE STATEMENT of laws_FnExactPutName: yours. -/
def laws_FnExactPutName.Pure : Prop := ∀ (a0 : ByteArray) (a1 : ByteArray), a0.size ≤ 140737488351232 → a1.size ≤ 140737488351232 → ∃ k, laws_FnExactPutName.f k a0 a1 = some true
theorem laws_FnExactPutName.walk (P : laws_FnExactPutName.Pure) (a0 : ByteArray) (a1 : ByteArray) (w : World) (w0 : a0.size ≤ 140737488351232) (w1 : a1.size ≤ 140737488351232) :
    Calls Tryd.prog 6 #[.string a0, .string a1] w fun e w' => e = .returned (.bool true) ∧ Below w.heap.size w w' := by
  obtain ⟨k, h⟩ := P a0 a1 w0 w1
  refine (laws_FnExactPutName.calls k a0 a1 true w h).mono ?_
  rintro e w' ⟨rfl, hd⟩
  exact ⟨rfl, hd⟩

end Go.Proofs.YtomcfhbmdoomlaaDoor.P

-- PureFnExactPutName
/- 'laws.FnExactPutName' returns true: the reference and the program return the same. Conditions: the texts' sizes. -/
namespace Go.Proofs.YtomcfhbmdoomlaaDoor.Pure
open Go.RowKit Go.Proofs.YtomcfhbmdoomlaaDoor.P Go.Proofs.YtomcfhbmdoomlaaDoorW.PrintWords Go.Proofs.YtomcfhbmdoomlaaDoorW.PrintLast
set_option linter.unusedVariables false
set_option linter.unusedSimpArgs false
def failP : ByteArray × Bool := ((⟨#[]⟩ : ByteArray), false)
end Go.Proofs.YtomcfhbmdoomlaaDoor.Pure

-- F73
-- By my own call of the kit's print (wip/tools/pp.py).
namespace Go.Proofs.YtomcfhbmdoomlaaDoor.P
open Go.RowKit Go.Proofs.YtomcfhbmdoomlaaDoorW.PrintWords Go.Proofs.YtomcfhbmdoomlaaDoorW.PrintLast Go.Proofs.YtomcfhbmdoomlaaDoorW.PrintMore
attribute [local go_sem] max2_int min2_int max_two min_two max_three min_three max_four min_four
set_option linter.unusedVariables false
set_option linter.unusedSimpArgs false

/-! ### impl_areNames_1: function 73 -/
def impl_areNames_1.f (a0 : ByteArray) : Option (Bool) := (impl_GoodName.f a0).bind fun t568 => (some (!t568))
set_option maxHeartbeats 8000000 in
set_option maxRecDepth 100000 in
theorem impl_areNames_1.calls (a0 : ByteArray) (r : Bool) (w : World) (h : impl_areNames_1.f a0 = some r) :
    Calls Tryd.prog 73 #[.string a0] w fun e w' => e = .returned (.bool r) ∧ Below w.heap.size w w' := by
  have HB := Aside0.mk (Below.refl w.heap.size w)
  have H : ((impl_GoodName.f a0).bind fun t568 => (some (!t568))) = some r := h
  clear h
  replace H := Option.bind_eq_some_iff.mp H
  obtain ⟨t568, A20, H⟩ := H
  replace H : (some (!t568)) = some r := H
  have A2 := Aside0.mk A20
  clear A20
  obtain rfl := Option.some.inj H
  go_enter Tryd.func73, Tryd.ntmps73
  go_wp2_with (first | ((with_reducible refine gate_callee (f := 35) rfl ?_); refine goesL_ (some 4) rfl rfl Tryd.func35 (by kernel_rfl) rfl #[.string a0] rfl (by (try simp only [List.map_toArray, List.map_cons, List.map_nil]); first | done | rfl | (simp only [List.length_drop, List.length_take]; rfl)) ?_; (with_reducible refine (impl_GoodName.calls a0 t568 _ A2.out).mono ?_); rintro e w3 ⟨rfl, hb⟩; refine ⟨_, rfl, ?_⟩; have n0_ := Aside0.mk (below_step (by repeat (first | (with_reducible first | exact HB.out | apply below_alloc | apply pw_below_drewN | apply below_drew1) | exact HB.out)) hb); clear HB; have HB := n0_; clear n0_; (try clear hb); (try clear hb2); (try clear hk); (try clear hi)))
  go_ret
  exact ⟨by first | rfl | (simp [errW_none, errW_some] <;> rfl) | (simp [*, errW_none, errW_some] <;> rfl), by repeat (first | (with_reducible first | exact HB.out | apply below_alloc | apply pw_below_drewN | apply below_drew1) | exact HB.out)⟩

end Go.Proofs.YtomcfhbmdoomlaaDoor.P

-- HAre
/- impl.areNames: it holds just where each text is a name (goodL). Conditions: none. -/
namespace Go.Proofs.YtomcfhbmdoomlaaDoor.P
open Go.RowKit Go.Proofs.YtomcfhbmdoomlaaDoorW.PrintWords Go.Proofs.YtomcfhbmdoomlaaDoorW.PrintLast Go.Proofs.YtomcfhbmdoomlaaDoorW.PrintMore
set_option linter.unusedVariables false
def impl_areNames.f (l : List ByteArray) : Option Bool := some (l.all fun x => goodL x.data.toList)

theorem are_closure (x : ByteArray) (W : World) : Calls Tryd.prog 73 #[.string x] W fun e W' => e = .returned (.bool (!goodL x.data.toList)) ∧ Below W.heap.size W W' :=
  impl_areNames_1.calls x _ W (by unfold impl_areNames_1.f impl_GoodName.f; rfl)

set_option maxHeartbeats 4000000 in
theorem impl_areNames.calls (A0 : Option Addr) (c0 : Nat) (l0 : List ByteArray) (r : Bool) (w : World) (hr0 : Kd.C Kd.string w A0 l0.length l0) (hc0 : l0.length ≤ c0) (h : impl_areNames.f l0 = some r) :
    Calls Tryd.prog 50 #[.slice A0 l0.length c0] w fun e w' => e = .returned (.bool r) ∧ Below w.heap.size w w' := by
  obtain rfl := Option.some.inj h
  clear h
  have eg : ∀ args w, (callFunc 73 args).run Tryd.prog w = .ok (.enter 73 args) w := enters_of Tryd.func73 (by kernel_rfl) rfl
  have cc := contains_str A0 c0 l0 73 #[] (fun x => !goodL x.data.toList) w hr0 eg (fun x _ W' _ => are_closure x W')
  have hany : l0.any (fun x => !goodL x.data.toList) = !l0.all (fun x => goodL x.data.toList) := by rw [List.not_all_eq_any_not]
  rw [hany] at cc
  generalize l0.all (fun x => goodL x.data.toList) = b at cc
  go_enter Tryd.func50, Tryd.ntmps50
  go_wp2_with (go_at_call 58; refine cc.mono ?_; rintro e w1 ⟨rfl, hb⟩)
  go_ret
  exact ⟨by simp, hb⟩
end Go.Proofs.YtomcfhbmdoomlaaDoor.P

-- F51
-- By my own call of the kit's print (wip/tools/pp.py).
namespace Go.Proofs.YtomcfhbmdoomlaaDoor.P
open Go.RowKit Go.Proofs.YtomcfhbmdoomlaaDoorW.PrintWords Go.Proofs.YtomcfhbmdoomlaaDoorW.PrintLast Go.Proofs.YtomcfhbmdoomlaaDoorW.PrintMore
attribute [local go_sem] max2_int min2_int max_two min_two max_three min_three max_four min_four
set_option linter.unusedVariables false
set_option linter.unusedSimpArgs false

/-! ### impl_packed: function 51 -/
def impl_packed.l0 : Nat → ByteArray → List ByteArray → Int → Int → Option (ByteArray × Bool)
  | 0, _, _, _, _ => none
  | k + 1, x4, x7, x8, x9 => if x9 < x8 then (if 0 ≤ x9 then (if x9 < (x7.length : Int) then ((impl_putName.f k x4 (rdOf ByteArray.empty x7 x9)).bind fun t306 => (if (t306.size : Int) > 600 then (some ((⟨#[]⟩ : ByteArray), false)) else (impl_packed.l0 k t306 x7 x8 (wrap64 (x9 + 1))))) else (none)) else (none)) else (some (x4, true))
def impl_packed.f (k : Nat) (l0 : List ByteArray) : Option (ByteArray × Bool) := impl_packed.l0 k (⟨#[]⟩ : ByteArray) l0 (l0.length : Int) 0
theorem impl_packed.mono_l : ∀ k, (∀ y0 y1 y2 y3, LeO (impl_packed.l0 k y0 y1 y2 y3) (impl_packed.l0 (k + 1) y0 y1 y2 y3))
  | 0 => fun _ _ _ _ r h => by simp [impl_packed.l0] at h
  | k + 1 => by
    have ih0 := impl_packed.mono_l k
    · intro y0 y1 y2 y3
      unfold impl_packed.l0
      repeat' first
      | (with_reducible exact ih0 _ _ _ _)
      | (with_reducible exact impl_putName.mono _ _ _)
      | (with_reducible exact LeO.refl _)
      | (with_reducible exact LeO.none _)
      | (with_reducible refine LeO.ite ?_ ?_)
      | (with_reducible refine LeO.bind ?_ (fun _ => ?_))
      | exact ih0 _ _ _ _
      | exact impl_putName.mono _ _ _
      | exact LeO.none _
      | refine LeO.ite ?_ ?_
      | refine LeO.bind ?_ (fun _ => ?_)
theorem impl_packed.mono : ∀ a0 k, LeO (impl_packed.f k a0) (impl_packed.f (k + 1) a0) := by
  intro a0 k
  have ih0 := impl_packed.mono_l k
  unfold impl_packed.f
  repeat' first
      | (with_reducible exact ih0 _ _ _ _)
      | (with_reducible exact impl_putName.mono _ _ _)
      | (with_reducible exact LeO.refl _)
      | (with_reducible exact LeO.none _)
      | (with_reducible refine LeO.ite ?_ ?_)
      | (with_reducible refine LeO.bind ?_ (fun _ => ?_))
      | exact ih0 _ _ _ _
      | exact impl_putName.mono _ _ _
      | exact LeO.none _
      | refine LeO.ite ?_ ?_
      | refine LeO.bind ?_ (fun _ => ?_)
set_option maxHeartbeats 8000000 in
set_option maxRecDepth 100000 in
theorem impl_packed.calls (k : Nat) (A0 : Option Addr) (c0 : Nat) (l0 : List ByteArray) (r1 : ByteArray) (r2 : Bool) (w : World) (hr0 : Kd.C Kd.string w A0 l0.length l0) (hc0 : l0.length ≤ c0) (h : impl_packed.f k l0 = some (r1, r2)) :
    Calls Tryd.prog 51 #[.slice A0 l0.length c0] w fun e w' => e = .returned (.tuple #[.string r1, .bool r2]) ∧ Below w.heap.size w w' := by
  have HR0 := Aside0.mk hr0
  have HC0 := Aside0.mk hc0
  clear hr0 hc0
  have HB := Aside0.mk (Below.refl w.heap.size w)
  have H : (impl_packed.l0 k (⟨#[]⟩ : ByteArray) l0 (l0.length : Int) 0) = some (r1, r2) := h
  clear h
  have H' := Aside0.mk H
  clear H
  go_enter Tryd.func51, Tryd.ntmps51
  go_wp2
  go_loopg [4, 9] k (fun kq v4 v9 w' => ∃ (x4_1 : ByteArray) (x9_1 : Int), v4 = .string x4_1 ∧ v9 = .int .i64 x9_1 ∧ Aside0 (impl_packed.l0 kq x4_1 l0 (l0.length : Int) x9_1 = some (r1, r2)) ∧ Aside0 (kq ≤ k) ∧ Aside0 (Below w.heap.size w w'))
  case atStart => exact ⟨((⟨#[]⟩ : ByteArray)), (0), (by first | rfl | (simp; done) | (simp [*]; done)), (by first | rfl | (simp; done) | (simp [*]; done)), H', ⟨Nat.le_refl _⟩, ⟨by repeat (first | (with_reducible first | exact HB.out | apply below_alloc | apply pw_below_drewN | apply below_drew1) | exact HB.out)⟩⟩
  case round =>
    clear H'
    obtain ⟨x4_1, x9_1, rfl, rfl, HA, HK1, HB⟩ := hrel
    cases gk with
    | zero => exact absurd HA.out (by simp [impl_packed.l0])
    | succ k1 =>
      have H := HA.out
      clear HA
      simp only [impl_packed.l0] at H
      by_cases c2 : x9_1 < (l0.length : Int)
      · rw [if_pos c2] at H
        have c2b0 : decide (x9_1 < (l0.length : Int)) = true := decide_eq_true c2
        clear c2
        by_cases c3 : 0 ≤ x9_1
        · rw [if_pos c3] at H
          have c3b0 : decide (0 ≤ x9_1) = true := decide_eq_true c3
          clear c3
          by_cases c4 : x9_1 < (l0.length : Int)
          · rw [if_pos c4] at H
            have c4b0 : decide (x9_1 < (l0.length : Int)) = true := decide_eq_true c4
            clear c4
            replace H := Option.bind_eq_some_iff.mp H
            obtain ⟨t306, A50, H⟩ := H
            replace H : (if (t306.size : Int) > 600 then (some ((⟨#[]⟩ : ByteArray), false)) else (impl_packed.l0 k1 t306 l0 (l0.length : Int) (wrap64 (x9_1 + 1)))) = some (r1, r2) := H
            have A5 := Aside0.mk A50
            clear A50
            by_cases c6 : (t306.size : Int) > 600
            · rw [if_pos c6] at H
              have c6b0 : decide (600 < (t306.size : Int)) = true := decide_eq_true c6
              have c6b1 : decide (600 < t306.size) = true := decide_eq_true (by omega)
              clear c6
              simp only [Option.some.injEq, Prod.mk.injEq] at H
              obtain ⟨rfl, rfl⟩ := H
              have p305 : 0 ≤ (x9_1 : Int) := of_decide_eq_true (by first | (with_reducible assumption) | assumption)
              have q305 : x9_1 < (l0.length : Int) := of_decide_eq_true (by first | (with_reducible assumption) | assumption)
              obtain ⟨ad305, e305, hx305_0⟩ := Kd.at_string HR0.out x9_1 p305 q305
              cases e305
              replace hx305_0 := (HB.out.cell (World.block_lt_of_cell? w _ hx305_0)).trans hx305_0
              replace p305 := eq_true p305
              replace q305 := eq_true q305
              go_wp2_with (first | ((with_reducible refine gate_callee (f := 49) rfl ?_); refine goesL_ (some 15) rfl rfl Tryd.func49 (by kernel_rfl) rfl #[.string x4_1, .string (rdOf ByteArray.empty l0 x9_1)] rfl (by (try simp only [List.map_toArray, List.map_cons, List.map_nil]); first | done | rfl | (simp only [List.length_drop, List.length_take]; rfl)) ?_; (with_reducible refine (impl_putName.calls k1 x4_1 (rdOf ByteArray.empty l0 x9_1) t306 _ A5.out).mono ?_); rintro e w7 ⟨rfl, hb⟩; refine ⟨_, rfl, ?_⟩; have n0_ := Aside0.mk (below_step (by repeat (first | (with_reducible first | exact HB.out | apply below_alloc | apply pw_below_drewN | apply below_drew1) | exact HB.out)) hb); clear HB; have HB := n0_; clear n0_; (try clear hb); (try clear hb2); (try clear hk); (try clear hi)))
              go_ret2
              exact ⟨by first | rfl | (simp [errW_none, errW_some] <;> rfl) | (simp [*, errW_none, errW_some] <;> rfl), by repeat (first | (with_reducible first | exact HB.out | apply below_alloc | apply pw_below_drewN | apply below_drew1) | exact HB.out)⟩
            · rw [if_neg c6] at H
              have c6b0 : decide (600 < (t306.size : Int)) = false := decide_eq_false c6
              have c6b1 : decide (600 < t306.size) = false := decide_eq_false (by omega)
              clear c6
              have H' := Aside0.mk H
              clear H
              have p305 : 0 ≤ (x9_1 : Int) := of_decide_eq_true (by first | (with_reducible assumption) | assumption)
              have q305 : x9_1 < (l0.length : Int) := of_decide_eq_true (by first | (with_reducible assumption) | assumption)
              obtain ⟨ad305, e305, hx305_0⟩ := Kd.at_string HR0.out x9_1 p305 q305
              cases e305
              replace hx305_0 := (HB.out.cell (World.block_lt_of_cell? w _ hx305_0)).trans hx305_0
              replace p305 := eq_true p305
              replace q305 := eq_true q305
              go_wp2_with (first | ((with_reducible refine gate_callee (f := 49) rfl ?_); refine goesL_ (some 15) rfl rfl Tryd.func49 (by kernel_rfl) rfl #[.string x4_1, .string (rdOf ByteArray.empty l0 x9_1)] rfl (by (try simp only [List.map_toArray, List.map_cons, List.map_nil]); first | done | rfl | (simp only [List.length_drop, List.length_take]; rfl)) ?_; (with_reducible refine (impl_putName.calls k1 x4_1 (rdOf ByteArray.empty l0 x9_1) t306 _ A5.out).mono ?_); rintro e w8 ⟨rfl, hb⟩; refine ⟨_, rfl, ?_⟩; have n0_ := Aside0.mk (below_step (by repeat (first | (with_reducible first | exact HB.out | apply below_alloc | apply pw_below_drewN | apply below_drew1) | exact HB.out)) hb); clear HB; have HB := n0_; clear n0_; (try clear hb); (try clear hb2); (try clear hk); (try clear hi)))
              go_roundg k1
              case measure => have := HK1.out; omega
              case rel => exact ⟨(t306), (wrap64 (x9_1 + 1)), (by first | rfl | (simp; done) | (simp [*]; done)), (by first | rfl | (simp; done) | (simp [*]; done)), H', ⟨by have := HK1.out; omega⟩, ⟨by repeat (first | (with_reducible first | exact HB.out | apply below_alloc | apply pw_below_drewN | apply below_drew1) | exact HB.out)⟩⟩
          · rw [if_neg c4] at H
            exact absurd H (by simp)
        · rw [if_neg c3] at H
          exact absurd H (by simp)
      · rw [if_neg c2] at H
        have c2b0 : decide (x9_1 < (l0.length : Int)) = false := decide_eq_false c2
        clear c2
        simp only [Option.some.injEq, Prod.mk.injEq] at H
        obtain ⟨rfl, rfl⟩ := H
        go_wp2
        go_ret2
        exact ⟨by first | rfl | (simp [errW_none, errW_some] <;> rfl) | (simp [*, errW_none, errW_some] <;> rfl), by repeat (first | (with_reducible first | exact HB.out | apply below_alloc | apply pw_below_drewN | apply below_drew1) | exact HB.out)⟩

end Go.Proofs.YtomcfhbmdoomlaaDoor.P
