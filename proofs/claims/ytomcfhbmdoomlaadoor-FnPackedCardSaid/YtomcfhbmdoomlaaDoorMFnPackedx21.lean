/- FnPacked: part 22 of 28 of my texts for this claim, joined; the theorem stands in the last. Conditions: none beyond the statement's. -/
import Derived.Test.YtomcfhbmdoomlaaDoorMFnPackedx20
import Derived.Test.YtomcfhbmdoomlaaDoorMFnPackedx12
import Derived.Test.YtomcfhbmdoomlaaDoorMFnPackedx10
import Derived.Test.YtomcfhbmdoomlaaDoorMFnPackedx2
import Derived.Test.YtomcfhbmdoomlaaDoorMFnPackedx4
-- PurePut
/- Putting a name: the reference and the program return the same. Conditions: the texts are short. -/
namespace Go.Proofs.YtomcfhbmdoomlaaDoor.Pure
open Go.RowKit Go.Proofs.YtomcfhbmdoomlaaDoor.P Go.Proofs.YtomcfhbmdoomlaaDoorW.PrintWords Go.Proofs.YtomcfhbmdoomlaaDoorW.PrintLast
set_option linter.unusedVariables false
set_option linter.unusedSimpArgs false
set_option linter.unusedSectionVars false
theorem put_good_par {s : List UInt8} (h : goodL s = true) : goodL (parL s) = true := by
  rcases place_or 46 s with ⟨_, h1⟩ | ⟨p, r, h1, h2, _⟩
  · rw [parL_none s h1]; decide
  · have hr : parL s = r := by rw [h1]; exact parL_hit p r h2
    have hs : splitL 46 s = p :: splitL 46 r := by rw [h1]; exact splitL_hit 46 p _ h2
    have hne : s ≠ [] := by intro e; rw [e] at h1; simp at h1
    have hl := parL_len s
    rw [hr] at hl ⊢
    unfold goodL at h ⊢
    rw [show labelsL s = splitL 46 s by unfold labelsL; rw [if_neg hne], hs] at h
    simp only [Bool.and_eq_true, decide_eq_true_eq, List.length_cons, List.all_cons] at h ⊢
    unfold labelsL
    split
    · exact ⟨by omega, by simp, rfl⟩
    · exact ⟨by omega, by omega, h.2.2.2⟩
theorem cut_first (s : ByteArray) (hs : s.size < 4611686018427387904) : ∃ q2 q3, strings_Cut.f s (⟨#[46]⟩ : ByteArray) = some (mkB ((splitL 46 s.data.toList).headD []), q2, q3) := by
  unfold strings_Cut.f stringslite_Cut.f internal_stringslite_Index.f
  rw [if_pos (show (⟨#[46]⟩ : ByteArray).size = 1 from rfl)]
  simp only [Option.bind_some]
  rw [show List.headD (⟨#[46]⟩ : ByteArray).data.toList 0 = 46 from rfl, show (⟨#[46]⟩ : ByteArray).size = 1 from rfl]
  rcases place_or 46 s.data.toList with ⟨h1, h2⟩ | ⟨p, r, h1, h2, h3⟩
  · rw [h1, if_neg (by omega), splitL_none _ _ h2]
    exact ⟨_, _, by show some (s, _, _) = some (mkB s.data.toList, _, _); rw [data_mkB]⟩
  · have hl : p.length + (r.length + 1) = s.size := by rw [size_len, h1]; simp
    rw [h3, show (((1 : Nat) : Int)) = 1 from rfl, w64n (by omega), if_pos (by omega), if_pos (by omega), if_pos (by omega), if_pos (by omega), if_pos (by omega), Int.toNat_natCast, Int.toNat_natCast, ext_mkB]
    refine ⟨s.extract (p.length + 1) s.size, true, ?_⟩
    have e : (s.data.toList.drop 0).take (p.length - 0) = (splitL 46 s.data.toList).headD [] := by
      rw [h1, splitL_hit 46 p r h2]
      simp
    rw [e]
    rfl
section
variable (s : ByteArray) (hs : s.size ≤ 600)
include hs
theorem suff2 : ∀ (n a : Nat) (acc : List Int), s.size - a ≤ n → a ≤ s.size → acc.length + 9 * n ≤ 100000 → (∀ x ∈ acc, 0 ≤ x ∧ x < (s.size : Int)) →
    ∃ r, Ev (fun k => spec_l2Suffixes.l0 k s acc (a : Int)) r ∧ Ev (fun k => impl_suffixesOf.l0 k s acc (a : Int)) r ∧ r.length ≤ 100000 ∧ ∀ x ∈ r, 0 ≤ x ∧ x < (s.size : Int)
  | n, a, acc, hn, ha, hl, hacc => by
    by_cases h : (a : Int) < (s.size : Int)
    · obtain ⟨r, r', g1, g2, g3, g4⟩ := take_both2 s hs a ha
      have es : ∀ k, spec_l2Suffixes.l0 (k + 1) s acc (a : Int) = (spec_l2Take.f k s (a : Int)).bind fun bt178 => (if bt178.2.2.2 = true then (if acc.length + bt178.2.2.1.length < 17592186044416 then (spec_l2Suffixes.l0 k s (acc ++ bt178.2.2.1) bt178.2.1) else (none)) else (some acc)) := fun k => by
        conv => lhs; unfold spec_l2Suffixes.l0
        rw [if_pos h]
      have ei : ∀ k, impl_suffixesOf.l0 (k + 1) s acc (a : Int) = (impl_takeName.f k s (a : Int)).bind fun bt193 => (if bt193.2.2.2 = true then (if acc.length + bt193.2.1.length < 17592186044416 then (impl_suffixesOf.l0 k s (acc ++ bt193.2.1) bt193.2.2.1) else (none)) else (some acc)) := fun k => by
        conv => lhs; unfold impl_suffixesOf.l0
        rw [if_pos h]
      by_cases hr : r.2.2.2 = true
      · obtain ⟨q1, q2, q3, q4, q5, q6, q7⟩ := g4 hr
        obtain ⟨b, hb⟩ : ∃ b : Nat, r.2.1 = (b : Int) := ⟨r.2.1.toNat, by omega⟩
        obtain ⟨t, f1, f2, f3⟩ := suff2 (n - 1) b (acc ++ r.2.2.1) (by omega) (by omega) (by rw [List.length_append]; omega) (by
          intro x hx
          rcases List.mem_append.1 hx with hx | hx
          · exact hacc x hx
          · exact q7 x hx)
        refine ⟨t, Ev.step es (Ev.bind g1 ?_), Ev.step ei (Ev.bind g2 ?_), f3⟩
        · simp only [if_pos hr, if_pos (show acc.length + r.2.2.1.length < 17592186044416 by omega), hb]
          exact f1
        · rw [g3] at hr
          simp only [if_pos hr, ← q3, ← q2, if_pos (show acc.length + r.2.2.1.length < 17592186044416 by omega), hb]
          exact f2
      · refine ⟨acc, Ev.step es (Ev.bind g1 ?_), Ev.step ei (Ev.bind g2 ?_), by omega, hacc⟩
        · simp only [if_neg hr]; exact Ev.now _
        · rw [g3] at hr
          simp only [if_neg hr]; exact Ev.now _
    · refine ⟨acc, Ev.step (f := fun _ => some acc) (fun k => ?_) (Ev.now _), Ev.step (f := fun _ => some acc) (fun k => ?_) (Ev.now _), by omega, hacc⟩
      · show spec_l2Suffixes.l0 (k + 1) s acc (a : Int) = _
        conv => lhs; unfold spec_l2Suffixes.l0
        rw [if_neg h]
      · show impl_suffixesOf.l0 (k + 1) s acc (a : Int) = _
        conv => lhs; unfold impl_suffixesOf.l0
        rw [if_neg h]
  termination_by n => n
theorem pick_pred (rest : ByteArray) : ∃ P : Int → Bool, ∀ x, 0 ≤ x ∧ x < (s.size : Int) → ∃ r, Ev (fun k => spec_l2Take.f k s x) r ∧ (r.2.2.2 && (r.1.toList == rest.toList)) = P x ∧ ∃ K, ∀ k, K ≤ k → (impl_takeName.f k s x).isSome = true ∧ putP k s rest x = P x := by
  have key : ∀ x, 0 ≤ x ∧ x < (s.size : Int) → ∃ v : Bool, ∃ r, Ev (fun k => spec_l2Take.f k s x) r ∧ (r.2.2.2 && (r.1.toList == rest.toList)) = v ∧ ∃ K, ∀ k, K ≤ k → (impl_takeName.f k s x).isSome = true ∧ putP k s rest x = v := by
    intro x hx
    obtain ⟨a, rfl⟩ : ∃ a : Nat, x = (a : Int) := ⟨x.toNat, by omega⟩
    obtain ⟨r, r', g1, ⟨K, g2⟩, g3, g4⟩ := take_both s hs a (by omega)
    refine ⟨_, r, g1, rfl, K, fun k hk => ?_⟩
    have e : impl_takeName.f k s (a : Int) = some r' := g2 k hk
    refine ⟨by rw [e]; rfl, ?_⟩
    unfold putP
    rw [e]
    show (r'.2.2.2 && (r'.1.toList == rest.toList)) = _
    by_cases hr : r.2.2.2 = true
    · rw [← g3, (g4 hr).1]
    · rw [← g3, Bool.eq_false_iff.mpr hr]
      rfl
  refine ⟨fun x => if h : 0 ≤ x ∧ x < (s.size : Int) then (key x h).choose else false, fun x hx => ?_⟩
  simp only [dif_pos hx]
  exact (key x hx).choose_spec
theorem put_rounds (rest : ByteArray) (P : Int → Bool) (hP : ∀ x, 0 ≤ x ∧ x < (s.size : Int) → ∃ K, ∀ k, K ≤ k → (impl_takeName.f k s x).isSome = true ∧ putP k s rest x = P x) : ∀ (places : List Int), (∀ x ∈ places, 0 ≤ x ∧ x < (s.size : Int)) →
    ∃ K, ∀ k, K ≤ k → ∀ x ∈ places, (impl_takeName.f k s x).isSome = true ∧ putP k s rest x = P x
  | [], _ => ⟨0, fun _ _ x hx => by cases hx⟩
  | y :: ys, h => by
    obtain ⟨K1, h1⟩ := hP y (h y List.mem_cons_self)
    obtain ⟨K2, h2⟩ := put_rounds rest P hP ys fun x hx => h x (List.mem_cons_of_mem _ hx)
    refine ⟨max K1 K2, fun k hk x hx => ?_⟩
    rcases List.mem_cons.1 hx with rfl | hx
    · exact h1 k (by omega)
    · exact h2 k (by omega) x hx
/-- What the reference does where no place fits. -/
def putTail (k : Nat) (b rest : ByteArray) (places : List Int) (head : ByteArray) : Option ByteArray := (spec_l1Labels.f k rest).bind fun bt294 => (if 0 < (bt294.1.length : Int) then ((some (([(((rdOf ByteArray.empty bt294.1 0).size : Int)) % 256] : List Int) : List Int)).bind fun y299 => (if (strOfNums y299).size + (rdOf ByteArray.empty bt294.1 0).size ≤ 9223372036854775807 then (if head.size + ((strOfNums y299) ++ (rdOf ByteArray.empty bt294.1 0)).size ≤ 9223372036854775807 then ((spec_l1Parent.f k rest).bind fun t303 => (spec_l2Put.l0 k b t303 places (head ++ ((strOfNums y299) ++ (rdOf ByteArray.empty bt294.1 0))))) else (none)) else (none))) else (none))
theorem put_places (rest head : ByteArray) (hh : head.size ≤ 2000) (P : Int → Bool) (places : List Int) (hl : places.length ≤ 100000) (hr : ∀ x ∈ places, 0 ≤ x ∧ x < (s.size : Int))
    (hP : ∀ x, 0 ≤ x ∧ x < (s.size : Int) → ∃ r, Ev (fun k => spec_l2Take.f k s x) r ∧ (r.2.2.2 && (r.1.toList == rest.toList)) = P x) : ∀ (m i : Nat), i + m = places.length → (∀ j y, j < i → places[j]? = some y → P y = false) →
    (0 ≤ idxP P places 0 ∧ Ev (fun k => spec_l2Put.l1 k s rest places head places (places.length : Int) (i : Int)) ((s ++ head) ++ strOfNums [(wrap64 (192 + (wrap64 (Int.tdiv (rd places (idxP P places 0)) 256)))) % 256, (rd places (idxP P places 0)) % 256])) ∨
    (¬ 0 ≤ idxP P places 0 ∧ ∀ r, Ev (fun k => putTail k s rest places head) r → Ev (fun k => spec_l2Put.l1 k s rest places head places (places.length : Int) (i : Int)) r)
  | 0, i, him, hn => by
    right
    have hm : idxP P places 0 = -1 := idxP_miss P places 0 (fun y hy => by obtain ⟨j, hj, e⟩ := List.mem_iff_getElem.1 hy; exact hn j y (by omega) (by rw [List.getElem?_eq_getElem hj, e]))
    refine ⟨by omega, fun r hr2 => Ev.step (fun k => ?_) hr2⟩
    show spec_l2Put.l1 (k + 1) s rest places head places (places.length : Int) (i : Int) = _
    conv => lhs; unfold spec_l2Put.l1
    rw [if_neg (by omega)]
    rfl
  | m + 1, i, him, hn => by
    have hi : i < places.length := by omega
    have hrd : rd places (i : Int) = places[i] := by
      unfold rd
      rw [Int.toNat_natCast, List.getD_eq_getElem?_getD, List.getElem?_eq_getElem hi]
      rfl
    obtain ⟨t, e1, e2⟩ := hP places[i] (hr _ (List.getElem_mem hi))
    have hstep : ∀ k, spec_l2Put.l1 (k + 1) s rest places head places (places.length : Int) (i : Int) = (spec_l2Take.f k s places[i]).bind fun bt285 => (if (bt285.2.2.2 && (bt285.1.toList == rest.toList)) = true then some ((s ++ head) ++ strOfNums [(wrap64 (192 + (wrap64 (Int.tdiv places[i] 256)))) % 256, places[i] % 256]) else spec_l2Put.l1 k s rest places head places (places.length : Int) ((i + 1 : Nat) : Int)) := by
      intro k
      conv => lhs; unfold spec_l2Put.l1
      have hy : ∀ y1 y2 : Int, (strOfNums [y1, y2]).size = 2 := fun y1 y2 => by rw [strOfNums_size]; rfl
      rw [if_pos (by omega), if_pos (by omega), if_pos (by omega), hrd, w64n (by omega), if_pos (show s.size + head.size ≤ 9223372036854775807 by omega), Option.bind_some, if_pos (by rw [hy, ByteArray.size_append]; omega)]
      congr 1
      funext bt
      by_cases h1 : bt.2.2.2 = true
      · rw [if_pos h1, h1, Bool.true_and]
        by_cases h2 : bt.1.toList = rest.toList
        · rw [if_pos h2, if_pos (by rw [h2]; simp)]
        · rw [if_neg h2, if_neg (by rw [beq_iff_eq]; exact h2)]
      · rw [if_neg h1, Bool.eq_false_iff.mpr h1, Bool.false_and, if_neg (by simp)]
    cases hp : P places[i] with
    | true =>
      left
      have hx : idxP P places 0 = (i : Int) := by rw [idxP_hit P places 0 i places[i] (List.getElem?_eq_getElem hi) hp hn]; omega
      rw [hx, hrd]
      refine ⟨by omega, Ev.step hstep (Ev.bind e1 ?_)⟩
      rw [e2, hp]
      exact Ev.now _
    | false =>
      rcases put_places rest head hh P places hl hr hP m (i + 1) (by omega) (fun j y hj hy => by
        by_cases e : j = i
        · subst e
          rw [List.getElem?_eq_getElem hi] at hy
          cases hy
          exact hp
        · exact hn j y (by omega) hy) with ⟨g1, g2⟩ | ⟨g1, g2⟩
      · left
        refine ⟨g1, Ev.step hstep (Ev.bind e1 ?_)⟩
        rw [e2, hp]
        exact g2
      · right
        refine ⟨g1, fun r hr2 => Ev.step hstep (Ev.bind e1 ?_)⟩
        rw [e2, hp]
        exact g2 r hr2
theorem put_loops (places : List Int) (hl : places.length ≤ 100000) (hr : ∀ x ∈ places, 0 ≤ x ∧ x < (s.size : Int)) : ∀ (n : Nat) (rest head : ByteArray), rest.size ≤ n → n ≤ 60 → goodL rest.data.toList = true → head.size + 21 * n ≤ 2000 →
    ∃ r, Ev (fun k => spec_l2Put.l0 k s rest places head) r ∧ Ev (fun k => impl_putName.l0 k s places head rest) r
  | n, rest, head, hn, h60, hg, hh => by
    have h0 : (⟨#[0]⟩ : ByteArray).size = 1 := rfl
    by_cases hne : rest.toList = ([] : List UInt8)
    · refine ⟨(s ++ head) ++ (⟨#[0]⟩ : ByteArray), Ev.step (f := fun _ => some _) (fun k => ?_) (Ev.now _), Ev.step (f := fun _ => some _) (fun k => ?_) (Ev.now _)⟩
      · show spec_l2Put.l0 (k + 1) s rest places head = _
        unfold spec_l2Put.l0
        rw [if_pos hne, if_pos (by omega), if_pos (by rw [ByteArray.size_append]; omega)]
      · show impl_putName.l0 (k + 1) s places head rest = _
        unfold impl_putName.l0
        rw [if_pos hne, if_pos (by omega)]
    · obtain ⟨P, hP⟩ := pick_pred s hs rest
      obtain ⟨K, hK⟩ := put_rounds s hs rest P (fun x hx => (hP x hx).choose_spec.2.2) places hr
      have hK2 : ∀ k, K ≤ k → putDef k s places = true ∧ idxP (putP k s rest) places 0 = idxP P places 0 := fun k hk => ⟨List.all_eq_true.2 fun x hx => (hK k hk x hx).1, idxP_congr _ _ places 0 fun x hx => (hK k hk x hx).2⟩
      have es : ∀ k, spec_l2Put.l0 (k + 1) s rest places head = spec_l2Put.l1 k s rest places head places (places.length : Int) ((0 : Nat) : Int) := fun k => by
        conv => lhs; unfold spec_l2Put.l0
        rw [if_neg hne]
        rfl
      rcases put_places s hs rest head (by omega) P places hl hr (fun x hx => by obtain ⟨r, a1, a2, _⟩ := hP x hx; exact ⟨r, a1, a2⟩) places.length 0 (by omega) (fun j y hj => absurd hj (Nat.not_lt_zero _)) with ⟨g1, g2⟩ | ⟨g1, g2⟩
      · refine ⟨_, Ev.step es g2, ⟨K + 1, fun k hk => ?_⟩⟩
        obtain ⟨j, rfl⟩ : ∃ j, k = j + 1 := ⟨k - 1, by omega⟩
        obtain ⟨d1, d2⟩ := hK2 j (by omega)
        show impl_putName.l0 (j + 1) s places head rest = _
        conv => lhs; unfold impl_putName.l0
        rw [if_neg hne, if_pos d1, d2, if_pos g1, if_pos (by omega)]
      · have hnel : rest.data.toList ≠ [] := by rw [← Lib.toList_data]; exact hne
        obtain ⟨lab, l1, l2, l3⟩ := labels_ev rest (by omega)
        have l4 := l3 (l2.trans hg)
        have hsp : labelsL rest.data.toList = splitL 46 rest.data.toList := by unfold labelsL; rw [if_neg hnel]
        obtain ⟨p, ps, hp⟩ := List.exists_cons_of_ne_nil (splitL_ne 46 rest.data.toList)
        have hpl : p.length ≤ 60 := by have := splitL_part 46 rest.data.toList p (by rw [hp]; exact List.mem_cons_self); rw [← size_len] at this; omega
        have hpl20 : p.length ≤ 20 := by
          unfold goodL at hg
          rw [hsp, hp] at hg
          simp only [Bool.and_eq_true, List.all_cons] at hg
          exact label_size hg.2.2.1
        have hrd : rdOf ByteArray.empty lab.1 0 = mkB p := by rw [l4, hsp, hp]; rfl
        have hlen : 0 < (lab.1.length : Int) := by rw [l4, hsp, hp]; simp
        have h1s : ∀ v : Int, (strOfNums [v]).size = 1 := fun v => by rw [strOfNums_size]; rfl
        obtain ⟨q2, q3, hcut⟩ := cut_first rest (by omega)
        rw [hp] at hcut
        have hpar := implParent_eq rest (by omega)
        have hpos : 0 < rest.size := by rw [size_len]; exact List.length_pos_iff.2 hnel
        have hps : (mkB (parL rest.data.toList)).size < rest.size := by rw [mkB_size]; have := parL_len rest.data.toList; rw [← size_len] at this; omega
        obtain ⟨r, f1, f2⟩ := put_loops places hl hr (n - 1) (mkB (parL rest.data.toList)) (head ++ (strOfNums [((mkB p).size : Int) % 256] ++ mkB p)) (by omega) (by omega) (by rw [mkB_data]; exact put_good_par hg) (by rw [ByteArray.size_append, ByteArray.size_append, h1s, mkB_size]; omega)
        refine ⟨r, Ev.step es (g2 r ?_), ?_⟩
        · refine Ev.congr (fun k => rfl) (Ev.bind l1 ?_)
          simp only [hrd, if_pos hlen, Option.bind_some, if_pos (show (strOfNums [((mkB p).size : Int) % 256]).size + (mkB p).size ≤ 9223372036854775807 by rw [h1s, mkB_size]; omega), if_pos (show head.size + (strOfNums [((mkB p).size : Int) % 256] ++ mkB p).size ≤ 9223372036854775807 by rw [ByteArray.size_append, h1s, mkB_size]; omega)]
          exact Ev.bind (specParent_ev rest (by omega)) f1
        · obtain ⟨K3, f3⟩ := f2
          refine ⟨max K K3 + 1, fun k hk => ?_⟩
          obtain ⟨j, rfl⟩ : ∃ j, k = j + 1 := ⟨k - 1, by omega⟩
          obtain ⟨d1, d2⟩ := hK2 j (by omega)
          show impl_putName.l0 (j + 1) s places head rest = _
          conv => lhs; unfold impl_putName.l0
          rw [if_neg hne, if_pos d1, d2, if_neg g1, hcut, Option.bind_some]
          show (if head.size + (mkB p).size < 1099511627776 then ((impl_parentOf.f rest).bind fun q => impl_putName.l0 j s places (head ++ (strOfNums [(((mkB p).size : Int)) % 256] ++ mkB p)) q) else none) = some r
          rw [if_pos (by rw [mkB_size]; omega), hpar, Option.bind_some]
          exact f3 j (by omega)
  termination_by n rest => rest.size
theorem put_both (t : ByteArray) (ht : t.size ≤ 60) (hg : goodL t.data.toList = true) : ∃ r, Ev (fun k => spec_l2Put.f k s t) r ∧ Ev (fun k => impl_putName.f k s t) r := by
  obtain ⟨places, e1, e2, hl, hr⟩ := suff2 s hs s.size 0 [] (by omega) (by omega) (by simp; omega) (fun x hx => by cases hx)
  obtain ⟨r, f1, f2⟩ := put_loops s hs places hl hr 60 t (⟨#[]⟩ : ByteArray) ht (Nat.le_refl _) hg (by show 0 + 21 * 60 ≤ 2000; omega)
  exact ⟨r, Ev.congr (fun k => rfl) (Ev.bind e1 f1), Ev.congr (fun k => rfl) (Ev.bind e2 f2)⟩
end
end Go.Proofs.YtomcfhbmdoomlaaDoor.Pure

-- F24
-- By my own call of the kit's print (wip/tools/pp.py).
namespace Go.Proofs.YtomcfhbmdoomlaaDoor.P
open Go.RowKit Go.Proofs.YtomcfhbmdoomlaaDoorW.PrintWords Go.Proofs.YtomcfhbmdoomlaaDoorW.PrintLast Go.Proofs.YtomcfhbmdoomlaaDoorW.PrintMore
attribute [local go_sem] max2_int min2_int max_two min_two max_three min_three max_four min_four
set_option linter.unusedVariables false
set_option linter.unusedSimpArgs false

/-! ### impl_PutName: function 24 -/
def impl_PutName.j0 : Nat → ByteArray → ByteArray → Bool → Option (ByteArray × Bool)
  | 0, _, _, _ => none
  | k + 1, x0, x1, x14 => if x14 = true then (some ((⟨#[]⟩ : ByteArray), false)) else ((impl_putName.f k x0 x1).bind fun t291 => (if (t291.size : Int) > 600 then (some ((⟨#[]⟩ : ByteArray), false)) else (some (t291, true))))
def impl_PutName.f (k : Nat) (a0 : ByteArray) (a1 : ByteArray) : Option (ByteArray × Bool) := if (a0.size : Int) > 600 then (impl_PutName.j0 k a0 a1 true) else ((impl_GoodName.f a1).bind fun t290 => (impl_PutName.j0 k a0 a1 (!t290)))
theorem impl_PutName.mono_l : ∀ k, (∀ y0 y1 y2, LeO (impl_PutName.j0 k y0 y1 y2) (impl_PutName.j0 (k + 1) y0 y1 y2))
  | 0 => fun _ _ _ r h => by simp [impl_PutName.j0] at h
  | k + 1 => by
    have ih0 := impl_PutName.mono_l k
    · intro y0 y1 y2
      unfold impl_PutName.j0
      repeat' first
      | (with_reducible exact ih0 _ _ _)
      | (with_reducible exact impl_putName.mono _ _ _)
      | (with_reducible exact LeO.refl _)
      | (with_reducible exact LeO.none _)
      | (with_reducible refine LeO.ite ?_ ?_)
      | (with_reducible refine LeO.bind ?_ (fun _ => ?_))
      | exact ih0 _ _ _
      | exact impl_putName.mono _ _ _
      | exact LeO.none _
      | refine LeO.ite ?_ ?_
      | refine LeO.bind ?_ (fun _ => ?_)
theorem impl_PutName.mono : ∀ a0 a1 k, LeO (impl_PutName.f k a0 a1) (impl_PutName.f (k + 1) a0 a1) := by
  intro a0 a1 k
  have ih0 := impl_PutName.mono_l k
  unfold impl_PutName.f
  repeat' first
      | (with_reducible exact ih0 _ _ _)
      | (with_reducible exact impl_putName.mono _ _ _)
      | (with_reducible exact LeO.refl _)
      | (with_reducible exact LeO.none _)
      | (with_reducible refine LeO.ite ?_ ?_)
      | (with_reducible refine LeO.bind ?_ (fun _ => ?_))
      | exact ih0 _ _ _
      | exact impl_putName.mono _ _ _
      | exact LeO.none _
      | refine LeO.ite ?_ ?_
      | refine LeO.bind ?_ (fun _ => ?_)
set_option maxHeartbeats 8000000 in
set_option maxRecDepth 100000 in
theorem impl_PutName.calls (k : Nat) (a0 : ByteArray) (a1 : ByteArray) (r1 : ByteArray) (r2 : Bool) (w : World) (h : impl_PutName.f k a0 a1 = some (r1, r2)) :
    Calls Tryd.prog 24 #[.string a0, .string a1] w fun e w' => e = .returned (.tuple #[.string r1, .bool r2]) ∧ Below w.heap.size w w' := by
  have HB := Aside0.mk (Below.refl w.heap.size w)
  have H : (if (a0.size : Int) > 600 then (impl_PutName.j0 k a0 a1 true) else ((impl_GoodName.f a1).bind fun t290 => (impl_PutName.j0 k a0 a1 (!t290)))) = some (r1, r2) := h
  clear h
  have HC3 := Aside0.mk H
  clear H
  go_enter Tryd.func24, Tryd.ntmps24
  go_upto_region 1 with (fail)
  go_cut [14] (fun v14 wc => ∃ (kq : Nat) (x14_2 : Bool), v14 = .bool x14_2 ∧ Aside0 (impl_PutName.j0 kq a0 a1 x14_2 = some (r1, r2)) ∧ Aside0 (kq ≤ k) ∧ Aside0 (Below w.heap.size w wc))
  case first =>
    have H := HC3.out
    clear HC3
    by_cases c4 : (a0.size : Int) > 600
    · rw [if_pos c4] at H
      have c4b0 : decide (600 < (a0.size : Int)) = true := decide_eq_true c4
      have c4b1 : decide (600 < a0.size) = true := decide_eq_true (by omega)
      clear c4
      (first | rw [c4b0] | (simp only [i64_w, i32_w]; rw [c4b0]) | skip)
      have H' := Aside0.mk H
      clear H
      go_wp2
      go_meet
      case rel => exact ⟨_, (true), (by first | rfl | (simp; done) | (simp [*]; done)), H', ⟨by first | omega | exact Nat.le_refl _⟩, ⟨by repeat (first | (with_reducible first | exact HB.out | apply below_alloc | apply pw_below_drewN | apply below_drew1) | exact HB.out)⟩⟩
    · rw [if_neg c4] at H
      have c4b0 : decide (600 < (a0.size : Int)) = false := decide_eq_false c4
      have c4b1 : decide (600 < a0.size) = false := decide_eq_false (by omega)
      clear c4
      (first | rw [c4b0] | (simp only [i64_w, i32_w]; rw [c4b0]) | skip)
      replace H := Option.bind_eq_some_iff.mp H
      obtain ⟨t290, A50, H⟩ := H
      replace H : (impl_PutName.j0 k a0 a1 (!t290)) = some (r1, r2) := H
      have A5 := Aside0.mk A50
      clear A50
      have H' := Aside0.mk H
      clear H
      go_wp2_with (first | (go_at_call 35; (with_reducible refine (impl_GoodName.calls a1 t290 _ A5.out).mono ?_); rintro e w6 ⟨rfl, hb⟩; have n0_ := Aside0.mk (below_step (by repeat (first | (with_reducible first | exact HB.out | apply below_alloc | apply pw_below_drewN | apply below_drew1) | exact HB.out)) hb); clear HB; have HB := n0_; clear n0_; (try clear hb); (try clear hb2); (try clear hk); (try clear hi)))
      go_meet
      case rel => exact ⟨_, (!t290), (by first | rfl | (simp; done) | (simp [*]; done)), H', ⟨by first | omega | exact Nat.le_refl _⟩, ⟨by repeat (first | (with_reducible first | exact HB.out | apply below_alloc | apply pw_below_drewN | apply below_drew1) | exact HB.out)⟩⟩
  case rest =>
    clear HC3
    try clear c2
    try clear p2
    try clear c4
    try clear c4b0
    try clear c4b1
    obtain ⟨kq, x14_2, rfl, HA, HJ2, HB⟩ := hcut
    cases kq with
    | zero => exact absurd HA.out (by simp [impl_PutName.j0])
    | succ kj2 =>
      have H := HA.out
      clear HA
      simp only [impl_PutName.j0] at H
      by_cases c7 : x14_2 = true
      · subst c7
        have H1 : (some ((⟨#[]⟩ : ByteArray), false)) = some (r1, r2) := by rw [if_pos rfl] at H; exact H
        clear H
        have H := H1
        clear H1
        simp only [Option.some.injEq, Prod.mk.injEq] at H
        obtain ⟨rfl, rfl⟩ := H
        go_wp2
        go_ret2
        exact ⟨by first | rfl | (simp [errW_none, errW_some] <;> rfl) | (simp [*, errW_none, errW_some] <;> rfl), by repeat (first | (with_reducible first | exact HB.out | apply below_alloc | apply pw_below_drewN | apply below_drew1) | exact HB.out)⟩
      · replace c7 := Bool.eq_false_iff.mpr c7
        subst c7
        have H1 : ((impl_putName.f kj2 a0 a1).bind fun t291 => (if (t291.size : Int) > 600 then (some ((⟨#[]⟩ : ByteArray), false)) else (some (t291, true)))) = some (r1, r2) := by rw [if_neg (show ¬ (false = true) by decide)] at H; exact H
        clear H
        have H := H1
        clear H1
        replace H := Option.bind_eq_some_iff.mp H
        obtain ⟨t291, A80, H⟩ := H
        replace H : (if (t291.size : Int) > 600 then (some ((⟨#[]⟩ : ByteArray), false)) else (some (t291, true))) = some (r1, r2) := H
        have A8 := Aside0.mk A80
        clear A80
        by_cases c9 : (t291.size : Int) > 600
        · rw [if_pos c9] at H
          have c9b0 : decide (600 < (t291.size : Int)) = true := decide_eq_true c9
          have c9b1 : decide (600 < t291.size) = true := decide_eq_true (by omega)
          clear c9
          simp only [Option.some.injEq, Prod.mk.injEq] at H
          obtain ⟨rfl, rfl⟩ := H
          go_wp2_with (first | ((with_reducible refine gate_callee (f := 49) rfl ?_); refine goesL_ (some 17) rfl rfl Tryd.func49 (by kernel_rfl) rfl #[.string a0, .string a1] rfl (by (try simp only [List.map_toArray, List.map_cons, List.map_nil]); first | done | rfl | (simp only [List.length_drop, List.length_take]; rfl)) ?_; (with_reducible refine (impl_putName.calls kj2 a0 a1 t291 _ A8.out).mono ?_); rintro e w10 ⟨rfl, hb⟩; refine ⟨_, rfl, ?_⟩; have n0_ := Aside0.mk (below_step (by repeat (first | (with_reducible first | exact HB.out | apply below_alloc | apply pw_below_drewN | apply below_drew1) | exact HB.out)) hb); clear HB; have HB := n0_; clear n0_; (try clear hb); (try clear hb2); (try clear hk); (try clear hi)))
          go_ret2
          exact ⟨by first | rfl | (simp [errW_none, errW_some] <;> rfl) | (simp [*, errW_none, errW_some] <;> rfl), by repeat (first | (with_reducible first | exact HB.out | apply below_alloc | apply pw_below_drewN | apply below_drew1) | exact HB.out)⟩
        · rw [if_neg c9] at H
          have c9b0 : decide (600 < (t291.size : Int)) = false := decide_eq_false c9
          have c9b1 : decide (600 < t291.size) = false := decide_eq_false (by omega)
          clear c9
          simp only [Option.some.injEq, Prod.mk.injEq] at H
          obtain ⟨rfl, rfl⟩ := H
          go_wp2_with (first | ((with_reducible refine gate_callee (f := 49) rfl ?_); refine goesL_ (some 17) rfl rfl Tryd.func49 (by kernel_rfl) rfl #[.string a0, .string a1] rfl (by (try simp only [List.map_toArray, List.map_cons, List.map_nil]); first | done | rfl | (simp only [List.length_drop, List.length_take]; rfl)) ?_; (with_reducible refine (impl_putName.calls kj2 a0 a1 t291 _ A8.out).mono ?_); rintro e w11 ⟨rfl, hb⟩; refine ⟨_, rfl, ?_⟩; have n0_ := Aside0.mk (below_step (by repeat (first | (with_reducible first | exact HB.out | apply below_alloc | apply pw_below_drewN | apply below_drew1) | exact HB.out)) hb); clear HB; have HB := n0_; clear n0_; (try clear hb); (try clear hb2); (try clear hk); (try clear hi)))
          go_ret2
          exact ⟨by first | rfl | (simp [errW_none, errW_some] <;> rfl) | (simp [*, errW_none, errW_some] <;> rfl), by repeat (first | (with_reducible first | exact HB.out | apply below_alloc | apply pw_below_drewN | apply below_drew1) | exact HB.out)⟩

end Go.Proofs.YtomcfhbmdoomlaaDoor.P

-- F6
-- By my own call of the kit's print (wip/tools/pp.py).
namespace Go.Proofs.YtomcfhbmdoomlaaDoor.P
open Go.RowKit Go.Proofs.YtomcfhbmdoomlaaDoorW.PrintWords Go.Proofs.YtomcfhbmdoomlaaDoorW.PrintLast Go.Proofs.YtomcfhbmdoomlaaDoorW.PrintMore
attribute [local go_sem] max2_int min2_int max_two min_two max_three min_three max_four min_four
set_option linter.unusedVariables false
set_option linter.unusedSimpArgs false

/-! ### laws_FnExactPutName: function 6 -/
def laws_FnExactPutName.f (k : Nat) (a0 : ByteArray) (a1 : ByteArray) : Option (Bool) := if (a0.size : Int) > 1048576 then (some true) else (if (a1.size : Int) > 1048576 then (some true) else ((spec_PutName.f k a0 a1).bind fun bt292 => ((impl_PutName.f k a0 a1).bind fun bt294 => (if bt294.1.toList = bt292.1.toList then (if (bt294.2 != bt292.2) = true then (some false) else (some true)) else (some false)))))
theorem laws_FnExactPutName.mono : ∀ a0 a1 k, LeO (laws_FnExactPutName.f k a0 a1) (laws_FnExactPutName.f (k + 1) a0 a1) := by
  intro a0 a1 k
  unfold laws_FnExactPutName.f
  repeat' first
      | (with_reducible exact impl_PutName.mono _ _ _)
      | (with_reducible exact spec_PutName.mono _ _ _)
      | (with_reducible exact LeO.refl _)
      | (with_reducible exact LeO.none _)
      | (with_reducible refine LeO.ite ?_ ?_)
      | (with_reducible refine LeO.bind ?_ (fun _ => ?_))
      | exact impl_PutName.mono _ _ _
      | exact spec_PutName.mono _ _ _
      | exact LeO.none _
      | refine LeO.ite ?_ ?_
      | refine LeO.bind ?_ (fun _ => ?_)
set_option maxHeartbeats 8000000 in
set_option maxRecDepth 100000 in
theorem laws_FnExactPutName.calls (k : Nat) (a0 : ByteArray) (a1 : ByteArray) (r : Bool) (w : World) (h : laws_FnExactPutName.f k a0 a1 = some r) :
    Calls Tryd.prog 6 #[.string a0, .string a1] w fun e w' => e = .returned (.bool r) ∧ Below w.heap.size w w' := by
  have HB := Aside0.mk (Below.refl w.heap.size w)
  have H : (if (a0.size : Int) > 1048576 then (some true) else (if (a1.size : Int) > 1048576 then (some true) else ((spec_PutName.f k a0 a1).bind fun bt292 => ((impl_PutName.f k a0 a1).bind fun bt294 => (if bt294.1.toList = bt292.1.toList then (if (bt294.2 != bt292.2) = true then (some false) else (some true)) else (some false)))))) = some r := h
  clear h
  by_cases c3 : (a0.size : Int) > 1048576
  · rw [if_pos c3] at H
    have c3b0 : decide (1048576 < (a0.size : Int)) = true := decide_eq_true c3
    have c3b1 : decide (1048576 < a0.size) = true := decide_eq_true (by omega)
    clear c3
    obtain rfl := Option.some.inj H
    go_enter Tryd.func6, Tryd.ntmps6
    go_wp2
    go_ret
    exact ⟨by first | rfl | (simp [errW_none, errW_some] <;> rfl) | (simp [*, errW_none, errW_some] <;> rfl), by repeat (first | (with_reducible first | exact HB.out | apply below_alloc | apply pw_below_drewN | apply below_drew1) | exact HB.out)⟩
  · rw [if_neg c3] at H
    have c3b0 : decide (1048576 < (a0.size : Int)) = false := decide_eq_false c3
    have c3b1 : decide (1048576 < a0.size) = false := decide_eq_false (by omega)
    clear c3
    by_cases c4 : (a1.size : Int) > 1048576
    · rw [if_pos c4] at H
      have c4b0 : decide (1048576 < (a1.size : Int)) = true := decide_eq_true c4
      have c4b1 : decide (1048576 < a1.size) = true := decide_eq_true (by omega)
      clear c4
      obtain rfl := Option.some.inj H
      go_enter Tryd.func6, Tryd.ntmps6
      go_wp2
      go_ret
      exact ⟨by first | rfl | (simp [errW_none, errW_some] <;> rfl) | (simp [*, errW_none, errW_some] <;> rfl), by repeat (first | (with_reducible first | exact HB.out | apply below_alloc | apply pw_below_drewN | apply below_drew1) | exact HB.out)⟩
    · rw [if_neg c4] at H
      have c4b0 : decide (1048576 < (a1.size : Int)) = false := decide_eq_false c4
      have c4b1 : decide (1048576 < a1.size) = false := decide_eq_false (by omega)
      clear c4
      replace H := Option.bind_eq_some_iff.mp H
      obtain ⟨⟨t292, t293⟩, A50, H⟩ := H
      replace H : ((impl_PutName.f k a0 a1).bind fun bt294 => (if bt294.1.toList = t292.toList then (if (bt294.2 != t293) = true then (some false) else (some true)) else (some false))) = some r := H
      have A5 := Aside0.mk A50
      clear A50
      replace H := Option.bind_eq_some_iff.mp H
      obtain ⟨⟨t294, t295⟩, A60, H⟩ := H
      replace H : (if t294.toList = t292.toList then (if (t295 != t293) = true then (some false) else (some true)) else (some false)) = some r := H
      have A6 := Aside0.mk A60
      clear A60
      by_cases c7 : t294.toList = t292.toList
      · rw [if_pos c7] at H
        have c7b0 : (t294.toList == t292.toList) = true := beq_iff_eq.mpr c7
        have c7b1 : (t294.toList != t292.toList) = false := bne_eq_false_iff_eq.mpr c7
        clear c7
        by_cases c8 : (t295 != t293) = true
        · rw [if_pos c8] at H
          have c8b0 : (t295 != t293) = true := c8
          (try (have c8b1 : decide (t295 = t293) = false := by simpa using c8))
          (try (have c8b2 : (t295 == t293) = false := by simpa using c8))
          (try (have c8b3 : ¬ (t295 = t293) := by simpa using c8))
          clear c8
          obtain rfl := Option.some.inj H
          go_enter Tryd.func6, Tryd.ntmps6
          go_wp2_with (first | ((with_reducible refine gate_callee (f := 23) rfl ?_); refine goesL_ (some 18) rfl rfl Tryd.func23 (by kernel_rfl) rfl #[.string a0, .string a1] rfl (by (try simp only [List.map_toArray, List.map_cons, List.map_nil]); first | done | rfl | (simp only [List.length_drop, List.length_take]; rfl)) ?_; (with_reducible refine (spec_PutName.calls k a0 a1 t292 t293 _ A5.out).mono ?_); rintro e w9 ⟨rfl, hb⟩; refine ⟨_, rfl, ?_⟩; have n0_ := Aside0.mk (below_step (by repeat (first | (with_reducible first | exact HB.out | apply below_alloc | apply pw_below_drewN | apply below_drew1) | exact HB.out)) hb); clear HB; have HB := n0_; clear n0_; (try clear hb); (try clear hb2); (try clear hk); (try clear hi)) | ((with_reducible refine gate_callee (f := 24) rfl ?_); refine goesL_ (some 24) rfl rfl Tryd.func24 (by kernel_rfl) rfl #[.string a0, .string a1] rfl (by (try simp only [List.map_toArray, List.map_cons, List.map_nil]); first | done | rfl | (simp only [List.length_drop, List.length_take]; rfl)) ?_; (with_reducible refine (impl_PutName.calls k a0 a1 t294 t295 _ A6.out).mono ?_); rintro e w10 ⟨rfl, hb⟩; refine ⟨_, rfl, ?_⟩; have n0_ := Aside0.mk (below_step (by repeat (first | (with_reducible first | exact HB.out | apply below_alloc | apply pw_below_drewN | apply below_drew1) | exact HB.out)) hb); clear HB; have HB := n0_; clear n0_; (try clear hb); (try clear hb2); (try clear hk); (try clear hi)))
          go_ret
          exact ⟨by first | rfl | (simp [errW_none, errW_some] <;> rfl) | (simp [*, errW_none, errW_some] <;> rfl), by repeat (first | (with_reducible first | exact HB.out | apply below_alloc | apply pw_below_drewN | apply below_drew1) | exact HB.out)⟩
        · rw [if_neg c8] at H
          have c8b0 : (t295 != t293) = false := by simpa using c8
          (try (have c8b1 : decide (t295 = t293) = true := by simpa using c8))
          (try (have c8b2 : (t295 == t293) = true := by simpa using c8))
          clear c8
          obtain rfl := Option.some.inj H
          go_enter Tryd.func6, Tryd.ntmps6
          go_wp2_with (first | ((with_reducible refine gate_callee (f := 23) rfl ?_); refine goesL_ (some 18) rfl rfl Tryd.func23 (by kernel_rfl) rfl #[.string a0, .string a1] rfl (by (try simp only [List.map_toArray, List.map_cons, List.map_nil]); first | done | rfl | (simp only [List.length_drop, List.length_take]; rfl)) ?_; (with_reducible refine (spec_PutName.calls k a0 a1 t292 t293 _ A5.out).mono ?_); rintro e w11 ⟨rfl, hb⟩; refine ⟨_, rfl, ?_⟩; have n0_ := Aside0.mk (below_step (by repeat (first | (with_reducible first | exact HB.out | apply below_alloc | apply pw_below_drewN | apply below_drew1) | exact HB.out)) hb); clear HB; have HB := n0_; clear n0_; (try clear hb); (try clear hb2); (try clear hk); (try clear hi)) | ((with_reducible refine gate_callee (f := 24) rfl ?_); refine goesL_ (some 24) rfl rfl Tryd.func24 (by kernel_rfl) rfl #[.string a0, .string a1] rfl (by (try simp only [List.map_toArray, List.map_cons, List.map_nil]); first | done | rfl | (simp only [List.length_drop, List.length_take]; rfl)) ?_; (with_reducible refine (impl_PutName.calls k a0 a1 t294 t295 _ A6.out).mono ?_); rintro e w12 ⟨rfl, hb⟩; refine ⟨_, rfl, ?_⟩; have n0_ := Aside0.mk (below_step (by repeat (first | (with_reducible first | exact HB.out | apply below_alloc | apply pw_below_drewN | apply below_drew1) | exact HB.out)) hb); clear HB; have HB := n0_; clear n0_; (try clear hb); (try clear hb2); (try clear hk); (try clear hi)))
          go_ret
          exact ⟨by first | rfl | (simp [errW_none, errW_some] <;> rfl) | (simp [*, errW_none, errW_some] <;> rfl), by repeat (first | (with_reducible first | exact HB.out | apply below_alloc | apply pw_below_drewN | apply below_drew1) | exact HB.out)⟩
      · rw [if_neg c7] at H
        have c7b0 : (t294.toList == t292.toList) = false := beq_eq_false_iff_ne.mpr c7
        have c7b1 : (t294.toList != t292.toList) = true := bne_iff_ne.mpr c7
        obtain rfl := Option.some.inj H
        go_enter Tryd.func6, Tryd.ntmps6
        go_wp2_with (first | ((with_reducible refine gate_callee (f := 23) rfl ?_); refine goesL_ (some 18) rfl rfl Tryd.func23 (by kernel_rfl) rfl #[.string a0, .string a1] rfl (by (try simp only [List.map_toArray, List.map_cons, List.map_nil]); first | done | rfl | (simp only [List.length_drop, List.length_take]; rfl)) ?_; (with_reducible refine (spec_PutName.calls k a0 a1 t292 t293 _ A5.out).mono ?_); rintro e w13 ⟨rfl, hb⟩; refine ⟨_, rfl, ?_⟩; have n0_ := Aside0.mk (below_step (by repeat (first | (with_reducible first | exact HB.out | apply below_alloc | apply pw_below_drewN | apply below_drew1) | exact HB.out)) hb); clear HB; have HB := n0_; clear n0_; (try clear hb); (try clear hb2); (try clear hk); (try clear hi)) | ((with_reducible refine gate_callee (f := 24) rfl ?_); refine goesL_ (some 24) rfl rfl Tryd.func24 (by kernel_rfl) rfl #[.string a0, .string a1] rfl (by (try simp only [List.map_toArray, List.map_cons, List.map_nil]); first | done | rfl | (simp only [List.length_drop, List.length_take]; rfl)) ?_; (with_reducible refine (impl_PutName.calls k a0 a1 t294 t295 _ A6.out).mono ?_); rintro e w14 ⟨rfl, hb⟩; refine ⟨_, rfl, ?_⟩; have n0_ := Aside0.mk (below_step (by repeat (first | (with_reducible first | exact HB.out | apply below_alloc | apply pw_below_drewN | apply below_drew1) | exact HB.out)) hb); clear HB; have HB := n0_; clear n0_; (try clear hb); (try clear hb2); (try clear hk); (try clear hi)))
        go_ret
        exact ⟨by first | rfl | (simp [errW_none, errW_some] <;> rfl) | (simp [*, errW_none, errW_some] <;> rfl), by repeat (first | (with_reducible first | exact HB.out | apply below_alloc | apply pw_below_drewN | apply below_drew1) | exact HB.out)⟩

/-- THE ONE PURE STATEMENT of laws_FnExactPutName: yours. -/
def laws_FnExactPutName.Pure : Prop := ∀ (a0 : ByteArray) (a1 : ByteArray), a0.size ≤ 140737488351232 → a1.size ≤ 140737488351232 → ∃ k, laws_FnExactPutName.f k a0 a1 = some true
theorem laws_FnExactPutName.walk (P : laws_FnExactPutName.Pure) (a0 : ByteArray) (a1 : ByteArray) (w : World) (w0 : a0.size ≤ 140737488351232) (w1 : a1.size ≤ 140737488351232) :
    Calls Tryd.prog 6 #[.string a0, .string a1] w fun e w' => e = .returned (.bool true) ∧ Below w.heap.size w w' := by
  obtain ⟨k, h⟩ := P a0 a1 w0 w1
  refine (laws_FnExactPutName.calls k a0 a1 true w h).mono ?_
  rintro e w' ⟨rfl, hd⟩
  exact ⟨rfl, hd⟩

end Go.Proofs.YtomcfhbmdoomlaaDoor.P

-- PureFnExactPutName
/- 'laws.FnExactPutName' returns true: the reference and the program return the same. Conditions: the texts' sizes. -/
namespace Go.Proofs.YtomcfhbmdoomlaaDoor.Pure
open Go.RowKit Go.Proofs.YtomcfhbmdoomlaaDoor.P Go.Proofs.YtomcfhbmdoomlaaDoorW.PrintWords Go.Proofs.YtomcfhbmdoomlaaDoorW.PrintLast
set_option linter.unusedVariables false
set_option linter.unusedSimpArgs false
def failP : ByteArray × Bool := ((⟨#[]⟩ : ByteArray), false)
end Go.Proofs.YtomcfhbmdoomlaaDoor.Pure

-- PurePack
/- Packing names: the reference and the program return the same. Conditions: the texts' sizes. -/
namespace Go.Proofs.YtomcfhbmdoomlaaDoor.Pure
open Go.RowKit Go.Proofs.YtomcfhbmdoomlaaDoor.P Go.Proofs.YtomcfhbmdoomlaaDoorW.PrintWords Go.Proofs.YtomcfhbmdoomlaaDoorW.PrintLast
set_option linter.unusedVariables false
set_option linter.unusedSimpArgs false
theorem pk_rd (l : List ByteArray) (i : Nat) (h : i < l.length) : rdOf ByteArray.empty l (i : Int) = l[i] := by
  unfold rdOf
  rw [Int.toNat_natCast, List.getD_eq_getElem?_getD, List.getElem?_eq_getElem h]
  rfl
theorem specPut_good {b x r : ByteArray} (hb : b.size ≤ 600) (hg : goodL x.data.toList = true) (e1 : Ev (fun k => spec_l2Put.f k b x) r) : Ev (fun k => spec_PutName.f k b x) (if (r.size : Int) > 600 then failP else (r, true)) := by
  have hsz := good_size hg
  rw [← size_len] at hsz
  refine Ev.congr (f := fun k => (spec_GoodName.f k x).bind fun t304 => spec_PutName.j0 k b x (!t304)) (fun k => by unfold spec_PutName.f; rw [if_neg (by omega)]) (Ev.bind (specGood_ev x (by omega)) ?_)
  rw [hg]
  refine Ev.step (f := fun k => (spec_l2Put.f k b x).bind fun t305 => (if (t305.size : Int) > 600 then (some failP) else (some (t305, true)))) (fun k => rfl) (Ev.bind e1 ?_)
  by_cases h : (r.size : Int) > 600
  · simp only [if_pos h]; exact Ev.now _
  · simp only [if_neg h]; exact Ev.now _
theorem specPut_bad {b x : ByteArray} (hb : b.size ≤ 600) (hx : x.size ≤ 1048576) (hg : goodL x.data.toList = false) : Ev (fun k => spec_PutName.f k b x) failP := by
  refine Ev.congr (f := fun k => (spec_GoodName.f k x).bind fun t304 => spec_PutName.j0 k b x (!t304)) (fun k => by unfold spec_PutName.f; rw [if_neg (by omega)]) (Ev.bind (specGood_ev x (by omega)) ?_)
  rw [hg]
  exact Ev.step (f := fun _ => some failP) (fun k => rfl) (Ev.now _)
theorem pack_loops (l : List ByteArray) (hl : l.length ≤ 20) (hs : ∀ x ∈ l, x.size ≤ 1048576) : ∀ (m i : Nat) (b : ByteArray), i + m = l.length → b.size ≤ 600 →
    ∃ r, Ev (fun k => spec_PackNames.l0 k b l (l.length : Int) (i : Int)) r ∧ ((∀ x ∈ l.drop i, goodL x.data.toList = true) → Ev (fun k => impl_packed.l0 k b l (l.length : Int) (i : Int)) r) ∧ ((∃ x ∈ l.drop i, goodL x.data.toList = false) → r = failP) ∧ r.1.size ≤ 600
  | 0, i, b, him, hb => by
    refine ⟨(b, true), Ev.step (f := fun _ => some (b, true)) (fun k => ?_) (Ev.now _), fun _ => Ev.step (f := fun _ => some (b, true)) (fun k => ?_) (Ev.now _), ?_, hb⟩
    · show spec_PackNames.l0 (k + 1) b l (l.length : Int) (i : Int) = _
      unfold spec_PackNames.l0
      rw [if_neg (by omega)]
    · show impl_packed.l0 (k + 1) b l (l.length : Int) (i : Int) = _
      unfold impl_packed.l0
      rw [if_neg (by omega)]
    · rintro ⟨x, hx, _⟩
      rw [List.drop_of_length_le (by omega)] at hx
      cases hx
  | m + 1, i, b, him, hb => by
    have hi : i < l.length := by omega
    have es : ∀ k, spec_PackNames.l0 (k + 1) b l (l.length : Int) (i : Int) = (spec_PutName.f k b l[i]).bind fun bt => (if bt.2 = true then (spec_PackNames.l0 k bt.1 l (l.length : Int) ((i + 1 : Nat) : Int)) else (some ((⟨#[]⟩ : ByteArray), false))) := fun k => by
      conv => lhs; unfold spec_PackNames.l0
      rw [if_pos (by omega), if_pos (by omega), if_pos (by omega), pk_rd l i hi, w64n (by omega)]
    have ei : ∀ k, impl_packed.l0 (k + 1) b l (l.length : Int) (i : Int) = (impl_putName.f k b l[i]).bind fun t => (if (t.size : Int) > 600 then (some ((⟨#[]⟩ : ByteArray), false)) else (impl_packed.l0 k t l (l.length : Int) ((i + 1 : Nat) : Int))) := fun k => by
      conv => lhs; unfold impl_packed.l0
      rw [if_pos (by omega), if_pos (by omega), if_pos (by omega), pk_rd l i hi, w64n (by omega)]
    have hd : l.drop i = l[i] :: l.drop (i + 1) := List.drop_eq_getElem_cons hi
    by_cases hg : goodL l[i].data.toList = true
    · have hsz := good_size hg
      rw [← size_len] at hsz
      obtain ⟨r, e1, e2⟩ := put_both b hb l[i] hsz hg
      have e3 := specPut_good hb hg e1
      by_cases h6 : (r.size : Int) > 600
      · rw [if_pos h6] at e3
        refine ⟨failP, Ev.step es (Ev.bind e3 (Ev.now _)), fun _ => Ev.step ei (Ev.bind e2 ?_), fun _ => rfl, by decide⟩
        simp only [if_pos h6]
        exact Ev.now _
      · rw [if_neg h6] at e3
        obtain ⟨r2, g1, g2, g3, g4⟩ := pack_loops l hl hs m (i + 1) r (by omega) (by omega)
        refine ⟨r2, Ev.step es (Ev.bind e3 g1), fun h => Ev.step ei (Ev.bind e2 ?_), fun h => g3 ?_, g4⟩
        · simp only [if_neg h6]
          exact g2 fun x hx => h x (by rw [hd]; exact List.mem_cons_of_mem _ hx)
        · obtain ⟨x, hx, hb⟩ := h
          rw [hd] at hx
          rcases List.mem_cons.1 hx with rfl | hx
          · rw [hg] at hb; cases hb
          · exact ⟨x, hx, hb⟩
    · have hgf := Bool.eq_false_iff.mpr hg
      have e3 := specPut_bad hb (hs _ (List.getElem_mem hi)) hgf
      refine ⟨failP, Ev.step es (Ev.bind e3 (Ev.now _)), fun h => absurd (h l[i] (by rw [hd]; exact List.mem_cons_self)) hg, fun _ => rfl, by decide⟩
theorem pack_both (l : List ByteArray) (hs : ∀ x ∈ l, x.size ≤ 1048576) : ∃ r, Ev (fun k => spec_PackNames.f k l) r ∧ Ev (fun k => impl_PackNames.f k l) r ∧ (r.2 = true → l.length ≤ 20 ∧ ∀ x ∈ l, goodL x.data.toList = true) ∧ r.1.size ≤ 600 := by
  by_cases h20 : (l.length : Int) > 20
  · exact ⟨failP, Ev.congr (fun k => by unfold spec_PackNames.f; rw [if_pos h20]; rfl) (Ev.now _), Ev.congr (fun k => by unfold impl_PackNames.f; rw [if_pos h20]; rfl) (Ev.now _), (fun h => by cases h), by decide⟩
  · obtain ⟨r, g1, g2, g3, g4⟩ := pack_loops l (by omega) hs l.length 0 (⟨#[]⟩ : ByteArray) (by omega) (by show 0 ≤ 600; omega)
    rw [List.drop_zero] at g2 g3
    refine ⟨r, Ev.congr (fun k => by unfold spec_PackNames.f; rw [if_neg h20]; rfl) g1, ?_, ?_, g4⟩
    · by_cases hg : ∀ x ∈ l, goodL x.data.toList = true
      · have ha : (l.all fun x => goodL x.data.toList) = true := List.all_eq_true.2 hg
        refine Ev.congr (f := fun k => (impl_packed.f k l).bind fun bt308 => some (bt308.1, bt308.2)) (fun k => by unfold impl_PackNames.f impl_areNames.f; rw [if_neg h20, Option.bind_some, if_pos ha]) (Ev.bind (a := r) (g2 hg) (Ev.now _))
      · have ha : (l.all fun x => goodL x.data.toList) = false := by
          rw [Bool.eq_false_iff]
          intro h
          exact hg (List.all_eq_true.1 h)
        have hx : ∃ x ∈ l, goodL x.data.toList = false := by
          rw [List.all_eq_false] at ha
          obtain ⟨x, h1, h2⟩ := ha
          exact ⟨x, h1, Bool.eq_false_iff.mpr h2⟩
        rw [g3 hx]
        exact Ev.congr (fun k => by unfold impl_PackNames.f impl_areNames.f; rw [if_neg h20, Option.bind_some, if_neg (by rw [ha]; simp)]; rfl) (Ev.now failP)
    · intro h
      refine ⟨by omega, fun x hx => ?_⟩
      by_cases hb : goodL x.data.toList = true
      · exact hb
      · rw [g3 ⟨x, hx, Bool.eq_false_iff.mpr hb⟩] at h
        cases h
end Go.Proofs.YtomcfhbmdoomlaaDoor.Pure
