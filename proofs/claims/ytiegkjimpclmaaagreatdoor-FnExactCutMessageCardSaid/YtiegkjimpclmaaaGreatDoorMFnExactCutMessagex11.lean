/- FnExactCutMessage: part 12 of 14 of my texts for this claim, joined; the theorem stands in the last. Conditions: none beyond the statement's. -/
import Derived.Test.YtiegkjimpclmaaaGreatDoorMFnExactCutMessagex10
open Go.RowKit Go.Proofs.YtiegkjimpclmaaaGreatDoorW.PrintWords Go.Proofs.YtiegkjimpclmaaaGreatDoorW.PrintLast Go.Proofs.YtiegkjimpclmaaaGreatDoorW.PrintMore
set_option linter.unusedVariables false
set_option linter.unusedSimpArgs false
set_option maxHeartbeats 8000000
set_option maxRecDepth 100000
namespace Go.Proofs.YtiegkjimpclmaaaGreatDoor.Pure
open Go.Proofs.YtiegkjimpclmaaaGreatDoor.P
set_option linter.unusedSectionVars false
theorem put_good_par {s : List UInt8} (h : goodL s = true) : goodL (parL s) = true := by
 rcases place_or 46 s with ⟨_, h1⟩ | ⟨p, r, h1, h2, _⟩
 · rw [parL_none s h1]; decide
 · have hr : parL s = r := by rw [h1]; exact parL_hit p r h2
   have hs : splitL 46 s = p :: splitL 46 r := by rw [h1]; exact splitL_hit 46 p _ h2
   have hne : s ≠ [] := by intro e; rw [e] at h1; simp at h1
   have hl := parL_len s
   rw [hr] at hl ⊢
   unfold goodL at h ⊢
   rw [show labelsL s = splitL 46 s by unfold labelsL; rw [if_neg hne], hs] at h
   simp only [Bool.and_eq_true, decide_eq_true_eq, List.length_cons, List.all_cons] at h ⊢
   unfold labelsL
   split
   · exact ⟨by omega, by simp, rfl⟩
   · exact ⟨by omega, by omega, h.2.2.2⟩
theorem cut_first (s : ByteArray) (hs : s.size < 4611686018427387904) : ∃ q2 q3, strings_Cut.f s (⟨#[46]⟩ : ByteArray) = some (mkB ((splitL 46 s.data.toList).headD []), q2, q3) := by
 unfold strings_Cut.f stringslite_Cut.f internal_stringslite_Index.f
 rw [if_pos (show (⟨#[46]⟩ : ByteArray).size = 1 from rfl)]
 simp only [Option.bind_some]
 rw [show List.headD (⟨#[46]⟩ : ByteArray).data.toList 0 = 46 from rfl, show (⟨#[46]⟩ : ByteArray).size = 1 from rfl]
 rcases place_or 46 s.data.toList with ⟨h1, h2⟩ | ⟨p, r, h1, h2, h3⟩
 · rw [h1, if_neg (by omega), splitL_none _ _ h2]
   exact ⟨_, _, by show some (s, _, _) = some (mkB s.data.toList, _, _); rw [data_mkB]⟩
 · have hl : p.length + (r.length + 1) = s.size := by rw [size_len, h1]; simp
   rw [h3, show (((1 : Nat) : Int)) = 1 from rfl, w64n (by omega), if_pos (by omega), if_pos (by omega), if_pos (by omega), if_pos (by omega), if_pos (by omega), Int.toNat_natCast, Int.toNat_natCast, ext_mkB]
   refine ⟨s.extract (p.length + 1) s.size, true, ?_⟩
   have e : (s.data.toList.drop 0).take (p.length - 0) = (splitL 46 s.data.toList).headD [] := by
    rw [h1, splitL_hit 46 p r h2]
    simp
   rw [e]
   rfl
section
variable (s : ByteArray) (hs : s.size ≤ 2000)
include hs
theorem suff2 : ∀ (n a : Nat) (acc : List Int), s.size - a ≤ n → a ≤ s.size → acc.length + 9 * n ≤ 100000 → (∀ x ∈ acc, 0 ≤ x ∧ x < (s.size : Int)) →
 ∃ r, Ev (fun k => spec_l2Suffixes.l0 k s acc (a : Int)) r ∧ Ev (fun k => impl_suffixesOf.l0 k s acc (a : Int)) r ∧ r.length ≤ 100000 ∧ ∀ x ∈ r, 0 ≤ x ∧ x < (s.size : Int)
 | n, a, acc, hn, ha, hl, hacc => by
  by_cases h : (a : Int) < (s.size : Int)
  · obtain ⟨r, r', g1, g2, g3, g4⟩ := take_both2 s hs a ha
    have es : ∀ k, spec_l2Suffixes.l0 (k + 1) s acc (a : Int) = (spec_l2Take.f k s (a : Int)).bind fun bt178 => (if bt178.2.2.2 = true then (if acc.length + bt178.2.2.1.length < 17592186044416 then (spec_l2Suffixes.l0 k s (acc ++ bt178.2.2.1) bt178.2.1) else (none)) else (some acc)) := fun k => by
     conv => lhs; unfold spec_l2Suffixes.l0
     rw [if_pos h]
    have ei : ∀ k, impl_suffixesOf.l0 (k + 1) s acc (a : Int) = (impl_takeName.f k s (a : Int)).bind fun bt193 => (if bt193.2.2.2 = true then (if acc.length + bt193.2.1.length < 17592186044416 then (impl_suffixesOf.l0 k s (acc ++ bt193.2.1) bt193.2.2.1) else (none)) else (some acc)) := fun k => by
     conv => lhs; unfold impl_suffixesOf.l0
     rw [if_pos h]
    by_cases hr : r.2.2.2 = true
    · obtain ⟨q1, q2, q3, q4, q5, q6, q7⟩ := g4 hr
      obtain ⟨b, hb⟩ : ∃ b : Nat, r.2.1 = (b : Int) := ⟨r.2.1.toNat, by omega⟩
      obtain ⟨t, f1, f2, f3⟩ := suff2 (n - 1) b (acc ++ r.2.2.1) (by omega) (by omega) (by rw [List.length_append]; omega) (by
       intro x hx
       rcases List.mem_append.1 hx with hx | hx
       · exact hacc x hx
       · exact q7 x hx)
      refine ⟨t, Ev.step es (Ev.bind g1 ?_), Ev.step ei (Ev.bind g2 ?_), f3⟩
      · simp only [if_pos hr, if_pos (show acc.length + r.2.2.1.length < 17592186044416 by omega), hb]
        exact f1
      · rw [g3] at hr
        simp only [if_pos hr, ← q3, ← q2, if_pos (show acc.length + r.2.2.1.length < 17592186044416 by omega), hb]
        exact f2
    · refine ⟨acc, Ev.step es (Ev.bind g1 ?_), Ev.step ei (Ev.bind g2 ?_), by omega, hacc⟩
      · simp only [if_neg hr]; exact Ev.now _
      · rw [g3] at hr
        simp only [if_neg hr]; exact Ev.now _
  · refine ⟨acc, Ev.step (f := fun _ => some acc) (fun k => ?_) (Ev.now _), Ev.step (f := fun _ => some acc) (fun k => ?_) (Ev.now _), by omega, hacc⟩
    · show spec_l2Suffixes.l0 (k + 1) s acc (a : Int) = _
      conv => lhs; unfold spec_l2Suffixes.l0
      rw [if_neg h]
    · show impl_suffixesOf.l0 (k + 1) s acc (a : Int) = _
      conv => lhs; unfold impl_suffixesOf.l0
      rw [if_neg h]
 termination_by n => n
theorem pick_pred (rest : ByteArray) : ∃ P : Int → Bool, ∀ x, 0 ≤ x ∧ x < (s.size : Int) → ∃ r, Ev (fun k => spec_l2Take.f k s x) r ∧ (r.2.2.2 && (r.1.toList == rest.toList)) = P x ∧ ∃ K, ∀ k, K ≤ k → (impl_takeName.f k s x).isSome = true ∧ putP k s rest x = P x := by
 have key : ∀ x, 0 ≤ x ∧ x < (s.size : Int) → ∃ v : Bool, ∃ r, Ev (fun k => spec_l2Take.f k s x) r ∧ (r.2.2.2 && (r.1.toList == rest.toList)) = v ∧ ∃ K, ∀ k, K ≤ k → (impl_takeName.f k s x).isSome = true ∧ putP k s rest x = v := by
  intro x hx
  obtain ⟨a, rfl⟩ : ∃ a : Nat, x = (a : Int) := ⟨x.toNat, by omega⟩
  obtain ⟨r, r', g1, ⟨K, g2⟩, g3, g4⟩ := take_both s hs a (by omega)
  refine ⟨_, r, g1, rfl, K, fun k hk => ?_⟩
  have e : impl_takeName.f k s (a : Int) = some r' := g2 k hk
  refine ⟨by rw [e]; rfl, ?_⟩
  unfold putP
  rw [e]
  show (r'.2.2.2 && (r'.1.toList == rest.toList)) = _
  by_cases hr : r.2.2.2 = true
  · rw [← g3, (g4 hr).1]
  · rw [← g3, Bool.eq_false_iff.mpr hr]
    rfl
 refine ⟨fun x => if h : 0 ≤ x ∧ x < (s.size : Int) then (key x h).choose else false, fun x hx => ?_⟩
 simp only [dif_pos hx]
 exact (key x hx).choose_spec
theorem put_rounds (rest : ByteArray) (P : Int → Bool) (hP : ∀ x, 0 ≤ x ∧ x < (s.size : Int) → ∃ K, ∀ k, K ≤ k → (impl_takeName.f k s x).isSome = true ∧ putP k s rest x = P x) : ∀ (places : List Int), (∀ x ∈ places, 0 ≤ x ∧ x < (s.size : Int)) →
 ∃ K, ∀ k, K ≤ k → ∀ x ∈ places, (impl_takeName.f k s x).isSome = true ∧ putP k s rest x = P x
 | [], _ => ⟨0, fun _ _ x hx => by cases hx⟩
 | y :: ys, h => by
  obtain ⟨K1, h1⟩ := hP y (h y List.mem_cons_self)
  obtain ⟨K2, h2⟩ := put_rounds rest P hP ys fun x hx => h x (List.mem_cons_of_mem _ hx)
  refine ⟨max K1 K2, fun k hk x hx => ?_⟩
  rcases List.mem_cons.1 hx with rfl | hx
  · exact h1 k (by omega)
  · exact h2 k (by omega) x hx
def putTail (k : Nat) (b rest : ByteArray) (places : List Int) (head : ByteArray) : Option ByteArray := (spec_l1Labels.f k rest).bind fun bt294 => (if 0 < (bt294.1.length : Int) then ((some (([(((rdOf ByteArray.empty bt294.1 0).size : Int)) % 256] : List Int) : List Int)).bind fun y299 => (if (strOfNums y299).size + (rdOf ByteArray.empty bt294.1 0).size ≤ 9223372036854775807 then (if head.size + ((strOfNums y299) ++ (rdOf ByteArray.empty bt294.1 0)).size ≤ 9223372036854775807 then ((spec_l1Parent.f k rest).bind fun t303 => (spec_l2Put.l0 k b t303 places (head ++ ((strOfNums y299) ++ (rdOf ByteArray.empty bt294.1 0))))) else (none)) else (none))) else (none))
theorem put_places (rest head : ByteArray) (hh : head.size ≤ 2000) (P : Int → Bool) (places : List Int) (hl : places.length ≤ 100000) (hr : ∀ x ∈ places, 0 ≤ x ∧ x < (s.size : Int))
 (hP : ∀ x, 0 ≤ x ∧ x < (s.size : Int) → ∃ r, Ev (fun k => spec_l2Take.f k s x) r ∧ (r.2.2.2 && (r.1.toList == rest.toList)) = P x) : ∀ (m i : Nat), i + m = places.length → (∀ j y, j < i → places[j]? = some y → P y = false) →
 (0 ≤ idxP P places 0 ∧ Ev (fun k => spec_l2Put.l1 k s rest places head places (places.length : Int) (i : Int)) ((s ++ head) ++ strOfNums [(wrap64 (192 + (wrap64 (Int.tdiv (rd places (idxP P places 0)) 256)))) % 256, (rd places (idxP P places 0)) % 256])) ∨
 (¬ 0 ≤ idxP P places 0 ∧ ∀ r, Ev (fun k => putTail k s rest places head) r → Ev (fun k => spec_l2Put.l1 k s rest places head places (places.length : Int) (i : Int)) r)
 | 0, i, him, hn => by
  right
  have hm : idxP P places 0 = -1 := idxP_miss P places 0 (fun y hy => by obtain ⟨j, hj, e⟩ := List.mem_iff_getElem.1 hy; exact hn j y (by omega) (by rw [List.getElem?_eq_getElem hj, e]))
  refine ⟨by omega, fun r hr2 => Ev.step (fun k => ?_) hr2⟩
  show spec_l2Put.l1 (k + 1) s rest places head places (places.length : Int) (i : Int) = _
  conv => lhs; unfold spec_l2Put.l1
  rw [if_neg (by omega)]
  rfl
 | m + 1, i, him, hn => by
  have hi : i < places.length := by omega
  have hrd : rd places (i : Int) = places[i] := by
   unfold rd
   rw [Int.toNat_natCast, List.getD_eq_getElem?_getD, List.getElem?_eq_getElem hi]
   rfl
  obtain ⟨t, e1, e2⟩ := hP places[i] (hr _ (List.getElem_mem hi))
  have hstep : ∀ k, spec_l2Put.l1 (k + 1) s rest places head places (places.length : Int) (i : Int) = (spec_l2Take.f k s places[i]).bind fun bt285 => (if (bt285.2.2.2 && (bt285.1.toList == rest.toList)) = true then some ((s ++ head) ++ strOfNums [(wrap64 (192 + (wrap64 (Int.tdiv places[i] 256)))) % 256, places[i] % 256]) else spec_l2Put.l1 k s rest places head places (places.length : Int) ((i + 1 : Nat) : Int)) := by
   intro k
   conv => lhs; unfold spec_l2Put.l1
   have hy : ∀ y1 y2 : Int, (strOfNums [y1, y2]).size = 2 := fun y1 y2 => by rw [strOfNums_size]; rfl
   rw [if_pos (by omega), if_pos (by omega), if_pos (by omega), hrd, w64n (by omega), if_pos (show s.size + head.size ≤ 9223372036854775807 by omega), Option.bind_some, if_pos (by rw [hy, ByteArray.size_append]; omega)]
   congr 1
   funext bt
   by_cases h1 : bt.2.2.2 = true
   · rw [if_pos h1, h1, Bool.true_and]
     by_cases h2 : bt.1.toList = rest.toList
     · rw [if_pos h2, if_pos (by rw [h2]; simp)]
     · rw [if_neg h2, if_neg (by rw [beq_iff_eq]; exact h2)]
   · rw [if_neg h1, Bool.eq_false_iff.mpr h1, Bool.false_and, if_neg (by simp)]
  cases hp : P places[i] with
  | true =>
   left
   have hx : idxP P places 0 = (i : Int) := by rw [idxP_hit P places 0 i places[i] (List.getElem?_eq_getElem hi) hp hn]; omega
   rw [hx, hrd]
   refine ⟨by omega, Ev.step hstep (Ev.bind e1 ?_)⟩
   rw [e2, hp]
   exact Ev.now _
  | false =>
   rcases put_places rest head hh P places hl hr hP m (i + 1) (by omega) (fun j y hj hy => by
    by_cases e : j = i
    · subst e
      rw [List.getElem?_eq_getElem hi] at hy
      cases hy
      exact hp
    · exact hn j y (by omega) hy) with ⟨g1, g2⟩ | ⟨g1, g2⟩
   · left
     refine ⟨g1, Ev.step hstep (Ev.bind e1 ?_)⟩
     rw [e2, hp]
     exact g2
   · right
     refine ⟨g1, fun r hr2 => Ev.step hstep (Ev.bind e1 ?_)⟩
     rw [e2, hp]
     exact g2 r hr2
theorem put_loops (places : List Int) (hl : places.length ≤ 100000) (hr : ∀ x ∈ places, 0 ≤ x ∧ x < (s.size : Int)) : ∀ (n : Nat) (rest head : ByteArray), rest.size ≤ n → n ≤ 60 → goodL rest.data.toList = true → head.size + 21 * n ≤ 2000 →
 ∃ r, Ev (fun k => spec_l2Put.l0 k s rest places head) r ∧ Ev (fun k => impl_putName.l0 k s places head rest) r
 | n, rest, head, hn, h60, hg, hh => by
  have h0 : (⟨#[0]⟩ : ByteArray).size = 1 := rfl
  by_cases hne : rest.toList = ([] : List UInt8)
  · refine ⟨(s ++ head) ++ (⟨#[0]⟩ : ByteArray), Ev.step (f := fun _ => some _) (fun k => ?_) (Ev.now _), Ev.step (f := fun _ => some _) (fun k => ?_) (Ev.now _)⟩
    · show spec_l2Put.l0 (k + 1) s rest places head = _
      unfold spec_l2Put.l0
      rw [if_pos hne, if_pos (by omega), if_pos (by rw [ByteArray.size_append]; omega)]
    · show impl_putName.l0 (k + 1) s places head rest = _
      unfold impl_putName.l0
      rw [if_pos hne, if_pos (by omega)]
  · obtain ⟨P, hP⟩ := pick_pred s hs rest
    obtain ⟨K, hK⟩ := put_rounds s hs rest P (fun x hx => (hP x hx).choose_spec.2.2) places hr
    have hK2 : ∀ k, K ≤ k → putDef k s places = true ∧ idxP (putP k s rest) places 0 = idxP P places 0 := fun k hk => ⟨List.all_eq_true.2 fun x hx => (hK k hk x hx).1, idxP_congr _ _ places 0 fun x hx => (hK k hk x hx).2⟩
    have es : ∀ k, spec_l2Put.l0 (k + 1) s rest places head = spec_l2Put.l1 k s rest places head places (places.length : Int) ((0 : Nat) : Int) := fun k => by
     conv => lhs; unfold spec_l2Put.l0
     rw [if_neg hne]
     rfl
    rcases put_places s hs rest head (by omega) P places hl hr (fun x hx => by obtain ⟨r, a1, a2, _⟩ := hP x hx; exact ⟨r, a1, a2⟩) places.length 0 (by omega) (fun j y hj => absurd hj (Nat.not_lt_zero _)) with ⟨g1, g2⟩ | ⟨g1, g2⟩
    · refine ⟨_, Ev.step es g2, ⟨K + 1, fun k hk => ?_⟩⟩
      obtain ⟨j, rfl⟩ : ∃ j, k = j + 1 := ⟨k - 1, by omega⟩
      obtain ⟨d1, d2⟩ := hK2 j (by omega)
      show impl_putName.l0 (j + 1) s places head rest = _
      conv => lhs; unfold impl_putName.l0
      rw [if_neg hne, if_pos d1, d2, if_pos g1, if_pos (by omega)]
    · have hnel : rest.data.toList ≠ [] := by rw [← Lib.toList_data]; exact hne
      obtain ⟨lab, l1, l2, l3⟩ := labels_ev rest (by omega)
      have l4 := l3 (l2.trans hg)
      have hsp : labelsL rest.data.toList = splitL 46 rest.data.toList := by unfold labelsL; rw [if_neg hnel]
      obtain ⟨p, ps, hp⟩ := List.exists_cons_of_ne_nil (splitL_ne 46 rest.data.toList)
      have hpl : p.length ≤ 60 := by have := splitL_part 46 rest.data.toList p (by rw [hp]; exact List.mem_cons_self); rw [← size_len] at this; omega
      have hpl20 : p.length ≤ 20 := by
       unfold goodL at hg
       rw [hsp, hp] at hg
       simp only [Bool.and_eq_true, List.all_cons] at hg
       exact label_size hg.2.2.1
      have hrd : rdOf ByteArray.empty lab.1 0 = mkB p := by rw [l4, hsp, hp]; rfl
      have hlen : 0 < (lab.1.length : Int) := by rw [l4, hsp, hp]; simp
      have h1s : ∀ v : Int, (strOfNums [v]).size = 1 := fun v => by rw [strOfNums_size]; rfl
      obtain ⟨q2, q3, hcut⟩ := cut_first rest (by omega)
      rw [hp] at hcut
      have hpar := implParent_eq rest (by omega)
      have hpos : 0 < rest.size := by rw [size_len]; exact List.length_pos_iff.2 hnel
      have hps : (mkB (parL rest.data.toList)).size < rest.size := by rw [mkB_size]; have := parL_len rest.data.toList; rw [← size_len] at this; omega
      obtain ⟨r, f1, f2⟩ := put_loops places hl hr (n - 1) (mkB (parL rest.data.toList)) (head ++ (strOfNums [((mkB p).size : Int) % 256] ++ mkB p)) (by omega) (by omega) (by rw [mkB_data]; exact put_good_par hg) (by rw [ByteArray.size_append, ByteArray.size_append, h1s, mkB_size]; omega)
      refine ⟨r, Ev.step es (g2 r ?_), ?_⟩
      · refine Ev.congr (fun k => rfl) (Ev.bind l1 ?_)
        simp only [hrd, if_pos hlen, Option.bind_some, if_pos (show (strOfNums [((mkB p).size : Int) % 256]).size + (mkB p).size ≤ 9223372036854775807 by rw [h1s, mkB_size]; omega), if_pos (show head.size + (strOfNums [((mkB p).size : Int) % 256] ++ mkB p).size ≤ 9223372036854775807 by rw [ByteArray.size_append, h1s, mkB_size]; omega)]
        exact Ev.bind (specParent_ev rest (by omega)) f1
      · obtain ⟨K3, f3⟩ := f2
        refine ⟨max K K3 + 1, fun k hk => ?_⟩
        obtain ⟨j, rfl⟩ : ∃ j, k = j + 1 := ⟨k - 1, by omega⟩
        obtain ⟨d1, d2⟩ := hK2 j (by omega)
        show impl_putName.l0 (j + 1) s places head rest = _
        conv => lhs; unfold impl_putName.l0
        rw [if_neg hne, if_pos d1, d2, if_neg g1, hcut, Option.bind_some]
        show (if head.size + (mkB p).size < 1099511627776 then ((impl_parentOf.f rest).bind fun q => impl_putName.l0 j s places (head ++ (strOfNums [(((mkB p).size : Int)) % 256] ++ mkB p)) q) else none) = some r
        rw [if_pos (by rw [mkB_size]; omega), hpar, Option.bind_some]
        exact f3 j (by omega)
 termination_by n rest => rest.size
theorem put_both (t : ByteArray) (ht : t.size ≤ 60) (hg : goodL t.data.toList = true) : ∃ r, Ev (fun k => spec_l2Put.f k s t) r ∧ Ev (fun k => impl_putName.f k s t) r := by
 obtain ⟨places, e1, e2, hl, hr⟩ := suff2 s hs s.size 0 [] (by omega) (by omega) (by simp; omega) (fun x hx => by cases hx)
 obtain ⟨r, f1, f2⟩ := put_loops s hs places hl hr 60 t (⟨#[]⟩ : ByteArray) ht (Nat.le_refl _) hg (by show 0 + 21 * 60 ≤ 2000; omega)
 exact ⟨r, Ev.congr (fun k => rfl) (Ev.bind e1 f1), Ev.congr (fun k => rfl) (Ev.bind e2 f2)⟩
end
end Go.Proofs.YtiegkjimpclmaaaGreatDoor.Pure
namespace Go.Proofs.YtiegkjimpclmaaaGreatDoor.Pure
open Go.Proofs.YtiegkjimpclmaaaGreatDoor.P
set_option linter.unusedSectionVars false
theorem evUnique2 {α : Type} {g : Nat → Option α} {r r' : α} (h : Ev g r) (h' : Ev g r') : r = r' := by
 obtain ⟨K, h⟩ := h
 obtain ⟨K', h'⟩ := h'
 have h1 := h (max K K') (by omega)
 rw [h' (max K K') (by omega)] at h1
 exact (Option.some.inj h1).symm
inductive Reads (t : ByteArray) : Nat → Nat → List ByteArray → List Int → Nat → Prop
 | fin (a le : Nat) (h : a < t.size) (h0 : byteAt t a = 0) : Reads t a le [] [] (a + 1)
 | ptr (a le : Nat) (ls : List ByteArray) (pl : List Int) (en : Nat) (h : a + 1 < t.size) (h0 : 192 ≤ byteAt t a) (hp : ptrOf t a < le) (hr : Reads t (ptrOf t a) (ptrOf t a) ls pl en) : Reads t a le ls [] (a + 2)
 | lab (a le : Nat) (ls : List ByteArray) (pl : List Int) (en : Nat) (h0 : 0 < byteAt t a) (h1 : byteAt t a < 64) (h2 : a + 1 + byteAt t a ≤ t.size) (hr : Reads t (a + 1 + byteAt t a) le ls pl en) :
  Reads t a le (mkB ((rawL t a).map lowB) :: ls) ((a : Int) :: pl) en
theorem Reads.more {t : ByteArray} {a le : Nat} {ls : List ByteArray} {pl : List Int} {en : Nat} (h : Reads t a le ls pl en) : ∀ le', le ≤ le' → Reads t a le' ls pl en := by
 induction h with
 | fin a le h h0 => exact fun le' _ => .fin a le' h h0
 | ptr a le ls pl en h h0 hp hr ih => exact fun le' hl => .ptr a le' ls pl en h h0 (by omega) hr
 | lab a le ls pl en h0 h1 h2 hr ih => exact fun le' hl => .lab a le' ls pl en h0 h1 h2 (ih le' hl)
theorem byteAt_app (b x : ByteArray) (a : Nat) (h : a < b.size) : byteAt (b ++ x) a = byteAt b a := by
 have h1 : a < b.data.toList.length := by rw [← size_len]; exact h
 have h2 : a < (b ++ x).data.toList.length := by rw [← size_len, ByteArray.size_append]; omega
 have e := bt_list b a h1
 have e2 := bt_list (b ++ x) a h2
 have e3 : (b ++ x).data.toList = b.data.toList ++ x.data.toList := by simp
 have e4 : (b ++ x).data.toList[a] = b.data.toList[a] := by
  simp only [e3]
  exact List.getElem_append_left h1
 unfold byteAt
 rw [e, e2, e4]
theorem rawL_app (b x : ByteArray) (a : Nat) (h : a + 1 + byteAt b a ≤ b.size) : rawL (b ++ x) a = rawL b a := by
 unfold rawL
 rw [byteAt_app b x a (by omega), show (b ++ x).data.toList = b.data.toList ++ x.data.toList by simp, List.drop_append_of_le_length (by rw [← size_len]; omega), List.take_append_of_le_length (by rw [List.length_drop, ← size_len]; omega)]
theorem ptrOf_app (b x : ByteArray) (a : Nat) (h : a + 1 < b.size) : ptrOf (b ++ x) a = ptrOf b a := by
 unfold ptrOf
 rw [byteAt_app b x a (by omega), byteAt_app b x (a + 1) h]
theorem Reads.app {b : ByteArray} {a le : Nat} {ls : List ByteArray} {pl : List Int} {en : Nat} (h : Reads b a le ls pl en) (x : ByteArray) : Reads (b ++ x) a le ls pl en := by
 induction h with
 | fin a le h h0 => exact .fin a le (by rw [ByteArray.size_append]; omega) (by rw [byteAt_app b x a h]; exact h0)
 | ptr a le ls pl en h h0 hp hr ih =>
  have e := ptrOf_app b x a h
  exact .ptr a le ls pl en (by rw [ByteArray.size_append]; omega) (by rw [byteAt_app b x a (by omega)]; exact h0) (by rw [e]; exact hp) (by rw [e]; exact ih)
 | lab a le ls pl en h0 h1 h2 hr ih =>
  have e := byteAt_app b x a (by omega)
  have e2 := rawL_app b x a h2
  have := Reads.lab (t := b ++ x) a le ls pl en (by rw [e]; exact h0) (by rw [e]; exact h1) (by rw [e, ByteArray.size_append]; omega) (by rw [e]; exact ih)
  rw [e2] at this
  exact this
theorem Reads.bound {t : ByteArray} {a le : Nat} {ls : List ByteArray} {pl : List Int} {en : Nat} (h : Reads t a le ls pl en) : a < en ∧ en ≤ t.size ∧ (∀ x ∈ pl, (a : Int) ≤ x ∧ x < (en : Int)) ∧ pl.length ≤ ls.length ∧ pl.Pairwise (· < ·) := by
 induction h with
 | fin a le h h0 => exact ⟨by omega, by omega, (fun x hx => by cases hx), Nat.le_refl _, .nil⟩
 | ptr a le ls pl en h h0 hp hr ih => exact ⟨by omega, by omega, (fun x hx => by cases hx), Nat.zero_le _, .nil⟩
 | lab a le ls pl en h0 h1 h2 hr ih =>
  obtain ⟨i1, i2, i3, i4, i5⟩ := ih
  refine ⟨by omega, i2, fun x hx => ?_, by simpa using i4, List.pairwise_cons.2 ⟨fun x hx => by have := i3 x hx; omega, i5⟩⟩
  rcases List.mem_cons.1 hx with rfl | hx
  · omega
  · have := i3 x hx; omega
theorem Reads.place {t : ByteArray} {a le : Nat} {ls : List ByteArray} {pl : List Int} {en : Nat} (h : Reads t a le ls pl en) : ∀ x ∈ pl, ∃ ls1 ls2 pl', ls = ls1 ++ ls2 ∧ Reads t x.toNat le ls2 pl' en := by
 induction h with
 | fin a le h h0 => exact fun x hx => by cases hx
 | ptr a le ls pl en h h0 hp hr ih => exact fun x hx => by cases hx
 | lab a le ls pl en h0 h1 h2 hr ih =>
  intro x hx
  rcases List.mem_cons.1 hx with rfl | hx
  · exact ⟨[], _, _, rfl, .lab a le ls pl en h0 h1 h2 hr⟩
  · obtain ⟨l1, l2, p', e, h'⟩ := ih x hx
    exact ⟨mkB ((rawL t a).map lowB) :: l1, l2, p', by rw [e]; rfl, h'⟩
section
variable (s : ByteArray) (hs : s.size ≤ 2000)
include hs
theorem reads_take {a le : Nat} {ls : List ByteArray} {pl : List Int} {en : Nat} (h : Reads s a le ls pl en) : ∀ (L : List ByteArray) (p : List Int) (e : Int), L.length + ls.length ≤ 8 → p.length ≤ L.length →
 Ev (fun k => impl_takeName.l0 k s (a : Int) L p (le : Int) e) ((nameR (L ++ ls)).1, (if e < 0 then p ++ pl else p), (if e < 0 then (en : Int) else e), (nameR (L ++ ls)).2) := by
 induction h with
 | fin a le h h0 =>
  intro L p e hL hp
  have hi := impl_end s hs 0 a L p le e h (by simp at hL; omega) h0
  rw [List.append_nil, List.append_nil, ite_self]
  exact Ev.of (fun k => (impl_takeName.mono_l k).1 _ _ _ _ _ _) hi
 | ptr a le ls pl en h h0 hp' hr ih =>
  intro L p e hL hp
  have := ih L p (endOf e (a + 2)) hL hp
  have he : ¬ endOf e (a + 2) < 0 := by unfold endOf; split <;> omega
  rw [if_neg he, if_neg he] at this
  rw [List.append_nil, ite_self]
  have e2 : endOf e (a + 2) = if e < 0 then ((a + 2 : Nat) : Int) else e := rfl
  rw [e2] at this
  exact Ev.step (fun k => rfl) (Ev.step (g := fun k => impl_takeName.l0 (k + 1) s (a : Int) L p (le : Int) e) (fun k => (impl_ptr s hs k a L p le e (by omega) (by omega) h0 h).trans (if_neg (by omega))) this)
 | lab a le ls pl en h0 h1 h2 hr ih =>
  intro L p e hL hp
  rw [List.length_cons] at hL
  have := ih (L ++ [mkB ((rawL s a).map lowB)]) (plc e p a) e (by simp; omega) (by unfold plc; split <;> simp <;> omega)
  have ep : (if e < 0 then plc e p a ++ pl else plc e p a) = if e < 0 then p ++ (a : Int) :: pl else p := by
   unfold plc
   split
   · simp
   · rfl
  rw [ep, List.append_assoc] at this
  exact Ev.step (fun k => rfl) (Ev.step (fun k => rfl) (Ev.step (g := fun k => impl_takeName.l0 (k + 2) s (a : Int) L p (le : Int) e) (fun k => impl_lab s hs k a L p le e (by omega) (by omega) (by omega) h0 h1 h2) this))
theorem take_reads : ∀ (n a : Nat) (L : List ByteArray) (p : List Int) (le : Nat) (e : Int), le * 10 + (9 - L.length) ≤ n → L.length ≤ 9 → p.length ≤ L.length →
 (∃ ls pl en, Reads s a le ls pl en ∧ L.length + ls.length ≤ 8) ∨ ∃ r, Ev (fun k => impl_takeName.l0 k s (a : Int) L p (le : Int) e) r ∧ r.2.2.2 = false
 | n, a, L, p, le, e, hn, hL, hp => by
  by_cases ho : s.size ≤ a ∨ 8 < L.length
  · exact .inr ⟨failI, Ev.of (fun k => (impl_takeName.mono_l k).1 _ _ _ _ _ _) (impl_out s hs 0 a L p le e ho), rfl⟩
  · have h1 : a < s.size := by omega
    have h2 : L.length ≤ 8 := by omega
    by_cases v0 : byteAt s a = 0
    · exact .inl ⟨[], [], a + 1, .fin a le h1 v0, by simpa using h2⟩
    · by_cases v1 : 192 ≤ byteAt s a
      · by_cases h3 : a + 1 < s.size
        · by_cases hle : ((ptrOf s a : Nat) : Int) ≥ (le : Int)
          · exact .inr ⟨failI, Ev.of (fun k => (impl_takeName.mono_l k).1 _ _ _ _ _ _) ((impl_ptr s hs 0 a L p le e h1 h2 v1 h3).trans (if_pos hle)), rfl⟩
          · rcases take_reads (n - 10) (ptrOf s a) L p (ptrOf s a) (endOf e (a + 2)) (by omega) hL hp with ⟨ls, pl, en, g1, g2⟩ | ⟨r, g1, g2⟩
            · exact .inl ⟨ls, [], a + 2, .ptr a le ls pl en h3 v1 (by omega) g1, g2⟩
            · exact .inr ⟨r, Ev.step (fun k => rfl) (Ev.step (g := fun k => impl_takeName.l0 (k + 1) s (a : Int) L p (le : Int) e) (fun k => (impl_ptr s hs k a L p le e h1 h2 v1 h3).trans (if_neg hle)) g1), g2⟩
        · exact .inr ⟨failI, Ev.of (fun k => (impl_takeName.mono_l k).1 _ _ _ _ _ _) (impl_ptr_out s hs 0 a L p le e h1 h2 v1 (by omega)), rfl⟩
      · by_cases h3 : 64 ≤ byteAt s a ∨ s.size < a + 1 + byteAt s a
        · exact .inr ⟨failI, Ev.of (fun k => (impl_takeName.mono_l k).1 _ _ _ _ _ _) (impl_lab_out s hs 0 a L p le e h1 h2 (by omega) (by omega) h3), rfl⟩
        · rcases take_reads (n - 1) (a + 1 + byteAt s a) (L ++ [mkB ((rawL s a).map lowB)]) (plc e p a) le e (by simp; omega) (by simp; omega) (by unfold plc; split <;> simp <;> omega) with ⟨ls, pl, en, g1, g2⟩ | ⟨r, g1, g2⟩
          · exact .inl ⟨_, _, _, .lab a le ls pl en (by omega) (by omega) (by omega) g1, by simp at g2 ⊢; omega⟩
          · exact .inr ⟨r, Ev.step (fun k => rfl) (Ev.step (fun k => rfl) (Ev.step (g := fun k => impl_takeName.l0 (k + 2) s (a : Int) L p (le : Int) e) (fun k => impl_lab s hs k a L p le e h1 h2 (by omega) (by omega) (by omega) (by omega)) g1)), g2⟩
 termination_by n => n
 decreasing_by all_goals omega
theorem taken {k a : Nat} {t : ByteArray × List Int × Int × Bool} (h : impl_takeName.f k s (a : Int) = some t) (ht : t.2.2.2 = true) : ∃ ls pl en, Reads s a a ls pl en ∧ ls.length ≤ 8 ∧ nameR ls = (t.1, true) ∧ t.2.1 = pl ∧ t.2.2.1 = (en : Int) := by
 have hE : Ev (fun k => impl_takeName.l0 k s (a : Int) [] [] (a : Int) (-1)) t := Ev.of (fun k => (impl_takeName.mono_l k).1 _ _ _ _ _ _) (k := k) h
 rcases take_reads s hs (a * 10 + 9) a [] [] a (-1) (by simp) (by simp) (by simp) with ⟨ls, pl, en, g1, g2⟩ | ⟨r, g1, g2⟩
 · have g3 := reads_take s hs g1 [] [] (-1) g2 (by simp)
   have e := evUnique2 hE g3
   rw [if_pos (by decide), if_pos (by decide), List.nil_append, List.nil_append] at e
   refine ⟨ls, pl, en, g1, by simpa using g2, ?_, by rw [e], by rw [e]⟩
   rw [e] at ht ⊢
   exact Prod.ext rfl ht
 · rw [evUnique2 hE g1] at ht
   rw [ht] at g2
   cases g2
end
theorem label_dot2 {x : List UInt8} (h : isLabelL x = true) : ∀ y ∈ x, y ≠ 46 := by
 intro y hy e
 subst e
 unfold isLabelL at h
 simp only [Bool.or_eq_true, Bool.and_eq_true, beq_iff_eq, List.all_eq_true] at h
 rcases h with h | h
 · rw [h] at hy
   simp at hy
 · exact absurd (h.2 46 hy) (by decide)
theorem label_low {x : List UInt8} (h : isLabelL x = true) : x.map lowB = x := by
 have : ∀ y ∈ x, lowB y = y := by
  intro y hy
  unfold isLabelL at h
  simp only [Bool.or_eq_true, Bool.and_eq_true, beq_iff_eq, List.all_eq_true] at h
  rcases h with h | h
  · rw [h] at hy
    rw [List.mem_singleton.1 hy]
    decide
  · have hy := h.2 y hy
    unfold labelByte at hy
    simp only [Bool.or_eq_true, decide_eq_true_eq, beq_iff_eq] at hy
    unfold lowB
    rw [if_neg]
    rintro ⟨h1, h2⟩
    rcases hy with ((hy | hy) | rfl) | rfl
    · omega
    · omega
    · revert h1; decide
    · revert h2; decide
 rw [List.map_congr_left this, List.map_id']
theorem joinL_ne {ls : List ByteArray} (hne : ls ≠ []) (h : ∀ x ∈ ls, isLabelL x.data.toList = true) : splitL 46 (joinL ls) = ls.map (·.data.toList) := by
 unfold joinL
 refine split_join _ (by simpa using hne) fun x hx => ?_
 obtain ⟨z, hz, rfl⟩ := List.mem_map.1 hx
 exact label_dot2 (h z hz)
theorem label_pos {x : List UInt8} (h : isLabelL x = true) : 1 ≤ x.length := by
 unfold isLabelL at h
 simp only [Bool.or_eq_true, Bool.and_eq_true, beq_iff_eq, decide_eq_true_eq] at h
 rcases h with h | h
 · rw [h]; simp
 · exact h.1.1
theorem labels_back {ls : List ByteArray} {s : ByteArray} (h : nameR ls = (s, true)) : goodL s.data.toList = true ∧ ls = (labelsL s.data.toList).map mkB := by
 unfold nameR at h
 by_cases h1 : (decide (ls.length ≤ 8) && ls.all fun x => isLabelL x.data.toList) = true
 · rw [if_pos h1] at h
   by_cases h2 : goodL (joinL ls) = true
   · rw [if_pos h2] at h
     obtain ⟨rfl, _⟩ := Prod.mk.inj h
     rw [mkB_data]
     refine ⟨h2, ?_⟩
     simp only [Bool.and_eq_true, List.all_eq_true] at h1
     cases ls with
     | nil => rfl
     | cons x r =>
      have hs := joinL_ne (ls := x :: r) (by simp) h1.2
      have hne : joinL (x :: r) ≠ [] := by
       intro e
       have h3 := congrArg List.length e
       unfold joinL at h3
       rw [List.map_cons, Lib.join_cons, List.length_append] at h3
       have := label_pos (h1.2 x List.mem_cons_self)
       rw [List.length_nil] at h3
       omega
      unfold labelsL
      rw [if_neg hne, hs, List.map_map]
      have : (mkB ∘ fun x : ByteArray => x.data.toList) = id := by funext z; exact data_mkB z
      rw [this, List.map_id]
   · rw [if_neg h2] at h
     cases (Prod.mk.inj h).2
 · rw [if_neg h1] at h
   cases (Prod.mk.inj h).2
theorem good_all2 {s : List UInt8} (h : goodL s = true) : (labelsL s).length ≤ 8 ∧ ∀ x ∈ labelsL s, isLabelL x = true := by
 unfold goodL at h
 simp only [Bool.and_eq_true, decide_eq_true_eq, List.all_eq_true] at h
 exact h.2
theorem cut_first' (s : ByteArray) (hs : s.size < 4611686018427387904) : ∃ q2 q3, strings_Cut.f s (⟨#[46]⟩ : ByteArray) = some (mkB ((splitL 46 s.data.toList).headD []), q2, q3) := by
 unfold strings_Cut.f stringslite_Cut.f internal_stringslite_Index.f
 rw [if_pos (show (⟨#[46]⟩ : ByteArray).size = 1 from rfl)]
 simp only [Option.bind_some]
 rw [show List.headD (⟨#[46]⟩ : ByteArray).data.toList 0 = 46 from rfl, show (⟨#[46]⟩ : ByteArray).size = 1 from rfl]
 rcases place_or 46 s.data.toList with ⟨h1, h2⟩ | ⟨p, r, h1, h2, h3⟩
 · rw [h1, if_neg (by omega), splitL_none _ _ h2]
   exact ⟨_, _, by show some (s, _, _) = some (mkB s.data.toList, _, _); rw [data_mkB]⟩
 · have hl : p.length + (r.length + 1) = s.size := by rw [size_len, h1]; simp
   rw [h3, show (((1 : Nat) : Int)) = 1 from rfl, w64n (by omega), if_pos (by omega), if_pos (by omega), if_pos (by omega), if_pos (by omega), if_pos (by omega), Int.toNat_natCast, Int.toNat_natCast, ext_mkB]
   refine ⟨s.extract (p.length + 1) s.size, true, ?_⟩
   have e : (s.data.toList.drop 0).take (p.length - 0) = (splitL 46 s.data.toList).headD [] := by
    rw [h1, splitL_hit 46 p r h2]
    simp
   rw [e]
   rfl
theorem ptr_hi (q : Nat) (h : q < 2000) : wrap64 (192 + wrap64 (Int.tdiv (q : Int) 256)) % 256 = ((192 + q / 256 : Nat) : Int) := by
 rw [Int.tdiv_eq_ediv_of_nonneg (by omega)]
 have h1 : wrap64 ((q : Int) / 256) = ((q / 256 : Nat) : Int) := by unfold wrap64; omega
 rw [h1]
 have h2 : wrap64 (192 + ((q / 256 : Nat) : Int)) = ((192 + q / 256 : Nat) : Int) := by unfold wrap64; omega
 rw [h2]
 omega
theorem byteAt_behind (x y : ByteArray) (n i : Nat) (hn : x.size = n) (hi : i < y.data.toList.length) : byteAt (x ++ y) (n + i) = (y.data.toList[i]).toNat := by
 subst hn
 have hl0 : (x ++ y).data.toList = x.data.toList ++ y.data.toList := by simp
 have e2 : x.size + i < (x ++ y).data.toList.length := by rw [hl0, List.length_append, ← size_len]; omega
 unfold byteAt
 rw [bt_list _ _ e2, Int.toNat_natCast]
 have e4 : (x ++ y).data.toList[x.size + i] = y.data.toList[i] := by
  simp only [hl0]
  rw [List.getElem_append_right (by rw [← size_len]; omega)]
  congr 1
  rw [← size_len]
  omega
 rw [e4]
theorem put_hit (b ahead rest : ByteArray) (hb : b.size ≤ 2000) (q : Nat) (hq : q < b.size) (hpos : 0 < rest.size) (ls : List ByteArray) (pl : List Int) (en : Nat) (g1 : Reads b q q ls pl en) :
 ∃ y pl', (b ++ ahead) ++ strOfNums [wrap64 (192 + wrap64 (Int.tdiv (q : Int) 256)) % 256, (q : Int) % 256] = (b ++ ahead) ++ y ∧ Reads ((b ++ ahead) ++ strOfNums [wrap64 (192 + wrap64 (Int.tdiv (q : Int) 256)) % 256, (q : Int) % 256]) (b.size + ahead.size) b.size ls pl' ((b ++ ahead) ++ strOfNums [wrap64 (192 + wrap64 (Int.tdiv (q : Int) 256)) % 256, (q : Int) % 256]).size ∧ y.size ≤ rest.size + (if rest.size = 0 then 1 else 2) := by
 have ew2 : (q : Int) % 256 = ((q % 256 : Nat) : Int) := by omega
 rw [ptr_hi q (by omega), ew2]
 have hy2 : (strOfNums [((192 + q / 256 : Nat) : Int), ((q % 256 : Nat) : Int)]).data.toList = [UInt8.ofNat (192 + q / 256), UInt8.ofNat (q % 256)] := by
  rw [strOfNums_data]
  simp only [List.map_cons, List.map_nil, Int.toNat_natCast]
 have hys : (strOfNums [((192 + q / 256 : Nat) : Int), ((q % 256 : Nat) : Int)]).size = 2 := by rw [strOfNums_size]; rfl
 generalize strOfNums [((192 + q / 256 : Nat) : Int), ((q % 256 : Nat) : Int)] = y at hy2 hys
 have hsz : ((b ++ ahead) ++ y).size = b.size + ahead.size + 2 := by rw [ByteArray.size_append, ByteArray.size_append, hys]
 have h0 := byteAt_behind (b ++ ahead) y (b.size + ahead.size) 0 ByteArray.size_append (by rw [hy2]; simp)
 have h1 := byteAt_behind (b ++ ahead) y (b.size + ahead.size) 1 ByteArray.size_append (by rw [hy2]; simp)
 simp only [hy2, List.getElem_cons_zero, List.getElem_cons_succ, UInt8.toNat_ofNat', Nat.add_zero] at h0 h1
 have hb0 : byteAt ((b ++ ahead) ++ y) (b.size + ahead.size) = 192 + q / 256 := by rw [h0]; omega
 have hb1 : byteAt ((b ++ ahead) ++ y) (b.size + ahead.size + 1) = q % 256 := by rw [h1]; omega
 have hptr : ptrOf ((b ++ ahead) ++ y) (b.size + ahead.size) = q := by
  unfold ptrOf
  rw [hb0, hb1]
  omega
 refine ⟨y, [], rfl, ?_, ?_⟩
 · rw [hsz]
   have g5 := g1.app (ahead ++ y)
   rw [← ByteArray.append_assoc] at g5
   exact .ptr _ _ _ pl en (by omega) (by omega) (by rw [hptr]; omega) (by rw [hptr]; exact g5)
 · rw [hys, if_neg (by omega)]; omega
theorem put_reads (b : ByteArray) (hb : b.size ≤ 2000) (places : List Int) (hr : ∀ x ∈ places, 0 ≤ x ∧ x < (b.size : Int)) : ∀ (k : Nat) (ahead rest r : ByteArray), impl_putName.l0 k b places ahead rest = some r → goodL rest.data.toList = true →
 ∃ y pl, r = (b ++ ahead) ++ y ∧ Reads r (b.size + ahead.size) b.size ((labelsL rest.data.toList).map mkB) pl r.size ∧ y.size ≤ rest.size + (if rest.size = 0 then 1 else 2) := by
 intro k
 induction k with
 | zero => intro ahead rest r h; simp [impl_putName.l0] at h
 | succ k ih =>
  intro ahead rest r h hg
  unfold impl_putName.l0 at h
  by_cases c1 : rest.toList = ([] : List UInt8)
  · rw [if_pos c1] at h
    by_cases c2 : b.size + ahead.size < 1099511627776
    · rw [if_pos c2] at h
      obtain rfl := Option.some.inj h
      have e0 : rest.data.toList = [] := by rw [← Lib.toList_data]; exact c1
      have hz : rest.size = 0 := by rw [size_len, e0]; rfl
      have hsz : ((b ++ ahead) ++ (⟨#[0]⟩ : ByteArray)).size = b.size + ahead.size + 1 := by rw [ByteArray.size_append, ByteArray.size_append]; rfl
      refine ⟨(⟨#[0]⟩ : ByteArray), [], rfl, ?_, ?_⟩
      · rw [hsz, e0]
        refine .fin _ _ (by omega) ?_
        have e2 : b.size + ahead.size < ((b ++ ahead) ++ (⟨#[0]⟩ : ByteArray)).data.toList.length := by rw [← size_len]; omega
        unfold byteAt
        rw [bt_list _ _ e2]
        have e3 : ((b ++ ahead) ++ (⟨#[0]⟩ : ByteArray)).data.toList = (b ++ ahead).data.toList ++ [0] := by simp
        have e4 : ((b ++ ahead) ++ (⟨#[0]⟩ : ByteArray)).data.toList[b.size + ahead.size] = 0 := by
         simp only [e3]
         rw [List.getElem_append_right (by rw [← size_len, ByteArray.size_append]; omega)]
         simp
        rw [e4]
        rfl
      · rw [hz]; exact Nat.le_refl _
    · rw [if_neg c2] at h; cases h
  · rw [if_neg c1] at h
    have hne : rest.data.toList ≠ [] := by rw [← Lib.toList_data]; exact c1
    have hpos : 0 < rest.size := by rw [size_len]; exact List.length_pos_iff.2 hne
    by_cases c2 : putDef k b places = true
    · rw [if_pos c2] at h
      by_cases c3 : 0 ≤ idxP (putP k b rest) places 0
      · rw [if_pos c3] at h
        by_cases c4 : b.size + ahead.size < 1099511627776
        · rw [if_pos c4] at h
          obtain rfl := Option.some.inj h
          have hil := idxP_lt (putP k b rest) places
          have hx : ∃ x ∈ places, rd places (idxP (putP k b rest) places 0) = x ∧ putP k b rest x = true := by
           have : ∀ (xs : List Int) (i : Int), 0 ≤ i → 0 ≤ idxP (putP k b rest) xs i → i ≤ idxP (putP k b rest) xs i ∧ ∃ h : (idxP (putP k b rest) xs i - i).toNat < xs.length, putP k b rest (xs[(idxP (putP k b rest) xs i - i).toNat]) = true := by
            intro xs
            induction xs with
            | nil => intro i hi h0; simp [idxP] at h0
            | cons x r ih2 =>
             intro i hi h0
             unfold idxP at h0 ⊢
             by_cases hq : putP k b rest x = true
             · simp only [if_pos hq] at h0 ⊢
               refine ⟨Int.le_refl _, by simp, ?_⟩
               simpa using hq
             · simp only [if_neg hq] at h0 ⊢
               obtain ⟨j1, j2, j3⟩ := ih2 (i + 1) (by omega) h0
               have e : (idxP (putP k b rest) r (i + 1) - i).toNat = (idxP (putP k b rest) r (i + 1) - (i + 1)).toNat + 1 := by omega
               refine ⟨by omega, by rw [e, List.length_cons]; omega, ?_⟩
               simp only [e, List.getElem_cons_succ]
               exact j3
           obtain ⟨_, j2, j3⟩ := this places 0 (by omega) c3
           rw [Int.sub_zero] at j2
           have e3 : putP k b rest (places[(idxP (putP k b rest) places 0).toNat]'j2) = true := by
            have := j3
            simp only [Int.sub_zero] at this
            exact this
           refine ⟨_, List.getElem_mem j2, ?_, e3⟩
           unfold rd
           rw [List.getD_eq_getElem?_getD, List.getElem?_eq_getElem j2]
           rfl
          obtain ⟨x, hxm, hxr, hxp⟩ := hx
          rw [hxr]
          obtain ⟨hx0, hx1⟩ := hr x hxm
          obtain ⟨q, rfl⟩ : ∃ q : Nat, x = (q : Int) := ⟨x.toNat, by omega⟩
          have hty := List.all_eq_true.1 c2 (q : Int) hxm
          obtain ⟨t, ht⟩ := Option.isSome_iff_exists.1 hty
          unfold putP at hxp
          rw [ht] at hxp
          simp only [Bool.and_eq_true, beq_iff_eq] at hxp
          obtain ⟨ls, pl, en, g1, g2, g3, _, _⟩ := taken b hb ht hxp.1
          have e1 : t.1 = rest := ext_data (by rw [← Lib.toList_data, ← Lib.toList_data]; exact hxp.2)
          rw [e1] at g3
          obtain ⟨_, g4⟩ := labels_back g3
          rw [g4] at g1
          exact put_hit b ahead rest hb q (by omega) hpos _ _ _ g1
        · rw [if_neg c4] at h; cases h
      · rw [if_neg c3] at h
        obtain ⟨c, hc, h⟩ := Option.bind_eq_some_iff.mp h
        obtain ⟨q2, q3, hcut⟩ := cut_first' rest (by have := good_size hg; rw [← size_len] at this; omega)
        rw [hcut] at hc
        obtain rfl := Option.some.inj hc
        simp only at h
        by_cases c4 : ahead.size + (mkB ((splitL 46 rest.data.toList).headD [])).size < 1099511627776
        · rw [if_pos c4] at h
          obtain ⟨par, hpar, h⟩ := Option.bind_eq_some_iff.mp h
          rw [implParent_eq rest (by have := good_size hg; rw [← size_len] at this; omega)] at hpar
          obtain rfl := Option.some.inj hpar
          have hsp : labelsL rest.data.toList = splitL 46 rest.data.toList := by unfold labelsL; rw [if_neg hne]
          have hgl := good_all2 hg
          rw [hsp] at hgl
          have hcons : ∃ p, splitL 46 rest.data.toList = p :: labelsL (parL rest.data.toList) ∧ rest.size = p.length + (if parL rest.data.toList = [] then 0 else (parL rest.data.toList).length + 1) := by
           rcases place_or 46 rest.data.toList with ⟨_, h1⟩ | ⟨p, r, h1, h2, _⟩
           · refine ⟨rest.data.toList, ?_, ?_⟩
             · rw [parL_none _ h1, splitL_none _ _ h1]; rfl
             · rw [parL_none _ h1, if_pos rfl, size_len]; omega
           · have hpr : parL rest.data.toList = r := by rw [h1]; exact parL_hit p r h2
             have hsl : splitL 46 rest.data.toList = p :: splitL 46 r := by rw [h1]; exact splitL_hit 46 p r h2
             have hrn : r ≠ [] := by
              rintro rfl
              have := hgl.2 [] (by rw [hsl]; simp [splitL])
              revert this
              decide
             refine ⟨p, ?_, ?_⟩
             · rw [hsl, hpr]; unfold labelsL; rw [if_neg hrn]
             · rw [hpr, if_neg hrn, size_len, h1]; simp
          obtain ⟨p, hp, hsz0⟩ := hcons
          rw [hp] at h c4 hgl
          simp only [List.headD_cons] at h c4
          have hpl := hgl.2 p List.mem_cons_self
          have hp1 := label_pos hpl
          have hp2 := label_size hpl
          have hgp : goodL (parL rest.data.toList) = true := by
           have hps := good_size hg
           unfold goodL
           simp only [Bool.and_eq_true, decide_eq_true_eq, List.all_eq_true]
           have := parL_len rest.data.toList
           rw [List.length_cons] at hgl
           exact ⟨by omega, by omega, fun z hz => hgl.2 z (List.mem_cons_of_mem _ hz)⟩
          have hl1 : strOfNums [((mkB p).size : Int) % 256] = mkB [UInt8.ofNat p.length] := by
           refine ext_data ?_
           rw [strOfNums_data, mkB_data, mkB_size]
           simp only [List.map_cons, List.map_nil]
           rw [show ((p.length : Int) % 256).toNat = p.length by omega]
          rw [hl1] at h
          obtain ⟨y, pl, g1, g2, g3⟩ := ih (ahead ++ (mkB [UInt8.ofNat p.length] ++ mkB p)) (mkB (parL rest.data.toList)) r h (by rw [mkB_data]; exact hgp)
          rw [mkB_data] at g2
          have hasz : (ahead ++ (mkB [UInt8.ofNat p.length] ++ mkB p)).size = ahead.size + (1 + p.length) := by rw [ByteArray.size_append, ByteArray.size_append, mkB_size, mkB_size]; rfl
          rw [hasz] at g2
          have hrl : r.data.toList = (b ++ ahead).data.toList ++ (UInt8.ofNat p.length :: (p ++ y.data.toList)) := by
           rw [g1]
           simp [mkB]
          have hlen : (b ++ ahead).data.toList.length = b.size + ahead.size := by rw [← size_len, ByteArray.size_append]
          have hrs : r.size = b.size + ahead.size + (1 + (p.length + y.size)) := by
           rw [size_len, hrl, List.length_append, hlen, List.length_cons, List.length_append, ← size_len]; omega
          have hb0 : byteAt r (b.size + ahead.size) = p.length := by
           have e2 : b.size + ahead.size < r.data.toList.length := by rw [← size_len]; omega
           unfold byteAt
           rw [bt_list _ _ e2]
           have e4 : r.data.toList[b.size + ahead.size] = UInt8.ofNat p.length := by
            simp only [hrl]
            rw [List.getElem_append_right (by omega)]
            simp [hlen]
           rw [e4, Int.toNat_natCast, UInt8.toNat_ofNat']
           omega
          have hraw : rawL r (b.size + ahead.size) = p := by
           unfold rawL
           rw [hb0, hrl, show b.size + ahead.size + 1 = (b ++ ahead).data.toList.length + 1 by omega, List.drop_append]
           rw [List.drop_of_length_le (by omega), List.nil_append, Nat.add_sub_cancel_left, List.drop_one, List.tail_cons, List.take_append_of_le_length (Nat.le_refl _), List.take_length]
          refine ⟨mkB [UInt8.ofNat p.length] ++ mkB p ++ y, ((b.size + ahead.size : Nat) : Int) :: pl, ?_, ?_, ?_⟩
          · rw [g1]
            simp only [ByteArray.append_assoc]
          · rw [hsp, hp, List.map_cons]
            have := Reads.lab (t := r) (b.size + ahead.size) b.size _ pl r.size (by omega) (by omega) (by omega) (by rw [hb0, show b.size + ahead.size + 1 + p.length = b.size + (ahead.size + (1 + p.length)) by omega]; exact g2)
            rw [hraw, label_low hpl] at this
            exact this
          · rw [ByteArray.size_append, ByteArray.size_append, mkB_size, mkB_size, if_neg (by omega)]
            rw [mkB_size] at g3
            rw [List.length_singleton]
            by_cases hpn : parL rest.data.toList = []
            · rw [if_pos hpn] at hsz0
              rw [hpn] at g3
              simp at g3
              omega
            · rw [if_neg hpn] at hsz0
              have : 0 < (parL rest.data.toList).length := List.length_pos_iff.2 hpn
              rw [if_neg (by omega)] at g3
              omega
        · rw [if_neg c4] at h; cases h
    · rw [if_neg c2] at h; cases h
end Go.Proofs.YtiegkjimpclmaaaGreatDoor.Pure
namespace Go.Proofs.YtiegkjimpclmaaaGreatDoor.Pure
open Go.Proofs.YtiegkjimpclmaaaGreatDoor.P
theorem recs_both (x0 : List IRec) (l : List IRec) (hl : l.length < 1099511627776) (hs : ∀ y ∈ l, Small y.f0 ∧ Small y.f3) : ∀ (m i : Nat), i + m = l.length →
 ∃ g : Bool, Ev (fun k => spec_l4Records.l0 k x0 l (l.length : Int) (i : Int)) (g && decide ((x0.length : Int) ≤ 12)) ∧ Ev (fun k => impl_areRecords.f k (l.drop i)) g
 | 0, i, hi => by
  refine ⟨true, Ev.step (f := fun _ => some (decide ((x0.length : Int) ≤ 12))) (fun k => ?_) (Ev.now _), ?_⟩
  · show spec_l4Records.l0 (k + 1) x0 l (l.length : Int) (i : Int) = _
    rw [spec_l4Records.l0, if_neg (by omega)]
  · rw [List.drop_of_length_le (by omega)]
    exact Ev.congr (fun k => rfl) (Ev.now _)
 | m + 1, i, hi => by
  have hlt : i < l.length := by omega
  have hw : wrap64 ((i : Int) + 1) = ((i + 1 : Nat) : Int) := w64n (by omega)
  have hx := hs _ (List.getElem_mem hlt)
  obtain ⟨r, _, r1, r2, _⟩ := goodrec_both l[i].f0 l[i].f1 l[i].f2 l[i].f3 hx.1 hx.2
  obtain ⟨g, g1, g2⟩ := recs_both x0 l hl hs m (i + 1) (by omega)
  have es : ∀ k, spec_l4Records.l0 (k + 1) x0 l (l.length : Int) (i : Int) = (spec_GoodRecord.f k l[i].f0 l[i].f1 l[i].f2 l[i].f3).bind fun t341 => (if t341 = true then (spec_l4Records.l0 k x0 l (l.length : Int) ((i + 1 : Nat) : Int)) else (some false)) := fun k => by
   rw [spec_l4Records.l0, if_pos (by omega), if_pos (by omega), if_pos (by omega), rdI l i hlt, hw]
  have ei : ∀ k, impl_areRecords.f k (l.drop i) = (impl_GoodRecord.f k l[i].f0 l[i].f1 l[i].f2 l[i].f3).bind fun g => (if g = true then impl_areRecords.f k (l.drop (i + 1)) else some false) := fun k => by
   rw [List.drop_eq_getElem_cons hlt]
   rfl
  cases r with
  | true =>
   refine ⟨g, Ev.step es (Ev.bind r1 ?_), Ev.congr ei (Ev.bind r2 ?_)⟩
   · simp only [if_true]; exact g1
   · simp only [if_true]; exact g2
  | false => exact ⟨false, Ev.step es (Ev.bind r1 (Ev.now _)), Ev.congr ei (Ev.bind r2 (Ev.now _))⟩
theorem has_loop (L : List Int) (n : Int) (hl : L.length < 1099511627776) : ∀ (m i : Nat), i + m = L.length → Ev (fun k => spec_l1Has.l0 k n L (L.length : Int) (i : Int)) ((L.drop i).contains n)
 | 0, i, hi => by
  rw [List.drop_of_length_le (by omega)]
  refine Ev.step (f := fun _ => some false) (fun k => ?_) (Ev.now _)
  show spec_l1Has.l0 (k + 1) n L (L.length : Int) (i : Int) = _
  rw [spec_l1Has.l0, if_neg (by omega)]
 | m + 1, i, hi => by
  have hlt : i < L.length := by omega
  have hw : wrap64 ((i : Int) + 1) = ((i + 1 : Nat) : Int) := w64n (by omega)
  have hr : rd L (i : Int) = L[i] := by
   unfold rd
   rw [Int.toNat_natCast, List.getD_eq_getElem?_getD, List.getElem?_eq_getElem hlt, Option.getD_some]
  have ih := has_loop L n hl m (i + 1) (by omega)
  rw [List.drop_eq_getElem_cons hlt, List.contains_cons]
  by_cases c : L[i] = n
  · rw [show (n == L[i]) = true from beq_iff_eq.2 c.symm, Bool.true_or]
    refine Ev.step (f := fun _ => some true) (fun k => ?_) (Ev.now _)
    show spec_l1Has.l0 (k + 1) n L (L.length : Int) (i : Int) = _
    rw [spec_l1Has.l0, if_pos (by omega), if_pos (by omega), if_pos (by omega), hr, if_pos c]
  · rw [show (n == L[i]) = false from beq_eq_false_iff_ne.2 fun e => c e.symm, Bool.false_or]
    refine Ev.step (f := fun k => spec_l1Has.l0 k n L (L.length : Int) ((i + 1 : Nat) : Int)) (fun k => ?_) ih
    show spec_l1Has.l0 (k + 1) n L (L.length : Int) (i : Int) = _
    rw [spec_l1Has.l0, if_pos (by omega), if_pos (by omega), if_pos (by omega), hr, if_neg c, hw]
theorem has_ev (L : List Int) (n : Int) (hl : L.length < 1099511627776) : Ev (fun k => spec_l1Has.f k L n) (L.contains n) := Ev.congr (fun k => rfl) (has_loop L n hl L.length 0 (by omega))
theorem idx_loop (L : List Int) (n : Int) (hl : L.length < 1099511627776) : ∀ (m i : Nat), i + m = L.length → ∃ t, Ev (fun k => slices_Index_int_int.l0 k L n (L.length : Int) (i : Int)) t ∧ decide (t ≥ 0) = (L.drop i).contains n
 | 0, i, hi => by
  rw [List.drop_of_length_le (by omega)]
  refine ⟨-1, Ev.step (f := fun _ => some (-1)) (fun k => ?_) (Ev.now _), rfl⟩
  show slices_Index_int_int.l0 (k + 1) L n (L.length : Int) (i : Int) = _
  rw [slices_Index_int_int.l0, if_neg (by omega)]
 | m + 1, i, hi => by
  have hlt : i < L.length := by omega
  have hw : wrap64 ((i : Int) + 1) = ((i + 1 : Nat) : Int) := w64n (by omega)
  have hr : rd L (i : Int) = L[i] := by
   unfold rd
   rw [Int.toNat_natCast, List.getD_eq_getElem?_getD, List.getElem?_eq_getElem hlt, Option.getD_some]
  obtain ⟨t, e, ht⟩ := idx_loop L n hl m (i + 1) (by omega)
  rw [List.drop_eq_getElem_cons hlt, List.contains_cons]
  by_cases c : n = L[i]
  · rw [show (n == L[i]) = true from beq_iff_eq.2 c, Bool.true_or]
    refine ⟨(i : Int), Ev.step (f := fun _ => some (i : Int)) (fun k => ?_) (Ev.now _), decide_eq_true (by omega)⟩
    show slices_Index_int_int.l0 (k + 1) L n (L.length : Int) (i : Int) = _
    rw [slices_Index_int_int.l0, if_pos (by omega), if_pos (by omega), if_pos (by omega), hr, if_pos c]
  · rw [show (n == L[i]) = false from beq_eq_false_iff_ne.2 c, Bool.false_or]
    refine ⟨t, Ev.step (f := fun k => slices_Index_int_int.l0 k L n (L.length : Int) ((i + 1 : Nat) : Int)) (fun k => ?_) e, ht⟩
    show slices_Index_int_int.l0 (k + 1) L n (L.length : Int) (i : Int) = _
    rw [slices_Index_int_int.l0, if_pos (by omega), if_pos (by omega), if_pos (by omega), hr, if_neg c, hw]
theorem contains_ev (L : List Int) (n : Int) (hl : L.length < 1099511627776) : Ev (fun k => slices_Contains_int_int.f k L n) (L.contains n) := by
 obtain ⟨t, e, ht⟩ := idx_loop L n hl L.length 0 (by omega)
 have ht : decide (t ≥ 0) = L.contains n := ht
 refine Ev.congr (fun k => rfl) (Ev.bind (a := t) (Ev.congr (fun k => rfl) e) ?_)
 rw [ht]
 exact Ev.now _
theorem and_ev {f g : Nat → Option Bool} {b r : Bool} (h : Ev f b) (hg : Ev g r) : Ev (fun k => (f k).bind fun t => if t = true then g k else some false) (b && r) := by
 refine Ev.bind h ?_
 cases b with
 | true => simp only [if_true, Bool.true_and]; exact hg
 | false => exact Ev.now _
theorem gt_ev {n : Int} {g : Nat → Option Bool} {r : Bool} (hg : Ev g r) : Ev (fun k => if n > 12 then some false else g k) (decide (n ≤ 12) && r) := by
 by_cases h : n > 12
 · rw [decide_eq_false (by omega), Bool.false_and]
   simp only [if_pos h]
   exact Ev.now _
 · rw [decide_eq_true (by omega), Bool.true_and]
   simp only [if_neg h]
   exact hg
def msgB (id : Int) (re cu : Bool) (co : Int) (nm : List UInt8) (ty : Int) (n6 n7 : Int) (g6 g7 : Bool) : Bool :=
 decide (0 ≤ id ∧ id ≤ 65535) && (([0, 1, 3, 5] : List Int).contains co && (goodL nm && (([1, 2, 5, 6, 15, 16] : List Int).contains ty && ((g6 && decide (n6 ≤ 12)) && ((g7 && decide (n7 ≤ 12)) && (if re = true then true else (if cu = true then false else (if co = 0 then (if n6 = 0 then n7 == 0 else false) else false))))))))
theorem tail_ev (re cu : Bool) (co n6 n7 : Int) : Ev (fun _ => (if re = true then (some true) else (if cu = true then (some false) else (if co = 0 then (if n6 = 0 then (some (n7 == 0)) else (some false)) else (some false))))) (if re = true then true else (if cu = true then false else (if co = 0 then (if n6 = 0 then n7 == 0 else false) else false))) := by
 refine Ev.congr (f := fun _ => some (if re = true then true else (if cu = true then false else (if co = 0 then (if n6 = 0 then n7 == 0 else false) else false)))) (fun k => ?_) (Ev.now _)
 split
 · rfl
 · split
   · rfl
   · split
     · split <;> rfl
     · rfl
theorem msg_both (id : Int) (re cu : Bool) (co : Int) (nm : ByteArray) (ty : Int) (l6 l7 : List IRec) (hn : Small nm) (h6 : l6.length ≤ 1048576) (h7 : l7.length ≤ 1048576) (s6 : ∀ y ∈ l6, Small y.f0 ∧ Small y.f3) (s7 : ∀ y ∈ l7, Small y.f0 ∧ Small y.f3) :
 ∃ g6 g7 : Bool, Ev (fun k => impl_areRecords.f k l6) g6 ∧ Ev (fun k => impl_areRecords.f k l7) g7 ∧ Ev (fun k => spec_GoodMessage.f k id re cu co nm ty l6 l7) (msgB id re cu co nm.data.toList ty l6.length l7.length g6 g7) ∧ Ev (fun k => impl_GoodMessage.f k id re cu co nm ty l6 l7) (msgB id re cu co nm.data.toList ty l6.length l7.length g6 g7) := by
 obtain ⟨g6, a6, b6⟩ := recs_both l6 l6 (by omega) s6 l6.length 0 (by omega)
 obtain ⟨g7, a7, b7⟩ := recs_both l7 l7 (by omega) s7 l7.length 0 (by omega)
 rw [List.drop_zero] at b6 b7
 refine ⟨g6, g7, b6, b7, ?_, ?_⟩
 · refine Ev.congr (fun k => rfl) (and_ev (Ev.congr (fun k => within_spec _ _ _) (Ev.now _)) (and_ev (has_ev _ _ (by decide)) (and_ev (specGood_ev nm (by unfold Small at hn; omega)) (and_ev (Ev.congr (fun k => rfl) (Ev.bind (has_ev _ _ (by decide)) (Ev.now _))) (and_ev (Ev.congr (fun k => rfl) a6) (and_ev (Ev.congr (fun k => rfl) a7) (tail_ev _ _ _ _ _)))))))
 · have h := and_ev (f := fun k => impl_within.f id 0 65535) (Ev.congr (fun k => within_eq _ _ _) (Ev.now _)) (and_ev (f := fun k => impl_isCode.f k co) (Ev.congr (fun k => rfl) (Ev.bind (contains_ev _ _ (by decide)) (Ev.now _))) (and_ev (f := fun k => impl_GoodName.f nm) (Ev.congr (fun k => rfl) (Ev.now (goodL nm.data.toList))) (and_ev (f := fun k => impl_isType.f k ty) (Ev.congr (fun k => rfl) (Ev.bind (contains_ev _ _ (by decide)) (Ev.now _))) (gt_ev (n := (l6.length : Int)) (gt_ev (n := (l7.length : Int)) (and_ev b6 (and_ev b7 (tail_ev re cu co l6.length l7.length))))))))
   have h2 := Ev.congr (g := fun k => impl_GoodMessage.f k id re cu co nm ty l6 l7) (fun k => rfl) h
   refine Eq.mp (congrArg (Ev _) ?_) h2
   unfold msgB
   generalize (if re = true then true else (if cu = true then false else (if co = 0 then (if ((l6.length : Int)) = 0 then ((l7.length : Int) == 0) else false) else false))) = F
   generalize decide ((l6.length : Int) ≤ 12) = x6
   generalize decide ((l7.length : Int) ≤ 12) = x7
   cases g6 <;> cases g7 <;> cases x6 <;> cases x7 <;> simp
theorem or2_zero (a b : Int) : or2 a b = 0 ↔ a = 0 ∧ b = 0 := by
 unfold or2
 by_cases h : a = 0
 · rw [if_pos h]; exact ⟨fun e => ⟨h, e⟩, fun e => e.2⟩
 · rw [if_neg h]; exact ⟨fun e => absurd e h, fun e => absurd e.1 h⟩
theorem cmpI_zero (a b : Int) : cmpI a b = 0 ↔ a = b := by
 unfold cmpI
 by_cases h : a < b
 · rw [if_pos h]; omega
 · rw [if_neg h]
   by_cases h2 : b < a
   · rw [if_pos h2]; omega
   · rw [if_neg h2]; omega
noncomputable def mark4 (a : Nat) : IRec := ⟨markT (a : Int), ((a + 1 : Nat) : Int), ((a + 2 : Nat) : Int), markT ((a + 3 : Nat) : Int)⟩
noncomputable def marksR (a n : Nat) : List IRec := (List.range n).map fun j => mark4 (a + 4 * j)
theorem marksR_len (a n : Nat) : (marksR a n).length = n := by simp [marksR]
theorem mR_w {n : Nat} (h : n < 4611686018427387904) : wrap64 ((n : Int) + 1) = ((n + 1 : Nat) : Int) := by unfold wrap64; omega
theorem rd_set (l : List IRec) (i : Nat) (x : IRec) (h : i < l.length) : rd_T45 (l.set i x) (i : Int) = x := by
 rw [rdI _ i (by rw [List.length_set]; exact h), List.getElem_set_self]
theorem markR_loop (a : Nat) (ha : a < 1000000000) : ∀ (m i : Nat) (l : List IRec), i + m = l.length → l.length ≤ 1048576 → l.take i = marksR a i →
 Ev (fun k => laws_markRecordS.l0 k l ((a + 4 * i : Nat) : Int) (i : Int)) (((a + 4 * l.length : Nat) : Int), marksR a l.length)
 | 0, i, l, h, hl, ht => by
  have hi : i = l.length := by omega
  subst hi
  refine Ev.step (f := fun _ => some (((a + 4 * l.length : Nat) : Int), marksR a l.length)) (fun k => ?_) (Ev.now _)
  show laws_markRecordS.l0 (k + 1) l ((a + 4 * l.length : Nat) : Int) (l.length : Int) = _
  rw [laws_markRecordS.l0, if_neg (by omega)]
  rw [List.take_length] at ht
  rw [← ht]
 | m + 1, i, l, h, hl, ht => by
  have hlt : i < l.length := by omega
  have ih := markR_loop a ha m (i + 1) (l.set i (mark4 (a + 4 * i))) (by rw [List.length_set]; omega) (by rw [List.length_set]; omega) (by
   rw [List.take_set, List.take_add_one, ht, List.getElem?_eq_getElem hlt]
   unfold marksR
   rw [List.range_succ, List.map_append]
   simp [List.set_append])
  rw [List.length_set] at ih
  have w1 : wrap64 (((a + 4 * i : Nat) : Int) + 1) = ((a + 4 * i + 1 : Nat) : Int) := mR_w (by omega)
  have w2 : wrap64 (((a + 4 * i + 1 : Nat) : Int) + 1) = ((a + 4 * i + 2 : Nat) : Int) := mR_w (by omega)
  have w3 : wrap64 (((a + 4 * i + 2 : Nat) : Int) + 1) = ((a + 4 * i + 3 : Nat) : Int) := mR_w (by omega)
  have w4 : wrap64 (((a + 4 * i + 3 : Nat) : Int) + 1) = ((a + 4 * (i + 1) : Nat) : Int) := mR_w (by omega)
  have w5 : wrap64 ((i : Int) + 1) = ((i + 1 : Nat) : Int) := mR_w (by omega)
  refine Ev.step (f := fun k => (laws_markText.f k ((a + 4 * i : Nat) : Int)).bind fun t => (laws_markText.f k ((a + 4 * i + 3 : Nat) : Int)).bind fun t' => laws_markRecordS.l0 k (l.set i ⟨t, ((a + 4 * i + 1 : Nat) : Int), ((a + 4 * i + 2 : Nat) : Int), t'⟩) ((a + 4 * (i + 1) : Nat) : Int) ((i + 1 : Nat) : Int)) (fun k => ?_) (Ev.bind (markT_ev _ (by omega)) (Ev.bind (markT_ev _ (by omega)) ih))
  show laws_markRecordS.l0 (k + 1) l ((a + 4 * i : Nat) : Int) (i : Int) = _
  rw [laws_markRecordS.l0, if_pos (by omega)]
  simp only [w1, w2, w3, w4, w5, Option.bind_some, Int.toNat_natCast, if_pos (show (0 : Int) ≤ (i : Int) by omega)]
  congr 1
  funext t
  have hr : ∀ x, rd_T45 (l.set i x) (i : Int) = x := fun x => rd_set l i x hlt
  simp only [List.set_set, hr]
theorem markR_ev (a : Nat) (ha : a < 1000000000) (l : List IRec) (hl : l.length ≤ 1048576) : Ev (fun k => laws_markRecordS.f k l (a : Int)) (((a + 4 * l.length : Nat) : Int), marksR a l.length) := by
 have := markR_loop a ha l.length 0 l (by omega) hl (by simp [marksR])
 exact Ev.congr (fun k => rfl) this
theorem heldR_loop (a n : Nat) (ha : a < 1000000000) (hn : n ≤ 1048576) : ∀ (m i : Nat), i + m = n → Ev (fun k => laws_heldRecordS.l0 k (marksR a n) ((a + 4 * i : Nat) : Int) (i : Int)) ((a + 4 * n : Nat) : Int)
 | 0, i, h => by
  have hi : i = n := by omega
  subst hi
  refine Ev.step (f := fun _ => some ((a + 4 * i : Nat) : Int)) (fun k => ?_) (Ev.now _)
  show laws_heldRecordS.l0 (k + 1) (marksR a i) ((a + 4 * i : Nat) : Int) (i : Int) = _
  rw [laws_heldRecordS.l0, if_neg (by rw [marksR_len]; omega)]
 | m + 1, i, h => by
  have hlt : i < (marksR a n).length := by rw [marksR_len]; omega
  have ih := heldR_loop a n ha hn m (i + 1) (by omega)
  have w1 : wrap64 (((a + 4 * i : Nat) : Int) + 1) = ((a + 4 * i + 1 : Nat) : Int) := mR_w (by omega)
  have w2 : wrap64 (((a + 4 * i + 1 : Nat) : Int) + 1) = ((a + 4 * i + 2 : Nat) : Int) := mR_w (by omega)
  have w3 : wrap64 (((a + 4 * i + 2 : Nat) : Int) + 1) = ((a + 4 * i + 3 : Nat) : Int) := mR_w (by omega)
  have w4 : wrap64 (((a + 4 * i + 3 : Nat) : Int) + 1) = ((a + 4 * (i + 1) : Nat) : Int) := mR_w (by omega)
  have w5 : wrap64 ((i : Int) + 1) = ((i + 1 : Nat) : Int) := mR_w (by omega)
  have hr : rd_T45 (marksR a n) (i : Int) = mark4 (a + 4 * i) := by
   rw [rdI _ i hlt]
   show ((List.range n).map fun j => mark4 (a + 4 * j))[i]'(by simpa [marksR] using hlt) = _
   rw [List.getElem_map, List.getElem_range]
  refine Ev.step (f := fun k => (laws_markText.f k ((a + 4 * i : Nat) : Int)).bind fun t => (if (markT ((a + 4 * i : Nat) : Int)).toList = t.toList then ((laws_markText.f k ((a + 4 * i + 3 : Nat) : Int)).bind fun t' => (if (markT ((a + 4 * i + 3 : Nat) : Int)).toList = t'.toList then laws_heldRecordS.l0 k (marksR a n) ((a + 4 * (i + 1) : Nat) : Int) ((i + 1 : Nat) : Int) else some (-1))) else some (-1))) (fun k => ?_) (Ev.bind (markT_ev _ (by omega)) ?_)
  · show laws_heldRecordS.l0 (k + 1) (marksR a n) ((a + 4 * i : Nat) : Int) (i : Int) = _
    rw [laws_heldRecordS.l0, if_pos (by omega), if_pos (by omega), hr]
    simp only [w1, w2, w3, w4, w5, mark4, if_true]
  · simp only [if_true]
    refine Ev.bind (markT_ev _ (by omega)) ?_
    simp only [if_true]
    exact ih
theorem heldR_ev (a n : Nat) (ha : a < 1000000000) (hn : n ≤ 1048576) : Ev (fun k => laws_heldRecordS.f k (marksR a n) (a : Int)) ((a + 4 * n : Nat) : Int) :=
 Ev.congr (fun k => rfl) (heldR_loop a n ha hn n 0 (by omega))
end Go.Proofs.YtiegkjimpclmaaaGreatDoor.Pure
namespace Go.Proofs.YtiegkjimpclmaaaGreatDoor.P
attribute [local go_sem] max2_int min2_int max_two min_two max_three min_three max_four min_four
mutual
def impl_messageBytes.l0 : Nat → List ByteArray → ByteArray → List (S45) → Int → Int → Int → Bool → Bool → Int → ByteArray → Int → List (S45) → List (S45) → Option (ByteArray × Bool)
 | 0, _, _, _, _, _, _, _, _, _, _, _, _, _ => none
 | k + 1, x4, x6, x22, x23, x24, x1028000, x1028001, x1028002, x1028003, x1028004, x1028005, x1028006, x1028007 => if x24 < x23 then (if 0 ≤ x24 then (if x24 < (x22.length : Int) then (if x4.length < 8796093022208 then ((impl_dataBytes.f k ((rd_T45 x22 x24).f1) ((rd_T45 x22 x24).f3)).bind fun t1039 => ((impl_big.f k ((rd_T45 x22 x24).f1) 1).bind fun t1040 => ((impl_big.f k ((rd_T45 x22 x24).f2) 3).bind fun t1041 => (if t1040.size + t1041.size ≤ 9223372036854775807 then ((impl_big.f k (t1039.size : Int) 1).bind fun t1042 => (if (t1040 ++ t1041).size + t1042.size ≤ 9223372036854775807 then (if ((t1040 ++ t1041) ++ t1042).size + t1039.size ≤ 9223372036854775807 then (if x6.size + (((t1040 ++ t1041) ++ t1042) ++ t1039).size ≤ 9223372036854775807 then (impl_messageBytes.l0 k (x4 ++ [(rd_T45 x22 x24).f0]) (x6 ++ (((t1040 ++ t1041) ++ t1042) ++ t1039)) x22 x23 (wrap64 (x24 + 1)) x1028000 x1028001 x1028002 x1028003 x1028004 x1028005 x1028006 x1028007) else (none)) else (none)) else (none))) else (none))))) else (none)) else (none)) else (none)) else ((impl_packed.f k x4).bind fun bt1043 => (if bt1043.2 = true then (if x1028001 = true then (impl_messageBytes.j1 k x6 bt1043.1 128 x1028000 x1028001 x1028002 x1028003 x1028004 x1028005 x1028006 x1028007) else (impl_messageBytes.j1 k x6 bt1043.1 0 x1028000 x1028001 x1028002 x1028003 x1028004 x1028005 x1028006 x1028007)) else (some ((⟨#[]⟩ : ByteArray), false))))
def impl_messageBytes.j1 : Nat → ByteArray → ByteArray → Int → Int → Bool → Bool → Int → ByteArray → Int → List (S45) → List (S45) → Option (ByteArray × Bool)
 | 0, _, _, _, _, _, _, _, _, _, _, _ => none
 | k + 1, x6, x10, x12, x1028000, x1028001, x1028002, x1028003, x1028004, x1028005, x1028006, x1028007 => if x1028002 = true then (impl_messageBytes.j2 k x6 x10 (wrap64 (x12 + 1)) x1028000 x1028001 x1028002 x1028003 x1028004 x1028005 x1028006 x1028007) else (impl_messageBytes.j2 k x6 x10 x12 x1028000 x1028001 x1028002 x1028003 x1028004 x1028005 x1028006 x1028007)
def impl_messageBytes.j2 : Nat → ByteArray → ByteArray → Int → Int → Bool → Bool → Int → ByteArray → Int → List (S45) → List (S45) → Option (ByteArray × Bool)
 | 0, _, _, _, _, _, _, _, _, _, _, _ => none
 | k + 1, x6, x10, x12, x1028000, x1028001, x1028002, x1028003, x1028004, x1028005, x1028006, x1028007 => (impl_big.f k x1028000 2).bind fun t1045 => ((impl_big.f k x12 1).bind fun t1046 => (if t1045.size + t1046.size ≤ 9223372036854775807 then ((impl_big.f k x1028003 1).bind fun t1047 => (if (t1045 ++ t1046).size + t1047.size ≤ 9223372036854775807 then ((impl_big.f k (x1028006.length : Int) 1).bind fun t1048 => (if ((t1045 ++ t1046) ++ t1047).size + t1048.size ≤ 9223372036854775807 then ((impl_big.f k (x1028007.length : Int) 1).bind fun t1049 => (if (((t1045 ++ t1046) ++ t1047) ++ t1048).size + t1049.size ≤ 9223372036854775807 then ((impl_big.f k (x10.size : Int) 2).bind fun t1050 => (if ((((t1045 ++ t1046) ++ t1047) ++ t1048) ++ t1049).size + t1050.size ≤ 9223372036854775807 then (if (((((t1045 ++ t1046) ++ t1047) ++ t1048) ++ t1049) ++ t1050).size + x10.size ≤ 9223372036854775807 then ((impl_big.f k x1028005 1).bind fun t1051 => (if ((((((t1045 ++ t1046) ++ t1047) ++ t1048) ++ t1049) ++ t1050) ++ x10).size + t1051.size ≤ 9223372036854775807 then (if (((((((t1045 ++ t1046) ++ t1047) ++ t1048) ++ t1049) ++ t1050) ++ x10) ++ t1051).size + x6.size ≤ 9223372036854775807 then (some ((((((((t1045 ++ t1046) ++ t1047) ++ t1048) ++ t1049) ++ t1050) ++ x10) ++ t1051) ++ x6, true)) else (none)) else (none))) else (none)) else (none))) else (none))) else (none))) else (none))) else (none)))
end
def impl_messageBytes.f (k : Nat) (a0_0 : Int) (a0_1 : Bool) (a0_2 : Bool) (a0_3 : Int) (a0_4 : ByteArray) (a0_5 : Int) (l0_6 : List (S45)) (l0_7 : List (S45)) : Option (ByteArray × Bool) := (slices_Concat_rec.f l0_6 l0_7).bind fun t1031 => (impl_messageBytes.l0 k (([a0_4] : List ByteArray)) (⟨#[]⟩ : ByteArray) t1031 (t1031.length : Int) 0 a0_0 a0_1 a0_2 a0_3 a0_4 a0_5 l0_6 l0_7)
def impl_messageBytes.T9 : Bool × List (List Nat × List Nat) := (true, [([], []), ([], []), ([1], [1]), ([2], [2]), ([], []), ([4], [4]), ([5, 3], [5]), ([3, 6], [3, 6]), ([], []), ([8], [8]), ([9, 6], [9]), ([7, 10], [7, 10]), ([], []), ([11, 12], [11, 12]), ([0, 13], [0, 13]), ([14, 10, 0, 1, 2, 3, 4, 5, 6, 7, 8, 9, 10, 11, 12, 13, 14], [0, 14])])
def impl_messageBytes.B9 : List Nat := [0, 0, 2, 6, 0, 16, 62, 126, 0, 256, 894, 2046, 0, 8190, 16383, 32767]
theorem impl_messageBytes.tab9 : rtab .any (opsOf Tryz.f106 9) = impl_messageBytes.T9 := by kernel_rfl
theorem impl_messageBytes.bits9 : waitsOk impl_messageBytes.T9.2 impl_messageBytes.B9 = true := by kernel_rfl
def impl_messageBytes.T19 : Bool × List (List Nat × List Nat) := (true, [([], []), ([0], [0]), ([1], [1]), ([], []), ([3, 2], [3]), ([2, 4], [2, 4]), ([], []), ([6], [6]), ([7, 4], [7]), ([5, 8], [5, 8]), ([], []), ([10], [10]), ([11], [11]), ([12, 8], [12]), ([9, 13], [9, 13]), ([], []), ([15], [15]), ([16], [16]), ([17, 13], [17]), ([14, 18], [14, 18]), ([], []), ([20], [20]), ([21, 18], [21]), ([19, 22], [19, 22]), ([], []), ([23, 24], [23, 24]), ([], []), ([26], [26]), ([27, 22], [27]), ([25, 28], [25, 28]), ([], []), ([29, 30], [29, 30]), ([31, 28, 0, 1, 2, 3, 4, 5, 6, 7, 8, 9, 10, 11, 12, 13, 14, 15, 16, 17, 18, 19, 20, 21, 22, 23, 24, 25, 26, 27, 28, 29, 30, 31], [31]), ([32, 0, 1, 2, 3, 4, 5, 6, 7, 8, 9, 10, 11, 12, 13, 14, 15, 16, 17, 18, 19, 20, 21, 22, 23, 24, 25, 26, 27, 28, 29, 30, 31, 32], [])])
def impl_messageBytes.B19 : List Nat := [0, 1, 3, 0, 15, 31, 0, 64, 223, 511, 0, 1024, 3072, 7647, 16383, 0, 32768, 98304, 245215, 524287, 0, 1048576, 3653087, 8388607, 0, 33554431, 0, 67108864, 209173983, 536870911, 0, 2147483647, 4294967295, 8589934591]
theorem impl_messageBytes.tab19 : rtab .any (opsOf Tryz.f106 19) = impl_messageBytes.T19 := by kernel_rfl
theorem impl_messageBytes.bits19 : waitsOk impl_messageBytes.T19.2 impl_messageBytes.B19 = true := by kernel_rfl
theorem impl_messageBytes.calls (k : Nat) (a0_0 : Int) (a0_1 : Bool) (a0_2 : Bool) (a0_3 : Int) (a0_4 : ByteArray) (a0_5 : Int) (A0_6 : Option Addr) (c0_6 : Nat) (l0_6 : List (S45)) (A0_7 : Option Addr) (c0_7 : Nat) (l0_7 : List (S45)) (r1 : ByteArray) (r2 : Bool) (w : World) (hr0_6 : Kd.C k45 w A0_6 l0_6.length l0_6) (hc0_6 : l0_6.length ≤ c0_6) (hr0_7 : Kd.C k45 w A0_7 l0_7.length l0_7) (hc0_7 : l0_7.length ≤ c0_7) (h : impl_messageBytes.f k a0_0 a0_1 a0_2 a0_3 a0_4 a0_5 l0_6 l0_7 = some (r1, r2)) (hv_ : Vars w := by exact vv_) :
 Calls Tryz.prog 106 #[.agg #[.int .i64 a0_0, .bool a0_1, .bool a0_2, .int .i64 a0_3, .string a0_4, .int .i64 a0_5, .slice A0_6 l0_6.length c0_6, .slice A0_7 l0_7.length c0_7]] w fun e w' => e = .returned (.tuple #[.string r1, .bool r2]) ∧ Below w.heap.size w w' := by
 have HV_ := a0_ hv_
 clear hv_
 have hu62 := Tryz.underlying62
 have hu45 := Tryz.underlying45
 have HR0_6 := a0_ hr0_6
 have HC0_6 := a0_ hc0_6
 clear hr0_6 hc0_6
 have HR0_7 := a0_ hr0_7
 have HC0_7 := a0_ hc0_7
 clear hr0_7 hc0_7
 have HB := a0_ (Below.refl w.heap.size w)
 have H := h
 clear h
 unfold impl_messageBytes.f at H
 obtain ⟨y1028, hy1028⟩ : ∃ y_ : List ByteArray, y_ = (([a0_4] : List ByteArray)) := ⟨_, rfl⟩
 rw [← hy1028] at H
 have Ny1028 := a0_ hy1028
 clear hy1028
 obtain ⟨t1031, A2, H⟩ := ob_ H
 have H' := a0_ H
 clear H
 go_enter Tryz.func106, Tryz.ntmps106
 go_wp2_with (first | ((with_reducible refine gate_dst (N := 1) rfl ?_); refine boxS_ 1 #[.int .i64 a0_0, .bool a0_1, .bool a0_2, .int .i64 a0_3, .string a0_4, .int .i64 a0_5, .slice A0_6 l0_6.length c0_6, .slice A0_7 l0_7.length c0_7] 62 (fun gb1027 hg w3 hbox hb => ?_); have BK1027 := a0_ (hbox); have GW1027 := a0_ (gw_ hg : w.heap.size ≤ gb1027); replace HB := a0_ (below_step bq0_ hb); have GE1027 := GW1027; clear hb hbox hg; obtain ⟨z4_0, z4_1, z4_2, z4_3, z4_4, z4_5, z4_6, z4_7, q4_0, q4_1, q4_2, q4_3, q4_4, q4_5, q4_6, q4_7⟩ := bk8_ BK1027.out) | ((with_reducible refine gate_dst (N := 15) rfl ?_); refine ls_ 15 9 ([a0_4] : List ByteArray) ?_; intro v1029 w5 ho6 hb hg_ hnew_; clear hg_ hnew_; (first | rw [← Ny1028.out] at ho6 | (simp only [Int.reduceToNat] at ho6; rw [← Ny1028.out] at ho6)); have HO1030 := a0_ (Kd.R_lower ho6 (below_size bq1_)); replace BK1027 := a0_ (bkB_ BK1027 hb); replace HB := a0_ (below_step bq1_ hb); clear hb ho6; obtain ⟨z7_0, z7_1, z7_2, z7_3, z7_4, z7_5, z7_6, z7_7, q7_0, q7_1, q7_2, q7_3, q7_4, q7_5, q7_6, q7_7⟩ := bk8_ BK1027.out) | (go_at_call 162; (refine (slices_Concat_rec.calls A0_6 c0_6 l0_6 A0_7 c0_7 l0_7 t1031 _ ?side1 ?side2 ?side3 ?side4 A2.out).mono ?_); (case side1 => exact kC_ HR0_6.out HB.out); (case side2 => exact HC0_6.out); (case side3 => exact kC_ HR0_7.out HB.out); (case side4 => exact HC0_7.out); rintro e w8 ⟨v1032, rfl, ho0, hb⟩; replace HO1030 := a0_ (Kd.R_below (kR_ HO1030.out) hb); have HO1033 := a0_ (Kd.R_lower ho0 (below_size bq1_)); replace BK1027 := a0_ (bkB_ BK1027 hb); replace HB := a0_ (below_step bq1_ hb); clear hb; (try clear ho0); obtain ⟨Ao9, co9, eo9⟩ := Kd.R_slice HO1033.out; subst eo9))
 go_loopg [4, 6, 24] k (fun kq v4 v6 v24 w' => ∃ (x4_1 : List ByteArray) (x6_1 : ByteArray) (x24_1 : Int), v6 = .string x6_1 ∧ v24 = .int .i64 x24_1 ∧ Aside0 (impl_messageBytes.l0 kq x4_1 x6_1 t1031 (t1031.length : Int) x24_1 a0_0 a0_1 a0_2 a0_3 a0_4 a0_5 l0_6 l0_7 = some (r1, r2)) ∧ Aside0 (kq ≤ k) ∧ Aside0 (Kd.R Kd.string 9 w' w.heap.size (fun _ => True) v4 x4_1) ∧ Aside0 (Kd.R k45 45 w' w.heap.size (fun _ => True) (.slice Ao9 t1031.length co9) t1031) ∧ Aside0 (w'.heap[gb1027]? = some (.cells #[.int .i64 a0_0, .bool a0_1, .bool a0_2, .int .i64 a0_3, .string a0_4, .int .i64 a0_5, (.slice A0_6 l0_6.length c0_6), (.slice A0_7 l0_7.length c0_7)] 62 (0, 0))) ∧ Aside0 (Below w.heap.size w w'))
 case atStart => exact ⟨(y1028), ((⟨#[]⟩ : ByteArray)), (0), rs_, rs_, H', ⟨Nat.le_refl _⟩, ⟨kR_ HO1030.out⟩, ⟨kR_ HO1033.out⟩, ⟨bz_⟩, ⟨bq1_⟩⟩
 case round =>
  clear H'
  try clear z4_0 z4_1 z4_2 z4_3 z4_4 z4_5 z4_6 z4_7
  try clear z7_0 z7_1 z7_2 z7_3 z7_4 z7_5 z7_6 z7_7
  try clear q4_0 q4_1 q4_2 q4_3 q4_4 q4_5 q4_6 q4_7
  try clear q7_0 q7_1 q7_2 q7_3 q7_4 q7_5 q7_6 q7_7
  obtain ⟨x4_1, x6_1, x24_1, rfl, rfl, HA, HK1, HO_4, HO_22, BK1027, HB⟩ := hrel
  cases gk with
  | zero => exact absurd HA.out (by simp [impl_messageBytes.l0])
  | succ k1 =>
   have H := HA.out
   clear HA
   simp only [impl_messageBytes.l0] at H
   by_cases c10 : x24_1 < (t1031.length : Int)
   case pos =>
    rw [if_pos c10] at H
    have c10b0 := decide_eq_true c10
    clear c10
    by_cases c11 : 0 ≤ x24_1
    case neg =>
     rw [if_neg c11] at H
     exact absurd H (by simp)
    rw [if_pos c11] at H
    have c11b0 := decide_eq_true c11
    clear c11
    by_cases c12 : x24_1 < (t1031.length : Int)
    case neg =>
     rw [if_neg c12] at H
     exact absurd H (by simp)
    rw [if_pos c12] at H
    have c12b0 := decide_eq_true c12
    clear c12
    by_cases c13 : x4_1.length < 8796093022208
    case neg =>
     rw [if_neg c13] at H
     exact absurd H (by simp)
    rw [if_pos c13] at H
    have LMc13 := a0_ c13
    clear c13
    obtain ⟨y1036, hy1036⟩ : ∃ y_ : List ByteArray, y_ = (x4_1 ++ [(rd_T45 t1031 x24_1).f0]) := ⟨_, rfl⟩
    rw [← hy1036] at H
    have Ny1036 := a0_ hy1036
    clear hy1036
    obtain ⟨t1039, A14, H⟩ := ob_ H
    obtain ⟨t1040, A15, H⟩ := ob_ H
    obtain ⟨t1041, A16, H⟩ := ob_ H
    by_cases c17 : t1040.size + t1041.size ≤ 9223372036854775807
    case neg =>
     rw [if_neg c17] at H
     exact absurd H (by simp)
    rw [if_pos c17] at H
    have c17b0 := eq_true c17
    have c17b1 := decide_eq_true c17
    try have c17b2 : (9223372036854775807 < t1040.size + t1041.size) = False := eq_false (Nat.not_lt.2 c17)
    obtain ⟨t1042, A18, H⟩ := ob_ H
    by_cases c19 : (t1040 ++ t1041).size + t1042.size ≤ 9223372036854775807
    case neg =>
     rw [if_neg c19] at H
     exact absurd H (by simp)
    rw [if_pos c19] at H
    have c19b0 := eq_true c19
    have c19b1 := decide_eq_true c19
    try have c19b2 : (9223372036854775807 < (t1040 ++ t1041).size + t1042.size) = False := eq_false (Nat.not_lt.2 c19)
    (try (have c19b7 := c19b2; simp only [ByteArray.size_append, Nat.reduceAdd] at c19b7))
    by_cases c20 : ((t1040 ++ t1041) ++ t1042).size + t1039.size ≤ 9223372036854775807
    case neg =>
     rw [if_neg c20] at H
     exact absurd H (by simp)
    rw [if_pos c20] at H
    have c20b0 := eq_true c20
    have c20b1 := decide_eq_true c20
    try have c20b2 : (9223372036854775807 < ((t1040 ++ t1041) ++ t1042).size + t1039.size) = False := eq_false (Nat.not_lt.2 c20)
    (try (have c20b7 := c20b2; simp only [ByteArray.size_append, Nat.reduceAdd] at c20b7))
    by_cases c21 : x6_1.size + (((t1040 ++ t1041) ++ t1042) ++ t1039).size ≤ 9223372036854775807
    case neg =>
     rw [if_neg c21] at H
     exact absurd H (by simp)
    rw [if_pos c21] at H
    have c21b0 := eq_true c21
    have c21b1 := decide_eq_true c21
    try have c21b2 : (9223372036854775807 < x6_1.size + (((t1040 ++ t1041) ++ t1042) ++ t1039).size) = False := eq_false (Nat.not_lt.2 c21)
    (try (have c21b7 := c21b2; simp only [ByteArray.size_append, Nat.reduceAdd] at c21b7))
    have H' := a0_ H
    clear H
    have p1034 := t0_ (x24_1)
    have q1034 := tl_ (x24_1) (t1031.length)
    obtain ⟨ad1034, e1034, hx1034_0, hx1034_1, hx1034_2, hx1034_3⟩ := at_T45 (Kd.R_reads' HO_22.out).2.2 x24_1 (of_eq_true p1034) (of_eq_true q1034)
    cases e1034
    try go_wp2_with (first | ((with_reducible refine gate_dst (N := 8) rfl ?_); refine boxS_ 8 #[.string (⟨#[]⟩ : ByteArray), .int .i64 0, .int .i64 0, .string (⟨#[]⟩ : ByteArray)] 45 (fun gb1035 hg w22 hbox hb => ?_); replace HO_4 := a0_ (Kd.R_below (kR_ HO_4.out) hb); replace HO_22 := a0_ (Kd.R_below (Kd.R_elderB (kR_ HO_22.out) gb1035 (Nat.le_of_eq hg.symm)) hb); have BK1035 := a0_ (hbox); have GW1035 := a0_ (gw_ hg (below_size bq1_) : w.heap.size ≤ gb1035); replace HB := a0_ (below_step bq1_ hb); have NB1027_1035 := a0_ ((by rw [hg]; exact Nat.ne_of_lt (blk_lt (g := gb1027) (o := .cells #[.int .i64 a0_0, .bool a0_1, .bool a0_2, .int .i64 a0_3, .string a0_4, .int .i64 a0_5, .slice A0_6 l0_6.length c0_6, .slice A0_7 l0_7.length c0_7] 62 (0, 0)) (kB_ BK1027.out)) : gb1027 ≠ gb1035)); have NB1035_1027 := a0_ ((by rw [hg]; exact Nat.ne_of_gt (blk_lt (g := gb1027) (o := .cells #[.int .i64 a0_0, .bool a0_1, .bool a0_2, .int .i64 a0_3, .string a0_4, .int .i64 a0_5, .slice A0_6 l0_6.length c0_6, .slice A0_7 l0_7.length c0_7] 62 (0, 0)) (kB_ BK1027.out)) : gb1035 ≠ gb1027)); replace BK1027 := a0_ (bkB_ BK1027 hb); have GE1035 := GW1035; clear hb hbox hg; have hnb23 := NB1035_1027.out; have hnc23 := NB1027_1035.out; obtain ⟨z24_0, z24_1, z24_2, z24_3, q24_0, q24_1, q24_2, q24_3⟩ := bk4_ BK1035.out) | ((with_reducible refine gate_builtin (b := .append) (xs := #[.tmp 28, .tmp 31]) rfl ?_); at_builtin; refine Kd.R_append Kd.string (w0 := w) w.heap.size rfl (.tmp 28) (.tmp 31) 78 9 (.string ⟨#[]⟩) 16 rfl Tryz.underlying78 info9 rfl (by decide) (by omega) u4 x4_1 ((rd_T45 t1031 x24_1).f0) [.string ((rd_T45 t1031 x24_1).f0)] (fun _ => True) (fun _ => False) rfl (by first | (go_simp; done) | (go_simp; rfl)) ?aP (fun _ hk => hk.elim) ?aF ?aO ?aB ?aS ?aL ?_; (case aP => exact rfl); (case aB => exact bq1_); (case aF => exact (fun _ _ => trivial)); (case aO => exact (kR_ (Kd.R_mono (rf4_ gb1035 (Kd.R_types HO_4.out BK1035.out (by decide)) (fun _ hk => hk.2) (.string ((rd_T45 t1031 x24_1).f0)) (.int .i64 ((rd_T45 t1031 x24_1).f1)) (.int .i64 ((rd_T45 t1031 x24_1).f2)) (.string ((rd_T45 t1031 x24_1).f3))) (fun _ hk => trivial)))); (case aS => exact (below_size bq1_)); (case aL => have := LMc13.out; omega); intro v1037 w25 ho hb hg hat; rw [← Ny1036.out] at ho; replace HO_22 := a0_ (Kd.R_over' (kR_ (Kd.R_mono (rf4_ gb1035 (Kd.R_mono HO_22.out (fun k_ hk => (⟨hk, hk.2⟩ : _ ∧ k_ ≠ gb1035))) (fun _ hk => hk.2) (.string ((rd_T45 t1031 x24_1).f0)) (.int .i64 ((rd_T45 t1031 x24_1).f1)) (.int .i64 ((rd_T45 t1031 x24_1).f2)) (.string ((rd_T45 t1031 x24_1).f3))) (fun _ h_ => h_.1))) (Kd.R_typed (kR_ (farR4_ HO_4.out BK1035.out))) (by decide) hg); replace BK1027 := a0_ (blk_grown (g := gb1027) (o := .cells #[.int .i64 a0_0, .bool a0_1, .bool a0_2, .int .i64 a0_3, .string a0_4, .int .i64 a0_5, .slice A0_6 l0_6.length c0_6, .slice A0_7 l0_7.length c0_7] 62 (0, 0)) (bfar4_ NB1027_1035.out BK1027.out) hg (Kd.R_ne HO_4.out BK1027.out (by decide))); replace BK1035 := a0_ (blk_grown (g := gb1035) (o := .cells #[.string ((rd_T45 t1031 x24_1).f0), .int .i64 ((rd_T45 t1031 x24_1).f1), .int .i64 ((rd_T45 t1031 x24_1).f2), .string ((rd_T45 t1031 x24_1).f3)] 45 (0, 0)) (put4_ BK1035.out) hg (Kd.R_ne HO_4.out BK1035.out (by decide))); replace HB := a0_ (hb); have HO1038 := a0_ (ho); clear HO_4; clear ho hb hg hat; obtain ⟨z26_0, z26_1, z26_2, z26_3, q26_0, q26_1, q26_2, q26_3⟩ := bk4_ BK1035.out) | ((with_reducible refine gt_ 141 rfl ?_); refine gs_ 37 Tryz.func141 #[.int .i64 ((rd_T45 t1031 x24_1).f1), .string ((rd_T45 t1031 x24_1).f3)] ?_; (with_reducible refine (impl_dataBytes.calls k1 ((rd_T45 t1031 x24_1).f1) ((rd_T45 t1031 x24_1).f3) t1039 _ A14.out).mono ?_); rintro e w27 ⟨rfl, hb⟩; refine ⟨_, rfl, ?_⟩; replace HO_22 := a0_ (Kd.R_below (kR_ HO_22.out) hb); replace HO1038 := a0_ (Kd.R_below (kR_ HO1038.out) hb); replace BK1027 := a0_ (bkB_ BK1027 hb); replace BK1035 := a0_ (bkB_ BK1035 hb); replace HB := a0_ (below_step bq1_ hb); clear hb))
    replace HO_22 := a0_ (Kd.R_drew HO_22.out)
    replace HO1038 := a0_ (Kd.R_drew HO1038.out)
    replace BK1027 := a0_ (blk_drew BK1027.out)
    replace BK1035 := a0_ (blk_drew BK1035.out)
    replace HB := a0_ (below_drew1 HB.out)
    refine stH_ 16 [] (eb_ BK1035.out) (fun hHeld => ?_); refine with_tabW impl_messageBytes.tab9 impl_messageBytes.bits9 (fun HT_ HW_ => ?_)
    generalize w27.drew = w28 at HO_22 HO1038 BK1027 BK1035 HB hHeld ⊢
    refine p_ 0 38 ?_
    refine p_ 1 39 ?_
    refine p_ 4 42 ?_
    refine p_ 8 46 ?_
    refine p_ 9 47 ?_
    refine p_ 12 50 ?_
    refine t_ 2 40 ?_
    refine t_ 5 43 ?_
    refine oneS_ 3 (some 41) (fun K hK => ?_)
    refine goes_ Tryz.func89 (by kernel_rfl) rfl #[.int .i64 ((rd_T45 t1031 x24_1).f1), .int .i64 1] (by rfl) rfl rfl argsS_ ?_
    with_reducible refine (impl_big.calls k1 ((rd_T45 t1031 x24_1).f1) 1 t1040 _ A15.out).mono ?_
    rintro e w29 ⟨rfl, hb⟩
    refine ⟨_, rfl, ?_⟩
    replace HO_22 := a0_ (Kd.R_below (kR_ HO_22.out) hb)
    replace HO1038 := a0_ (Kd.R_below (kR_ HO1038.out) hb)
    replace BK1027 := a0_ (bkB_ BK1027 hb)
    replace BK1035 := a0_ (bkB_ BK1035 hb)
    replace HB := a0_ (below_step bq1_ hb)
    (try clear hb)
    (try clear hb2)
    (try clear hk)
    (try clear hi)
    refine hK.out _ _ (eb_ BK1035.out).out (fun hHeld => ?_)
    clear hK K
    refine normS_ ?_
    refine oneS_ 6 (some 44) (fun K hK => ?_)
    refine goes_ Tryz.func89 (by kernel_rfl) rfl #[.int .i64 ((rd_T45 t1031 x24_1).f2), .int .i64 3] (by rfl) rfl rfl argsS_ ?_
    with_reducible refine (impl_big.calls k1 ((rd_T45 t1031 x24_1).f2) 3 t1041 _ A16.out).mono ?_
    rintro e w30 ⟨rfl, hb⟩
    refine ⟨_, rfl, ?_⟩
    replace HO_22 := a0_ (Kd.R_below (kR_ HO_22.out) hb)
    replace HO1038 := a0_ (Kd.R_below (kR_ HO1038.out) hb)
    replace BK1027 := a0_ (bkB_ BK1027 hb)
    replace BK1035 := a0_ (bkB_ BK1035 hb)
    replace HB := a0_ (below_step bq1_ hb)
    (try clear hb)
    (try clear hb2)
    (try clear hk)
    (try clear hi)
    refine hK.out _ _ (eb_ BK1035.out).out (fun hHeld => ?_)
    clear hK K
    refine normS_ ?_
    refine p_ 7 45 ?_
    refine oneS_ 10 (some 48) (fun K hK => ?_)
    refine goes_ Tryz.func89 (by kernel_rfl) rfl #[.int .i64 (t1039.size : Int), .int .i64 1] (by rfl) rfl rfl argsS_ ?_
    with_reducible refine (impl_big.calls k1 (t1039.size : Int) 1 t1042 _ A18.out).mono ?_
    rintro e w31 ⟨rfl, hb⟩
    refine ⟨_, rfl, ?_⟩
    replace HO_22 := a0_ (Kd.R_below (kR_ HO_22.out) hb)
    replace HO1038 := a0_ (Kd.R_below (kR_ HO1038.out) hb)
    replace BK1027 := a0_ (bkB_ BK1027 hb)
    replace BK1035 := a0_ (bkB_ BK1035 hb)
    replace HB := a0_ (below_step bq1_ hb)
    (try clear hb)
    (try clear hb2)
    (try clear hk)
    (try clear hi)
    refine hK.out _ _ (eb_ BK1035.out).out (fun hHeld => ?_)
    clear hK K
    refine normS_ ?_
    refine p_ 11 49 ?_
    refine p_ 13 51 ?_
    refine p_ 14 52 ?_
    refine p_ 15 6 ?_
    refine done_ (done_of HT_.out (by kernel_rfl)) ?_
    try go_wp2
    go_roundg k1
    case measure => have := HK1.out; omega
    case rel => exact ⟨(y1036), (x6_1 ++ (((t1040 ++ t1041) ++ t1042) ++ t1039)), (wrap64 (x24_1 + 1)), rs_, rs_, H', jl_ HK1, ⟨kR_ HO1038.out⟩, ⟨kR_ (Kd.R_mono HO_22.out (fun _ hk => trivial))⟩, ⟨bz_⟩, ⟨bq1_⟩⟩
   rw [if_neg c10] at H
   have c10b0 := decide_eq_false c10
   clear c10
   obtain ⟨⟨t1043, t1044⟩, A32, H⟩ := ob_ H
   by_cases c33 : t1044 = true
   case neg =>
    replace c33 := Bool.eq_false_iff.mpr c33
    subst c33
    rw [if_neg ff_] at H
    simp only [Option.some.injEq, Prod.mk.injEq] at H
    obtain ⟨rfl, rfl⟩ := H
    obtain ⟨Ao65, co65, eo65⟩ := Kd.R_slice HO_4.out
    subst eo65
    go_wp2_with (first | ((with_reducible refine gt_ 163 rfl ?_); refine gs_ 56 Tryz.func163 #[.slice Ao65 x4_1.length co65] ?_; (with_reducible refine (impl_packed.calls k1 _ _ x4_1 t1043 false _ ?side1 ?side2 A32.out).mono ?_); (case side1 => exact kD_ (Kd.R_reads' HO_4.out).2.2); (case side2 => exact (Kd.R_reads' HO_4.out).2.1); rintro e w66 ⟨rfl, hb⟩; refine ⟨_, rfl, ?_⟩; replace HO_4 := a0_ (Kd.R_below (kR_ HO_4.out) hb); replace HO_22 := a0_ (Kd.R_below (kR_ HO_22.out) hb); replace BK1027 := a0_ (bkB_ BK1027 hb); replace HB := a0_ (below_step bq1_ hb); clear hb))
    go_ret2
    exact ⟨rr_, bq1_⟩
   subst c33
   rw [if_pos rfl] at H
   have HC34 := a0_ H
   clear H
   obtain ⟨Ao35, co35, eo35⟩ := Kd.R_slice HO_4.out
   subst eo35
   go_upto_if 62 with (first | ((with_reducible refine gt_ 163 rfl ?_); refine gs_ 56 Tryz.func163 #[.slice Ao35 x4_1.length co35] ?_; (with_reducible refine (impl_packed.calls k1 _ _ x4_1 t1043 true _ ?side1 ?side2 A32.out).mono ?_); (case side1 => exact kD_ (Kd.R_reads' HO_4.out).2.2); (case side2 => exact (Kd.R_reads' HO_4.out).2.1); rintro e w36 ⟨rfl, hb⟩; refine ⟨_, rfl, ?_⟩; replace HO_4 := a0_ (Kd.R_below (kR_ HO_4.out) hb); replace HO_22 := a0_ (Kd.R_below (kR_ HO_22.out) hb); replace BK1027 := a0_ (bkB_ BK1027 hb); replace HB := a0_ (below_step bq1_ hb); clear hb; obtain ⟨z37_0, z37_1, z37_2, z37_3, z37_4, z37_5, z37_6, z37_7, q37_0, q37_1, q37_2, q37_3, q37_4, q37_5, q37_6, q37_7⟩ := bk8_ BK1027.out))
   (try simp only [Act.put, List.setIfInBounds_toArray, List.set_cons_zero, List.set_cons_succ])
   go_cut [12] (fun v12 wc => ∃ (kq : Nat) (x12_33 : Int), v12 = .int .i64 x12_33 ∧ Aside0 (impl_messageBytes.j1 kq x6_1 t1043 x12_33 a0_0 a0_1 a0_2 a0_3 a0_4 a0_5 l0_6 l0_7 = some (r1, r2)) ∧ Aside0 (kq ≤ k1) ∧ Aside0 (wc.heap[gb1027]? = some (.cells #[.int .i64 a0_0, .bool a0_1, .bool a0_2, .int .i64 a0_3, .string a0_4, .int .i64 a0_5, (.slice A0_6 l0_6.length c0_6), (.slice A0_7 l0_7.length c0_7)] 62 (0, 0))) ∧ Aside0 (Below w.heap.size w wc))
   case first =>
    have H := HC34.out
    clear HC34
    by_cases c38 : a0_1 = true
    case pos =>
     subst c38
     rw [if_pos rfl] at H
     have H' := a0_ H
     clear H
     go_wp2
     go_meet
     case rel => exact ⟨_, (128), rs_, H', jl_ HK1, ⟨bz_⟩, ⟨bq1_⟩⟩
    replace c38 := Bool.eq_false_iff.mpr c38
    subst c38
    rw [if_neg ff_] at H
    have H' := a0_ H
    clear H
    go_wp2
    go_meet
    case rel => exact ⟨_, (0), rs_, H', jl_ HK1, ⟨bz_⟩, ⟨bq1_⟩⟩
   case rest =>
    clear HC34
    try clear c1
    try clear p2
    try clear c10
    try clear c10b0
    try clear c33
    try clear z37_0 z37_1 z37_2 z37_3 z37_4 z37_5 z37_6 z37_7
    try clear z4_0 z4_1 z4_2 z4_3 z4_4 z4_5 z4_6 z4_7
    try clear z7_0 z7_1 z7_2 z7_3 z7_4 z7_5 z7_6 z7_7
    try clear q37_0 q37_1 q37_2 q37_3 q37_4 q37_5 q37_6 q37_7
    try clear q4_0 q4_1 q4_2 q4_3 q4_4 q4_5 q4_6 q4_7
    try clear q7_0 q7_1 q7_2 q7_3 q7_4 q7_5 q7_6 q7_7
    try clear p2
    obtain ⟨kq, x12_33, rfl, HA, HJ33, BK1027, HB⟩ := hcut
    cases kq with
    | zero => exact absurd HA.out (by simp [impl_messageBytes.j1])
    | succ kj33 =>
     have H := HA.out
     clear HA
     simp only [impl_messageBytes.j1] at H
     have HC39 := a0_ H
     clear H
     obtain ⟨z40_0, z40_1, z40_2, z40_3, z40_4, z40_5, z40_6, z40_7, q40_0, q40_1, q40_2, q40_3, q40_4, q40_5, q40_6, q40_7⟩ := bk8_ BK1027.out
     go_upto_if 66 with (fail)
     go_cut [12] (fun v12 wc => ∃ (kq : Nat) (x12_38 : Int), v12 = .int .i64 x12_38 ∧ Aside0 (impl_messageBytes.j2 kq x6_1 t1043 x12_38 a0_0 a0_1 a0_2 a0_3 a0_4 a0_5 l0_6 l0_7 = some (r1, r2)) ∧ Aside0 (kq ≤ kj33) ∧ Aside0 (wc.heap[gb1027]? = some (.cells #[.int .i64 a0_0, .bool a0_1, .bool a0_2, .int .i64 a0_3, .string a0_4, .int .i64 a0_5, (.slice A0_6 l0_6.length c0_6), (.slice A0_7 l0_7.length c0_7)] 62 (0, 0))) ∧ Aside0 (Below w.heap.size w wc))
     case first =>
      have H := HC39.out
      clear HC39
      by_cases c41 : a0_2 = true
      case pos =>
       subst c41
       rw [if_pos rfl] at H
       have H' := a0_ H
       clear H
       go_wp2
       go_meet
       case rel => exact ⟨_, (wrap64 (x12_33 + 1)), rs_, H', ⟨by have := HK1.out; have := HJ33.out; first | omega | exact Nat.le_refl _⟩, ⟨bz_⟩, ⟨bq1_⟩⟩
      replace c41 := Bool.eq_false_iff.mpr c41
      subst c41
      rw [if_neg ff_] at H
      have H' := a0_ H
      clear H
      go_wp2
      go_meet
      case rel => exact ⟨_, (x12_33), rs_, H', ⟨by have := HK1.out; have := HJ33.out; first | omega | exact Nat.le_refl _⟩, ⟨bz_⟩, ⟨bq1_⟩⟩
     case rest =>
      clear HC39
      try clear c1
      try clear p1
      try clear q1
      try clear hx1
      try clear c2
      try clear p2
      try clear c3
      try clear p6
      try clear c8
      try clear c10
      try clear c10b0
      try clear p10
      try clear q10
      try clear hx10
      try clear c11
      try clear c11b0
      try clear c12
      try clear c12b0
      try clear c13
      try clear c14
      try clear c16
      try clear c17
      try clear c17b0
      try clear c17b1
      try clear c17b2
      try clear c19
      try clear c19b0
      try clear c19b1
      try clear c19b2
      try clear c20
      try clear c20b0
      try clear c20b1
      try clear c20b2
      try clear c21
      try clear c21b0
      try clear c21b1
      try clear c21b2
      try clear c23
      try clear c33
      try clear c38
      try clear z24_0 z24_1 z24_2 z24_3
      try clear z26_0 z26_1 z26_2 z26_3
      try clear z37_0 z37_1 z37_2 z37_3 z37_4 z37_5 z37_6 z37_7
      try clear z40_0 z40_1 z40_2 z40_3 z40_4 z40_5 z40_6 z40_7
      try clear z4_0 z4_1 z4_2 z4_3 z4_4 z4_5 z4_6 z4_7
      try clear z7_0 z7_1 z7_2 z7_3 z7_4 z7_5 z7_6 z7_7
      try clear q24_0 q24_1 q24_2 q24_3
      try clear q26_0 q26_1 q26_2 q26_3
      try clear q37_0 q37_1 q37_2 q37_3 q37_4 q37_5 q37_6 q37_7
      try clear q40_0 q40_1 q40_2 q40_3 q40_4 q40_5 q40_6 q40_7
      try clear q4_0 q4_1 q4_2 q4_3 q4_4 q4_5 q4_6 q4_7
      try clear q7_0 q7_1 q7_2 q7_3 q7_4 q7_5 q7_6 q7_7
      try clear hx1034_0
      try clear hx1034_1
      try clear hx1034_2
      try clear hx1034_3
      try clear p1
      try clear p10
      try clear p1034
      try clear p2
      try clear p6
      try clear q1
      try clear q10
      try clear q1034
      obtain ⟨kq, x12_38, rfl, HA, HJ38, BK1027, HB⟩ := hcut
      cases kq with
      | zero => exact absurd HA.out (by simp [impl_messageBytes.j2])
      | succ kj38 =>
       have H := HA.out
       clear HA
       simp only [impl_messageBytes.j2] at H
       obtain ⟨t1045, A42, H⟩ := ob_ H
       obtain ⟨t1046, A43, H⟩ := ob_ H
       by_cases c44 : t1045.size + t1046.size ≤ 9223372036854775807
       case neg =>
        rw [if_neg c44] at H
        exact absurd H (by simp)
       rw [if_pos c44] at H
       have c44b0 := eq_true c44
       have c44b1 := decide_eq_true c44
       try have c44b2 : (9223372036854775807 < t1045.size + t1046.size) = False := eq_false (Nat.not_lt.2 c44)
       obtain ⟨t1047, A45, H⟩ := ob_ H
       by_cases c46 : (t1045 ++ t1046).size + t1047.size ≤ 9223372036854775807
       case neg =>
        rw [if_neg c46] at H
        exact absurd H (by simp)
       rw [if_pos c46] at H
       have c46b0 := eq_true c46
       have c46b1 := decide_eq_true c46
       try have c46b2 : (9223372036854775807 < (t1045 ++ t1046).size + t1047.size) = False := eq_false (Nat.not_lt.2 c46)
       (try (have c46b7 := c46b2; simp only [ByteArray.size_append, Nat.reduceAdd] at c46b7))
       obtain ⟨t1048, A47, H⟩ := ob_ H
       by_cases c48 : ((t1045 ++ t1046) ++ t1047).size + t1048.size ≤ 9223372036854775807
       case neg =>
        rw [if_neg c48] at H
        exact absurd H (by simp)
       rw [if_pos c48] at H
       have c48b0 := eq_true c48
       have c48b1 := decide_eq_true c48
       try have c48b2 : (9223372036854775807 < ((t1045 ++ t1046) ++ t1047).size + t1048.size) = False := eq_false (Nat.not_lt.2 c48)
       (try (have c48b7 := c48b2; simp only [ByteArray.size_append, Nat.reduceAdd] at c48b7))
       obtain ⟨t1049, A49, H⟩ := ob_ H
       by_cases c50 : (((t1045 ++ t1046) ++ t1047) ++ t1048).size + t1049.size ≤ 9223372036854775807
       case neg =>
        rw [if_neg c50] at H
        exact absurd H (by simp)
       rw [if_pos c50] at H
       have c50b0 := eq_true c50
       have c50b1 := decide_eq_true c50
       try have c50b2 : (9223372036854775807 < (((t1045 ++ t1046) ++ t1047) ++ t1048).size + t1049.size) = False := eq_false (Nat.not_lt.2 c50)
       (try (have c50b7 := c50b2; simp only [ByteArray.size_append, Nat.reduceAdd] at c50b7))
       obtain ⟨t1050, A51, H⟩ := ob_ H
       by_cases c52 : ((((t1045 ++ t1046) ++ t1047) ++ t1048) ++ t1049).size + t1050.size ≤ 9223372036854775807
       case neg =>
        rw [if_neg c52] at H
        exact absurd H (by simp)
       rw [if_pos c52] at H
       have c52b0 := eq_true c52
       have c52b1 := decide_eq_true c52
       try have c52b2 : (9223372036854775807 < ((((t1045 ++ t1046) ++ t1047) ++ t1048) ++ t1049).size + t1050.size) = False := eq_false (Nat.not_lt.2 c52)
       (try (have c52b7 := c52b2; simp only [ByteArray.size_append, Nat.reduceAdd] at c52b7))
       by_cases c53 : (((((t1045 ++ t1046) ++ t1047) ++ t1048) ++ t1049) ++ t1050).size + t1043.size ≤ 9223372036854775807
       case neg =>
        rw [if_neg c53] at H
        exact absurd H (by simp)
       rw [if_pos c53] at H
       have c53b0 := eq_true c53
       have c53b1 := decide_eq_true c53
       try have c53b2 : (9223372036854775807 < (((((t1045 ++ t1046) ++ t1047) ++ t1048) ++ t1049) ++ t1050).size + t1043.size) = False := eq_false (Nat.not_lt.2 c53)
       (try (have c53b7 := c53b2; simp only [ByteArray.size_append, Nat.reduceAdd] at c53b7))
       obtain ⟨t1051, A54, H⟩ := ob_ H
       by_cases c55 : ((((((t1045 ++ t1046) ++ t1047) ++ t1048) ++ t1049) ++ t1050) ++ t1043).size + t1051.size ≤ 9223372036854775807
       case neg =>
        rw [if_neg c55] at H
        exact absurd H (by simp)
       rw [if_pos c55] at H
       have c55b0 := eq_true c55
       have c55b1 := decide_eq_true c55
       try have c55b2 : (9223372036854775807 < ((((((t1045 ++ t1046) ++ t1047) ++ t1048) ++ t1049) ++ t1050) ++ t1043).size + t1051.size) = False := eq_false (Nat.not_lt.2 c55)
       (try (have c55b7 := c55b2; simp only [ByteArray.size_append, Nat.reduceAdd] at c55b7))
       by_cases c56 : (((((((t1045 ++ t1046) ++ t1047) ++ t1048) ++ t1049) ++ t1050) ++ t1043) ++ t1051).size + x6_1.size ≤ 9223372036854775807
       case neg =>
        rw [if_neg c56] at H
        exact absurd H (by simp)
       rw [if_pos c56] at H
       have c56b0 := eq_true c56
       have c56b1 := decide_eq_true c56
       try have c56b2 : (9223372036854775807 < (((((((t1045 ++ t1046) ++ t1047) ++ t1048) ++ t1049) ++ t1050) ++ t1043) ++ t1051).size + x6_1.size) = False := eq_false (Nat.not_lt.2 c56)
       (try (have c56b7 := c56b2; simp only [ByteArray.size_append, Nat.reduceAdd] at c56b7))
       simp only [Option.some.injEq, Prod.mk.injEq] at H
       obtain ⟨rfl, rfl⟩ := H
       try go_wp2
       replace BK1027 := a0_ (blk_drew BK1027.out)
       replace HB := a0_ (below_drew1 HB.out)
       refine start_ (n := 34) (S := fun w' => w'.cell? ⟨gb1027, 0, none⟩ = some (.int .i64 a0_0) ∧ w'.cell? ⟨gb1027, 1, none⟩ = some (.bool a0_1) ∧ w'.cell? ⟨gb1027, 2, none⟩ = some (.bool a0_2) ∧ w'.cell? ⟨gb1027, 3, none⟩ = some (.int .i64 a0_3) ∧ w'.cell? ⟨gb1027, 4, none⟩ = some (.string a0_4) ∧ w'.cell? ⟨gb1027, 5, none⟩ = some (.int .i64 a0_5) ∧ w'.cell? ⟨gb1027, 6, none⟩ = some (.slice A0_6 l0_6.length c0_6) ∧ w'.cell? ⟨gb1027, 7, none⟩ = some (.slice A0_7 l0_7.length c0_7)) (ds := []) #[false, false, false, false, false, false, false, false, false, false, false, false, false, false, false, false, false, false, false, false, false, false, false, false, false, false, false, false, false, false, false, false, false, false] (by kernel_rfl) rfl rfl ⟨(blk_cell BK1027.out 0).trans rfl, (blk_cell BK1027.out 1).trans rfl, (blk_cell BK1027.out 2).trans rfl, (blk_cell BK1027.out 3).trans rfl, (blk_cell BK1027.out 4).trans rfl, (blk_cell BK1027.out 5).trans rfl, (blk_cell BK1027.out 6).trans rfl, (blk_cell BK1027.out 7).trans rfl⟩ (fun hHeld => ?_); refine with_tabW impl_messageBytes.tab19 impl_messageBytes.bits19 (fun HT_ HW_ => ?_)
       generalize wc.drew = w57 at BK1027 HB hHeld ⊢
       refine p_ 0 69 ?_
       refine p_ 3 72 ?_
       refine p_ 6 75 ?_
       refine p_ 10 79 ?_
       refine p_ 15 84 ?_
       refine p_ 20 89 ?_
       refine p_ 21 90 ?_
       refine p_ 24 93 ?_
       refine p_ 26 95 ?_
       refine p_ 30 99 ?_
       refine t_ 1 70 ?_
       refine t_ 7 76 ?_
       refine t_ 11 80 ?_
       refine p_ 12 81 ?_
       refine t_ 16 85 ?_
       refine p_ 17 86 ?_
       refine t_ 27 96 ?_
       refine oneS_ 2 (some 71) (fun K hK => ?_)
       refine goes_ Tryz.func89 (by kernel_rfl) rfl #[.int .i64 a0_0, .int .i64 2] (by rfl) rfl rfl argsS_ ?_
       with_reducible refine (impl_big.calls kj38 a0_0 2 t1045 _ A42.out).mono ?_
       rintro e w58 ⟨rfl, hb⟩
       refine ⟨_, rfl, ?_⟩
       replace BK1027 := a0_ (bkB_ BK1027 hb)
       replace HB := a0_ (below_step bq1_ hb)
       (try clear hb)
       (try clear hb2)
       (try clear hk)
       (try clear hi)
       refine hK.out _ _ ⟨(blk_cell BK1027.out 0).trans rfl, (blk_cell BK1027.out 1).trans rfl, (blk_cell BK1027.out 2).trans rfl, (blk_cell BK1027.out 3).trans rfl, (blk_cell BK1027.out 4).trans rfl, (blk_cell BK1027.out 5).trans rfl, (blk_cell BK1027.out 6).trans rfl, (blk_cell BK1027.out 7).trans rfl⟩ (fun hHeld => ?_)
       clear hK K
       refine normS_ ?_
       refine oneS_ 4 (some 73) (fun K hK => ?_)
       refine goes_ Tryz.func89 (by kernel_rfl) rfl #[.int .i64 x12_38, .int .i64 1] (by rfl) rfl rfl argsS_ ?_
       with_reducible refine (impl_big.calls kj38 x12_38 1 t1046 _ A43.out).mono ?_
       rintro e w59 ⟨rfl, hb⟩
       refine ⟨_, rfl, ?_⟩
       replace BK1027 := a0_ (bkB_ BK1027 hb)
       replace HB := a0_ (below_step bq1_ hb)
       (try clear hb)
       (try clear hb2)
       (try clear hk)
       (try clear hi)
       refine hK.out _ _ ⟨(blk_cell BK1027.out 0).trans rfl, (blk_cell BK1027.out 1).trans rfl, (blk_cell BK1027.out 2).trans rfl, (blk_cell BK1027.out 3).trans rfl, (blk_cell BK1027.out 4).trans rfl, (blk_cell BK1027.out 5).trans rfl, (blk_cell BK1027.out 6).trans rfl, (blk_cell BK1027.out 7).trans rfl⟩ (fun hHeld => ?_)
       clear hK K
       refine normS_ ?_
       refine p_ 5 74 ?_
       refine oneS_ 8 (some 77) (fun K hK => ?_)
       refine goes_ Tryz.func89 (by kernel_rfl) rfl #[.int .i64 a0_3, .int .i64 1] (by rfl) rfl rfl argsS_ ?_
       with_reducible refine (impl_big.calls kj38 a0_3 1 t1047 _ A45.out).mono ?_
       rintro e w60 ⟨rfl, hb⟩
       refine ⟨_, rfl, ?_⟩
       replace BK1027 := a0_ (bkB_ BK1027 hb)
       replace HB := a0_ (below_step bq1_ hb)
       (try clear hb)
       (try clear hb2)
       (try clear hk)
       (try clear hi)
       refine hK.out _ _ ⟨(blk_cell BK1027.out 0).trans rfl, (blk_cell BK1027.out 1).trans rfl, (blk_cell BK1027.out 2).trans rfl, (blk_cell BK1027.out 3).trans rfl, (blk_cell BK1027.out 4).trans rfl, (blk_cell BK1027.out 5).trans rfl, (blk_cell BK1027.out 6).trans rfl, (blk_cell BK1027.out 7).trans rfl⟩ (fun hHeld => ?_)
       clear hK K
       refine normS_ ?_
       refine p_ 9 78 ?_
       refine oneS_ 13 (some 82) (fun K hK => ?_)
       refine goes_ Tryz.func89 (by kernel_rfl) rfl #[.int .i64 (l0_6.length : Int), .int .i64 1] (by rfl) rfl rfl argsS_ ?_
       with_reducible refine (impl_big.calls kj38 (l0_6.length : Int) 1 t1048 _ A47.out).mono ?_
       rintro e w61 ⟨rfl, hb⟩
       refine ⟨_, rfl, ?_⟩
       replace BK1027 := a0_ (bkB_ BK1027 hb)
       replace HB := a0_ (below_step bq1_ hb)
       (try clear hb)
       (try clear hb2)
       (try clear hk)
       (try clear hi)
       refine hK.out _ _ ⟨(blk_cell BK1027.out 0).trans rfl, (blk_cell BK1027.out 1).trans rfl, (blk_cell BK1027.out 2).trans rfl, (blk_cell BK1027.out 3).trans rfl, (blk_cell BK1027.out 4).trans rfl, (blk_cell BK1027.out 5).trans rfl, (blk_cell BK1027.out 6).trans rfl, (blk_cell BK1027.out 7).trans rfl⟩ (fun hHeld => ?_)
       clear hK K
       refine normS_ ?_
       refine p_ 14 83 ?_
       refine oneS_ 18 (some 87) (fun K hK => ?_)
       refine goes_ Tryz.func89 (by kernel_rfl) rfl #[.int .i64 (l0_7.length : Int), .int .i64 1] (by rfl) rfl rfl argsS_ ?_
       with_reducible refine (impl_big.calls kj38 (l0_7.length : Int) 1 t1049 _ A49.out).mono ?_
       rintro e w62 ⟨rfl, hb⟩
       refine ⟨_, rfl, ?_⟩
       replace BK1027 := a0_ (bkB_ BK1027 hb)
       replace HB := a0_ (below_step bq1_ hb)
       (try clear hb)
       (try clear hb2)
       (try clear hk)
       (try clear hi)
       refine hK.out _ _ ⟨(blk_cell BK1027.out 0).trans rfl, (blk_cell BK1027.out 1).trans rfl, (blk_cell BK1027.out 2).trans rfl, (blk_cell BK1027.out 3).trans rfl, (blk_cell BK1027.out 4).trans rfl, (blk_cell BK1027.out 5).trans rfl, (blk_cell BK1027.out 6).trans rfl, (blk_cell BK1027.out 7).trans rfl⟩ (fun hHeld => ?_)
       clear hK K
       refine normS_ ?_
       refine p_ 19 88 ?_
       refine oneS_ 22 (some 91) (fun K hK => ?_)
       refine goes_ Tryz.func89 (by kernel_rfl) rfl #[.int .i64 (t1043.size : Int), .int .i64 2] (by rfl) rfl rfl argsS_ ?_
       with_reducible refine (impl_big.calls kj38 (t1043.size : Int) 2 t1050 _ A51.out).mono ?_
       rintro e w63 ⟨rfl, hb⟩
       refine ⟨_, rfl, ?_⟩
       replace BK1027 := a0_ (bkB_ BK1027 hb)
       replace HB := a0_ (below_step bq1_ hb)
       (try clear hb)
       (try clear hb2)
       (try clear hk)
       (try clear hi)
       refine hK.out _ _ ⟨(blk_cell BK1027.out 0).trans rfl, (blk_cell BK1027.out 1).trans rfl, (blk_cell BK1027.out 2).trans rfl, (blk_cell BK1027.out 3).trans rfl, (blk_cell BK1027.out 4).trans rfl, (blk_cell BK1027.out 5).trans rfl, (blk_cell BK1027.out 6).trans rfl, (blk_cell BK1027.out 7).trans rfl⟩ (fun hHeld => ?_)
       clear hK K
       refine normS_ ?_
       refine p_ 23 92 ?_
       refine p_ 25 94 ?_
       refine oneS_ 28 (some 97) (fun K hK => ?_)
       refine goes_ Tryz.func89 (by kernel_rfl) rfl #[.int .i64 a0_5, .int .i64 1] (by rfl) rfl rfl argsS_ ?_
       with_reducible refine (impl_big.calls kj38 a0_5 1 t1051 _ A54.out).mono ?_
       rintro e w64 ⟨rfl, hb⟩
       refine ⟨_, rfl, ?_⟩
       replace BK1027 := a0_ (bkB_ BK1027 hb)
       replace HB := a0_ (below_step bq1_ hb)
       (try clear hb)
       (try clear hb2)
       (try clear hk)
       (try clear hi)
       refine hK.out _ _ ⟨(blk_cell BK1027.out 0).trans rfl, (blk_cell BK1027.out 1).trans rfl, (blk_cell BK1027.out 2).trans rfl, (blk_cell BK1027.out 3).trans rfl, (blk_cell BK1027.out 4).trans rfl, (blk_cell BK1027.out 5).trans rfl, (blk_cell BK1027.out 6).trans rfl, (blk_cell BK1027.out 7).trans rfl⟩ (fun hHeld => ?_)
       clear hK K
       refine normS_ ?_
       refine p_ 29 98 ?_
       refine p_ 31 100 ?_
       refine p_ 32 2 ?_
       refine p_ 33 3 ?_
       refine done_ (done_of HT_.out (by kernel_rfl)) ?_
       try go_wp2
       go_ret2
       exact ⟨rr_, bq1_⟩
end Go.Proofs.YtiegkjimpclmaaaGreatDoor.P
